/- The proof, part Y2: Me, Mf. -/
import Derived.Test.YtocdljjhobaabaaGreatDoorY1
namespace Go.Slot
open Go Go.RowKit
variable {P:Program}
def y92 (σ:List AV) (ti:TI) (x y:Operand):Option (List Nat×Nat×AV):=
 match zyf (opd σ y) with
 | none=>none
 | some cs=>
  if cs.length=ti.size then
   match opd σ x with
   | .box old=>match x with
    | .tmp s=>if ti.size<=old.length then some (s::orr y,s,.box (cs++old.drop ti.size)) else none
    | _=>none
   | .obx old=>match x with
    | .tmp s=>if ti.size<=old.length then some (s::orr y,s,.obx (cs++old.drop ti.size)) else none
    | _=>none
   | .ptr s off=>match (gt σ s).v41 with
    | some old=>if off+ti.size<=old.length then some (s::(orr x++orr y),s,(gt σ s).v1t (old.take off++cs++old.drop (off+ti.size))) else none
    | none=>none
   | .pel s m i f=>match gt σ s with
    | .arr pre c post=>if c.esz=m then match c.upd i f (yf8 cs) with
     | some c'=>some (s::(orr x++orr y),s,.arr pre c' post)
     | none=>none
     else none
    | _=>none
   | _=>none
  else none
theorem y89 {T:TypeId} {ti:TI} (hti:TIok P T ti) {w:World} {b off:Nat} {vs:List Value} {Tb:TypeId} (hb:w.heap[b]? = some (.cells vs.toArray Tb (0,0)))
 {v:Value} (hsz:v.cells.size=ti.size) (h1:∀ u∈v.cells.toList,u.oneCell'=true) (hfit:off+ti.size<=vs.length) :
 (storeVar T ⟨b,off,none⟩ v).run P w=.ok () (w.setRow b (vs.take off++v.cells.toList++vs.drop (off+ti.size)).toArray):=by
 obtain ⟨d,i,z,hd,hi,hz,hsz',hby,hzs,hone,hzc,hsh⟩:=hti.ex;have hst:=run_storeCells_at P b off Tb v.cells.toList 0 vs.toArray w hb (by simp [hsz];omega) h1;unfold storeVar;simp only [Sem.run_bind,yg7 hi,Result.andThen_ok];rw [hsz,hsz'];simp only [ne_eq,not_true_eq_false,if_false];simpa [hsz] using hst
theorem y7r {α:Type} (l:List α) (i:Nat) (x:α) (h:i<l.length):l.set i x=l.take i++[x]++l.drop (i+1):=by
 rw [List.set_eq_take_append_cons_drop,if_pos h];simp
theorem ykx {σ:List AV} {o:Oper} {T:TypeId} {x y:Operand} (ho:o.op=.store T x y) (hdst:o.dst=none) {ti:TI} (hti:mkTI P T=some ti) {rd:List Nat} {s:Nat} {av:AV}
 (hst:y92 σ ti x y=some (rd,s,av)):ztu P o σ rd [] [(s,av)]:=by
 have hok:=xky hti;intro E σ' a w hag _ ⟨τ,M,hI⟩ K Q hK;unfold y92 at hst;split at hst
 . cases hst
 rename_i cs hcs;split at hst
 . rename_i hlen
   have common:(∀ t∈orr y,t∈rd)->RdL M w τ (a.eval y).cells.toList cs/\(a.eval y).cells.size=ti.size/\(∀ u∈(a.eval y).cells.toList,u.oneCell'=true)/\∀ t,wj1 t cs->live σ' t:=fun hy=>by
    have hoy:opd σ' y=opd σ y:=hag.opd hy;have hs:=hI.opd y;rw [hoy] at hs;have hr:=zm1 hcs hs;refine ⟨hr,?_,hr.ones,fun t ht=>?_⟩
    . rw [<-hlen,<-hr.length];simp
    . have:=vgv hcs ht
      rw [<-hoy] at this;exact x46 this
   have boxcase:∀(off:Nat) (old:List Cell),(gt σ' s).v41=some old->a.eval x=.pointer (some ⟨blk (a.tmps.getD s Go.undef),off,none⟩)->off+ti.size<=old.length->(∀ t∈orr y,t∈rd)->
    av=(gt σ' s).v1t (old.take off++cs++old.drop (off+ti.size))->o.wp P a w K Q:=fun off old hg hx hfit hy hav=>by
    obtain ⟨hr,hsz,hone,htok⟩:=common hy;obtain ⟨b,vs,Tb,e,hb,hrb⟩:=xsv (hI.gt s) hg;have hvl:=hrb.length
    have hbb:blk (a.tmps.getD s Go.undef)=b:=by rw [e];rfl
    rw [hbb] at hx;have hrun:=y89 hok hb hsz hone (off:=off) (by omega);unfold Oper.wp;simp only [execOp,ho,Instr.storeAt,hx,Instr.sureAddr,Sem.run_bind,Sem.run_pure,Result.andThen_ok,hrun];show K (a.put o.dst Go.undef) _;rw [hdst];refine hK _ _ ⟨τ,M,?_⟩;have hgs:=w3d (av:=gt σ' s) rfl (xdi hg).2.2
    have hav':av.v41=some (old.take off++cs++old.drop (off+ti.size))/\av.fits true=true/\av.fits false=false/\av.xeo=true/\av.fresh=(gt σ' s).fresh:=by
     rw [hav];generalize gt σ' s=g at hg
     cases g<;>first | exact ⟨rfl,rfl,rfl,rfl,rfl⟩ | cases hg
    have hrw:=hI.rewrite (new:=av) hgs (xdi hg).1 hav'.2.2.2.1 (by
     intro b' hf
     cases b' with
     | true=>exact hav'.2.1
     | false=>
      exfalso;generalize gt σ' s=g at hg hf
      cases g<;>simp [AV.fits,AV.y20,AV.v41] at hf hg) hav'.2.2.2.2
     (vs.take off++(a.eval y).cells.toList++vs.drop (off+ti.size)).toArray ?_ ?_
    . rw [hbb] at hrw;exact hrw
    . intro vs1 T1 _;rw [hbb];have hM:∀ o,M b o:=hbb▸(hI.hold s _ hgs (xdi hg).1).1
      have hk:xhx M M w (w.setRow b (vs.take off++(a.eval y).cells.toList++vs.drop (off+ti.size)).toArray):=fun b' o u hm hc=>⟨hm,by
       rw [cell_setRow_other]
       . exact hc
       . exact fun e'=>hm (by rw [show b'=b from e'];exact hM o)⟩
      have hnew:=(((hrb.take off).append hr).append (hrb.drop (off+ti.size))).keep hk (fun _ _=>rfl);have hex:∃(b_1:Nat) (vs_1:List Value) (T:TypeId),a.tmps.getD s Go.undef=.pointer (some ⟨b_1,0,none⟩)/\(w.setRow b (vs.take off++(a.eval y).cells.toList++vs.drop (off+ti.size)).toArray).heap[b_1]? = some (.cells vs_1.toArray T (0,0))/\
       RdL M (w.setRow b (vs.take off++(a.eval y).cells.toList++vs.drop (off+ti.size)).toArray) τ vs_1 (old.take off++cs++old.drop (off+ti.size)):=⟨b,_,Tb,e,setRow_heap w b _ _ Tb (0,0) hb,hnew⟩
      have hbo:=hav'.1
      cases av<;>first | (cases hbo;exact hex) | cases hbo
    . intro t ht;rw [z9w hav'.1] at ht
      have hold:∀ t,wj1 t old->live σ' t:=fun t ht=>⟨s,_,hgs,(z9w hg t).2 ht⟩
      rcases zrw ht with ht | ht
      . rcases zrw ht with ht | ht
        . exact hold t (zaa ht)
        . exact htok t ht
      . exact hold t (wmi ht)
   split at hst
   . rename_i old hx;split at hst
     . rename_i s';split at hst
       . rename_i hfit
         cases hst
         have hg:gt σ' s=.box old:=by rw [hag.2 s (by simp)];exact hx
         have hs:=hI.gt s;rw [hg] at hs;obtain ⟨b,vs,Tb,e,hb,hrb⟩:=hs;refine boxcase 0 old (by rw [hg];rfl) ?_ (by omega) (fun t ht=>by simp [ht]) (by rw [hg];simp [AV.v1t]);show a.tmps.getD s Go.undef=_;rw [e];rfl
       . cases hst
     . cases hst
   . rename_i old hx;split at hst
     . rename_i s';split at hst
       . rename_i hfit
         cases hst
         have hg:gt σ' s=.obx old:=by rw [hag.2 s (by simp)];exact hx
         have hs:=hI.gt s;rw [hg] at hs;obtain ⟨b,vs,Tb,e,hb,hrb⟩:=hs;refine boxcase 0 old (by rw [hg];rfl) ?_ (by omega) (fun t ht=>by simp [ht]) (by rw [hg];simp [AV.v1t]);show a.tmps.getD s Go.undef=_;rw [e];rfl
       . cases hst
     . cases hst
   . rename_i s' off hx;split at hst
     . rename_i old hg0;split at hst
       . rename_i hfit
         cases hst;have hgg:gt σ' s=gt σ s:=hag.2 s (by simp);have hox:opd σ' x=opd σ x:=hag.opd (fun t ht=>by simp [ht]);have hs:=hI.opd x;rw [hox,hx] at hs;exact boxcase off old (by rw [hgg];exact hg0) hs hfit (fun t ht=>by simp [ht]) (by rw [hgg])
       . cases hst
     . cases hst
   . rename_i s' m i f hx;split at hst
     . rename_i pre c post hg0;split at hst
       . rename_i hm;split at hst
         . rename_i c' hupd
           cases hst;subst hm
           have hg:gt σ' s=.arr pre c post:=by rw [hag.2 s (by simp)];exact hg0
           have hox:opd σ' x=opd σ x:=hag.opd (fun t ht=>by simp [ht]);have hs:=hI.opd x;rw [hox,hx] at hs;have hs:a.eval x=.pointer (some ⟨blk (a.tmps.getD s Go.undef),offV (a.tmps.getD s Go.undef)+i*c.esz+f,none⟩):=hs;obtain ⟨hr,hsz,hone,htok⟩:=common (fun t ht=>by simp [ht]);have hss:=hI.gt s;rw [hg] at hss;obtain ⟨b,Tb,vs,q,cap,e,hb,hrd,hpost,hu,hcap,hcap'⟩:=hss;obtain ⟨hu',hcnt,hesz,hfit,hflat⟩:=Cell.xnk hu hupd
           have hbb:blk (a.tmps.getD s Go.undef)=b:=by rw [e];rfl
           rw [hbb] at hs
           have hoff:offV (a.tmps.getD s Go.undef)=pre.length:=by rw [e];rfl
           rw [hoff] at hs;have hvl:=hrd.length
           have hbl:(yf8 cs).length=cs.length:=by rw [<-hr.bare.length,hr.length]
           have hul:(a.eval y).cells.toList.length=(yf8 cs).length:=hr.bare.length
           have hsz':ti.size=(yf8 cs).length:=by rw [<-hlen,hbl]
           have hrun:=y89 hok hb hsz hone (off:=pre.length+i*c.esz+f) (by simp;omega);have hnew:(pre++(vs++q)).take (pre.length+i*c.esz+f)++(a.eval y).cells.toList++(pre++(vs++q)).drop (pre.length+i*c.esz+f+ti.size) =
            pre++((vs.take (i*c.esz+f)++(a.eval y).cells.toList++vs.drop (i*c.esz+f+(yf8 cs).length))++q):=by
            rw [List.take_append,List.drop_append,List.take_of_length_le (by omega),List.drop_eq_nil_of_le (by omega),hsz'];rw [show pre.length+i*c.esz+f-pre.length=i*c.esz+f by omega,show pre.length+i*c.esz+f+(yf8 cs).length-pre.length=i*c.esz+f+(yf8 cs).length by omega];rw [List.take_append_of_le_length (by omega),List.drop_append_of_le_length (by omega)];simp
           rw [hnew] at hrun;unfold Oper.wp;simp only [execOp,ho,Instr.storeAt,hs,Instr.sureAddr,Sem.run_bind,Sem.run_pure,Result.andThen_ok,hrun];show K (a.put o.dst Go.undef) _;rw [hdst];refine hK _ _ ⟨τ,M,?_⟩;have hgs:=w3d hg (by simp);have hrw:=hI.rewrite (new:=.arr pre c' post) hgs rfl rfl (by intro b' hf;cases b'<;>simp_all [AV.fits,AV.vb8,AV.y20]) (by cases post<;>rfl)
            (pre++((vs.take (i*c.esz+f)++(a.eval y).cells.toList++vs.drop (i*c.esz+f+(yf8 cs).length))++q)).toArray ?_ (fun t ht=>ht.elim)
           . rw [hbb] at hrw;exact hrw
           . intro vs1 T1 _;rw [hbb];have hM:∀ o,M b o:=hbb▸(hI.hold s _ hgs rfl).1
             have hk:xhx M M w (w.setRow b (pre++((vs.take (i*c.esz+f)++(a.eval y).cells.toList++vs.drop (i*c.esz+f+(yf8 cs).length))++q)).toArray):=fun b' o u hm hc=>⟨hm,by
              rw [cell_setRow_other]
              . exact hc
              . exact fun e'=>hm (by rw [show b'=b from e'];exact hM o)⟩
             refine ⟨b,Tb,vs.take (i*c.esz+f)++(a.eval y).cells.toList++vs.drop (i*c.esz+f+(yf8 cs).length),q,cap,by rw [e,hcnt],setRow_heap w b _ _ Tb (0,0) hb,?_,hpost,hu',by rw [hcnt];exact hcap,?_⟩
             . rw [hflat];exact (((hrd.take _).append hr.bare).append (hrd.drop _)).keep hk
             . rw [hesz];simp only [List.length_append,List.length_take,List.length_drop,hul];omega
         . cases hst
       . cases hst
     . cases hst
   . cases hst
 . cases hst
theorem x8t {d:TypeDesc} {fs:List (Nat×Nat×TypeId)} (h:shOf P d=.struct fs):∃ fl,d=.struct fl/\fs=fl.toList.map (fun f=>(f.offset,P.cellsOf f.type,f.type))/\∀ f∈fl.toList,P.cellsOf f.type≠0:=by
 cases d with
 | struct fl=>
  unfold shOf at h;dsimp only at h;split at h
  . rename_i hc
    cases h;exact ⟨fl,rfl,rfl,fun f hf=>by simpa using (List.all_eq_true.1 hc) f hf⟩
  . cases h
 | slice e=>
  exfalso;revert h;unfold shOf;dsimp only
  split
  . split
    . split<;>simp
    . simp
  . simp
 | _=>simp [shOf] at h
def wqd (σ:List AV) (ti:TI) (x:Operand) (f:Nat):Option AV:=
 match ti.sh with
 | .struct fs=>match fs[f]? with
  | some (off,_,_)=>match opd σ x with
   | .box _=>match x with
    | .tmp t=>some (.ptr t off)
    | _=>none
   | .obx _=>match x with
    | .tmp t=>some (.ptr t off)
    | _=>none
   | .ptr s o=>some (.ptr s (o+off))
   | .pel s m i f=>some (.pel s m i (f+off))
   | .elt cs=>some (.elt (cs.drop off))
   | _=>none
  | none=>none
 | _=>none
theorem vic {t:TypeId} (h:P.cellsOf t≠0):∃ i,P.info? t=some i/\i.size=P.cellsOf t:=by
 unfold Program.cellsOf at *
 cases hi:P.info? t with
 | none=>simp [hi] at h
 | some i=>exact ⟨i,rfl,by simp⟩
theorem y78 (b off n:Nat):(⟨b,off,none⟩:Addr).add n=⟨b,off+n,none⟩:=by unfold Addr.add;split<;>simp_all
theorem w5l {S:TypeId} {ti:TI} (hti:TIok P S ti) {fs:List (Nat×Nat×TypeId)} (hs:ti.sh=.struct fs) {f off sz:Nat} {ft:TypeId} (hf:fs[f]? = some (off,sz,ft)) (w:World) (b o:Nat) :
 (Instr.fieldAt S (.pointer (some ⟨b,o,none⟩)) f).run P w=.ok (.pointer (some ⟨b,o+off,none⟩)) w:=by
 obtain ⟨d,i,z,hd,hi,hz,hsz',hby,hzs,hone,hzc,hsh⟩:=hti.ex;obtain ⟨fl,rfl,rfl,hne⟩:=x8t (hsh.symm.trans hs);simp only [List.getElem?_map,Option.map_eq_some_iff,Prod.mk.injEq] at hf;obtain ⟨fd,hfd,rfl,rfl,rfl⟩:=hf
 have hfd':fl[f]? = some fd:=by simpa using hfd
 have hm:fd∈fl.toList:=List.mem_of_getElem? hfd;obtain ⟨j,hj,hjs⟩:=vic (hne fd hm)
 have hj0:j.size≠0:=by rw [hjs];exact hne fd hm
 unfold Instr.fieldAt;simp only [Sem.run_bind,z6x hd,Result.andThen_ok,hfd',Instr.sureAddr,Sem.run_pure,fieldPlace,yg7 hj,hj0,if_false,y78]
theorem wly {σ:List AV} {o:Oper} {S:TypeId} {x:Operand} {f:Nat} (ho:o.op=.fieldAddr S x f) {ti:TI} (hti:mkTI P S=some ti) {av:AV} (hfa:wqd σ ti x f=some av)
 {r:List Nat×List (Nat×AV)} (h:val σ o (orr x) av=some r):ztu P o σ r.1 [] r.2:=by
 obtain ⟨d,hdst,hn,rfl⟩:=xlk h;have hok:=xky hti
 have hnh:av.xeo=false/\∀ t,¬av.y1a t:=by
  unfold wqd at hfa
  repeat' split at hfa
  all_goals first | (cases hfa;exact ⟨rfl,fun t h=>h⟩) | cases hfa
 refine ztu.val hdst (by simp) hn hnh.1 (fun E τ M σ' a w hag hI=>?_);have hop:opd σ' x=opd σ x:=hag.opd (fun t ht=>by simp [ht]);have hs:=hI.opd x;rw [hop] at hs;unfold wqd at hfa;split at hfa
 . rename_i fs hsh;split at hfa
   . rename_i off sz ft hff;have fin:∀(b o':Nat),a.eval x=.pointer (some ⟨b,o',none⟩)->x5d M w τ a.tmps (.pointer (some ⟨b,o'+off,none⟩)) av->
      (∀(s:Nat) (b:Bool),av.rf=some (s,b)->∃ hv:AV,σ'[s]? = some hv/\hv.fits b=true)->
      ∃ v w',(execOp a.eval o).run P w=.ok (.value v) w'/\Below w.heap.size w w'/\x5d M w' τ a.tmps v av/\(∀ t,av.y1a t->live σ' t)/\
      (∀(s:Nat) (b:Bool),av.rf=some (s,b)->∃ hv:AV,σ'[s]? = some hv/\hv.fits b=true):=fun b o' hx hsl hrf=>
      ⟨_,w,by simp [execOp,ho,hx,w5l hok hsh hff w b o'],znd w,hsl,fun t ht=>absurd ht (hnh.2 t),hrf⟩
     split at hfa
     . rename_i cs hx;split at hfa
       . rename_i t
         cases hfa;rw [hx] at hs;obtain ⟨b,vs,Tb,e,hb,hr⟩:=hs;refine fin b 0 e ?_ (fun s b' hr'=>?_)
         . show _=Value.pointer (some ⟨blk (a.eval (.tmp t)),off,none⟩);rw [e];simp [blk]
         . simp only [AV.rf,Option.some.injEq,Prod.mk.injEq] at hr';obtain ⟨rfl,rfl⟩:=hr';exact ⟨_,w3d (hop.trans hx) (by simp),rfl⟩
       . cases hfa
     . rename_i cs hx;split at hfa
       . rename_i t
         cases hfa;rw [hx] at hs;obtain ⟨b,vs,Tb,e,hb,hr⟩:=hs;refine fin b 0 e ?_ (fun s b' hr'=>?_)
         . show _=Value.pointer (some ⟨blk (a.eval (.tmp t)),off,none⟩);rw [e];simp [blk]
         . simp only [AV.rf,Option.some.injEq,Prod.mk.injEq] at hr';obtain ⟨rfl,rfl⟩:=hr';exact ⟨_,w3d (hop.trans hx) (by simp),rfl⟩
       . cases hfa
     . rename_i s o' hx
       cases hfa;rw [hx] at hs;refine fin _ o' hs rfl (fun s' b' hr'=>?_)
       cases x with
       | tmp t=>exact hI.refs t _ s' b' (w3d (hop.trans hx) (by simp)) (by simpa [AV.rf] using hr')
       | const v=>
        exfalso;simp only [opd,vkt] at hx;split at hx
        . split at hx<;>cases hx
        . cases hx
        . cases hx
       | func f=>cases hx
       | global g=>cases hx
     . rename_i s m i f' hx
       cases hfa;rw [hx] at hs;refine fin _ _ hs (by show _=Value.pointer _;rw [Nat.add_assoc]) (fun s' b' hr'=>?_)
       cases x with
       | tmp t=>exact hI.refs t _ s' b' (w3d (hop.trans hx) (by simp)) (by simpa [AV.rf] using hr')
       | const v=>
        exfalso;simp only [opd,vkt] at hx;split at hx
        . split at hx<;>cases hx
        . cases hx
        . cases hx
       | func f=>cases hx
       | global g=>cases hx
     . rename_i cs hx
       cases hfa;rw [hx] at hs;obtain ⟨b,o',vs,e,hc,hr⟩:=hs;refine fin b o' e ⟨b,o'+off,vs.drop off,rfl,fun j u hj=>?_,hr.drop off⟩ (fun s b hr=>by cases hr);rw [List.getElem?_drop] at hj
       have:=hc (off+j) u hj
       rwa [<-Nat.add_assoc] at this
     . cases hfa
   . cases hfa
 . cases hfa
def yry (σ:List AV) (x:Operand) (n:Nat):Option AV:=
 match opd σ x with
 | .tup l=>match l[n]? with
  | some (.one c)=>some (.one c)
  | some (.agg cs)=>some (.agg cs)
  | some .any=>some .any
  | _=>none
 | _=>none
theorem RdB.slot {M:Nat->Nat->Prop} {w:World} {τ:Nat->TV} {tm:Array Value} {v:Value} {av:AV} (h:RdB M w v av):x5d M w τ tm v av/\∀ t,¬av.y1a t:=by
 cases av with
 | one c=>exact ⟨RdT.of h,fun t ht=>by cases c<;>first | exact ht.elim | exact h.wbu⟩
 | agg cs=>obtain ⟨vs,rfl,h⟩:=h;exact ⟨⟨vs,rfl,h.z5e⟩,fun t ht=>h.x6p ht⟩
 | any=>exact ⟨trivial,fun t ht=>ht⟩
 | undef=>exact ⟨h,fun t ht=>ht⟩
 | elt cs=>exact ⟨h,fun t ht=>ht⟩
 | _=>exact h.elim
theorem zr0 {σ:List AV} {o:Oper} {x:Operand} {n:Nat} (ho:o.op=.extract x n) {av:AV} (hfa:yry σ x n=some av)
 {r:List Nat×List (Nat×AV)} (h:val σ o (orr x) av=some r):ztu P o σ r.1 [] r.2:=by
 obtain ⟨d,hdst,hn,rfl⟩:=xlk h
 have hnh:av.xeo=false/\av.rf=none:=by
  unfold yry at hfa
  repeat' split at hfa
  all_goals first | (cases hfa;exact ⟨rfl,rfl⟩) | cases hfa
 refine ztu.val hdst (by simp) hn hnh.1 (fun E τ M σ' a w hag hI=>?_);have hop:opd σ' x=opd σ x:=hag.opd (fun t ht=>by simp [ht]);have hs:=hI.opd x;rw [hop] at hs
 have:∃ l,opd σ x=.tup l/\l[n]? = some av:=by
  unfold yry at hfa;split at hfa
  . rename_i l hl;refine ⟨l,hl,?_⟩
    split at hfa<;>first | (cases hfa;assumption) | cases hfa
  . cases hfa
 obtain ⟨l,hl,hav⟩:=this;rw [hl] at hs;obtain ⟨vs,e,hr⟩:=hs;obtain ⟨v,hv,hrb⟩:=hr.get n av hav;have hsl:=hrb.slot (τ:=τ) (tm:=a.tmps);refine ⟨v,w,?_,znd w,hsl.1,fun t ht=>absurd ht (hsl.2 t),fun s b hr=>by rw [hnh.2] at hr;cases hr⟩;simp [execOp,ho,e,Instr.extract,hv]
def elemAt:Cell->Nat->Option (Nat×List Cell)
 | .ints k l,i=>if i<l.length then some (1,[.raw (.int k (l.getD i 0))]) else none
 | .sl n rows,i=>if i<rows.length then some (n,rows.getD i []) else none
 | .tok _ (.ints k l),i=>if i<l.length then some (1,[.raw (.int k (l.getD i 0))]) else none
 | .tok _ (.sl n rows),i=>if i<rows.length then some (n,rows.getD i []) else none
 | _,_=>none
def xq4 (σ:List AV) (ti:TI) (x y:Operand):Option (List Nat×AV):=
 match opd σ y with
 | .one (.raw (.int _ n)) =>
  if 0<=n then
   match ti.sh with
   | .slice _ es _ _=>match opd σ x with
    | .one c=>match elemAt c n.toNat with
     | some (m,cs)=>if m=es then some (orr x++orr y,.elt cs) else none
     | none=>none
    | .arr _ c _=>match x with
     | .tmp t=>if es=c.esz/\n.toNat<c.cnt then some (orr x++orr y,.pel t es n.toNat 0) else none
     | _=>none
    | .asl s=>match gt σ s with
     | .arr _ c _=>if es=c.esz/\n.toNat<c.cnt then some (s::(orr x++orr y),.pel s es n.toNat 0) else none
     | _=>none
    | .awn s m lo k=>if es=m/\n.toNat<k then some (orr x++orr y,.pel s es (lo+n.toNat) 0) else none
    | _=>none
   | .array m _ es=>match opd σ x with
    | .box _=>match x with
     | .tmp t=>if n.toNat<m/\es≠0 then some (orr x++orr y,.ptr t (n.toNat*es)) else none
     | _=>none
    | .obx _=>match x with
     | .tmp t=>if n.toNat<m/\es≠0 then some (orr x++orr y,.ptr t (n.toNat*es)) else none
     | _=>none
    | .ptr s o=>if n.toNat<m/\es≠0 then some (orr x++orr y,.ptr s (o+n.toNat*es)) else none
    | .pel s m' i f=>if n.toNat<m/\es≠0 then some (orr x++orr y,.pel s m' i (f+n.toNat*es)) else none
    | .elt cs=>if n.toNat<m/\es≠0 then some (orr x++orr y,.elt (cs.drop (n.toNat*es))) else none
    | _=>none
   | _=>none
  else none
 | _=>none
def wpb (M:Nat->Nat->Prop) (w:World) (v:Value) (i m:Nat) (cs:List Cell):Prop:=
 ∃(b off len cap:Nat) (vs:List Value),v=.slice (some ⟨b,off,none⟩) len cap/\i<len/\(∀ j u,vs[j]? = some u->¬M b (off+i*m+j)/\w.cell? ⟨b,off+i*m+j,none⟩=some u)/\RdD M w vs cs
theorem vnr {M : Nat → Nat → Prop} {w : World} {τ : Nat → TV} {v : Value} {c : Cell} (h : RdT M w τ v c) {i m : Nat} {cs : List Cell} (he : elemAt c i = some (m, cs)) :
 wpb M w v i m cs:=by
 have ints:∀ k l,RdC M w v (.ints k l)->(if i<l.length then some (1,[Cell.raw (.int k (l.getD i 0))]) else none)=some (m,cs)->wpb M w v i m cs:=fun k l hr he=>by
  split at he
  . rename_i hi
    cases he
    cases hr with
    | ints b off hl hc ha hcell=>
     have hne:l≠[]:=fun e=>by rw [e] at hi;simp at hi
     rw [ha hne];refine ⟨b,off,_,_,[.int k (l.getD i 0)],rfl,by omega,fun j u hj=>?_,⟨RdC.raw rfl,trivial⟩⟩
     cases j with
     | zero=>
      simp at hj;subst hj
      have:=hcell i hi
      simpa [hi] using this
     | succ j=>simp at hj
  . cases he
 have rows:∀ n rows,RdC M w v (.sl n rows)->(if i<rows.length then some (n,rows.getD i []) else none)=some (m,cs)->wpb M w v i m cs:=fun n rows hr he=>by
  split at he
  . rename_i hi
    cases he
    cases hr with
    | sl b off u hl hc ha hn hm hr=>
     have hne:rows≠[]:=fun e=>by rw [e] at hi;simp at hi
     rw [ha hne];have hrl:rows[i].length=m:=hn _ (List.getElem_mem hi);refine ⟨b,off,_,_,(List.range m).map (u i),rfl,by omega,fun j x hj=>?_,?_⟩
     . simp only [List.getElem?_map] at hj;by_cases hjn:j<m
       . have:=hm i hi j hjn
         simp [hjn] at hj
         rwa [<-hj]
       . simp [hjn] at hj
     . have e:rows.getD i []=rows[i]:=by simp [hi]
       rw [e]
       have gen:∀(cs:List Cell) (f:Nat->Value),(∀ j (hj:j<cs.length),RdC M w (f j) cs[j])->RdD M w ((List.range cs.length).map f) cs:=by
        intro cs
        induction cs with
        | nil=>intro f _;exact trivial
        | cons c cs ih=>
         intro f hf;rw [List.length_cons,List.range_succ_eq_map,List.map_cons,List.map_map];exact ⟨hf 0 (by simp),ih (f∘Nat.succ) (fun j hj=>hf (j+1) (by simpa using hj))⟩
       have:=gen rows[i] (u i) (fun j hj=>hr i hi j hj)
       rwa [hrl] at this
  . cases he
 cases c with
 | ints k l=>exact ints k l h he
 | sl n r=>exact rows n r h he
 | tok d c=>
  cases c with
  | ints k l=>exact ints k l h.2 he
  | sl n r=>exact rows n r h.2 he
  | _=>cases he
 | _=>cases he
theorem wit {d : TypeDesc} {e es eb : Nat} {ik : Option IntKind} (h : shOf P d = .slice e es eb ik) :
 d=.slice e/\∃ i z,P.info? e=some i/\i.zero=some z/\i.size=es/\i.bytes=eb/\es≠0/\z.cells.size=es/\ik=(match P.underlying e with | some (.int k)=>some k | _=>none):=by
 cases d with
 | slice e' =>
  unfold shOf at h;dsimp only at h;split at h
  . rename_i i hi;split at h
    . rename_i z hz;split at h
      . rename_i hc;simp only [Bool.and_eq_true,bne_iff_ne,beq_iff_eq] at hc
        cases h;exact ⟨rfl,i,z,hi,hz,rfl,rfl,hc.1,hc.2,rfl⟩
      . cases h
    . cases h
  . cases h
 | struct fl=>
  exfalso;revert h;unfold shOf;dsimp only;split<;>simp
 | _=>simp [shOf] at h
theorem vj0 {d:TypeDesc} {n e es:Nat} (h:shOf P d=.array n e es):d=.array n e/\es=P.cellsOf e:=by
 cases d with
 | array n' e'=>simp [shOf] at h;obtain ⟨rfl,rfl,rfl⟩:=h;exact ⟨rfl,rfl⟩
 | slice e=>
  exfalso;revert h;unfold shOf;dsimp only
  split
  . split
    . split<;>simp
    . simp
  . simp
 | struct fl=>
  exfalso;revert h;unfold shOf;dsimp only;split<;>simp
 | _=>simp [shOf] at h
theorem run_indexAt_slice {T:TypeId} {ti:TI} (hti:TIok P T ti) {e es eb:Nat} {ik:Option IntKind} (hs:ti.sh=.slice e es eb ik) (w:World) (b off len cap:Nat) (k:IntKind) (n:Int) (h0:0<=n) (hn:n.toNat<len) :
 (Instr.indexAt T (.slice (some ⟨b,off,none⟩) len cap) (.int k n)).run P w=.ok (.pointer (some ⟨b,off+n.toNat*es,none⟩)) w:=by
 obtain ⟨d,i,z,hd,hi,hz,hsz',hby,hzs,hone,hzc,hsh⟩:=hti.ex;obtain ⟨rfl,j,z',hj,_,hjs,_⟩:=wit (hsh.symm.trans hs)
 have hlt:n<(len:Int):=by omega
 unfold Instr.indexAt;simp [asIntOf,z6x hd,h0,hlt,yg7 hj,hjs,y78]
theorem v0u {σ:List AV} {o:Oper} {T:TypeId} {x y:Operand} (ho:o.op=.indexAddr T x y) {ti:TI} (hti:mkTI P T=some ti) {rd:List Nat} {av:AV} (hfa:xq4 σ ti x y=some (rd,av))
 {r:List Nat×List (Nat×AV)} (h:val σ o rd av=some r):ztu P o σ r.1 [] r.2:=by
 obtain ⟨d,hdst,hn,rfl⟩:=xlk h;have hok:=xky hti
 have hnh:av.xeo=false/\(∀ t,¬av.y1a t)/\(∀ t∈orr x++orr y,t∈rd):=by
  unfold xq4 at hfa
  repeat' split at hfa
  all_goals first | (cases hfa;exact ⟨rfl,fun t h=>h,fun t h=>by simp at h ⊢;simp [h]⟩) | cases hfa
 refine ztu.val hdst (by simp) hn hnh.1 (fun E τ M σ' a w hag hI=>?_);have hox:opd σ' x=opd σ x:=hag.opd (fun t ht=>List.mem_cons_of_mem _ (hnh.2.2 t (by simp [ht])));have hoy:opd σ' y=opd σ y:=hag.opd (fun t ht=>List.mem_cons_of_mem _ (hnh.2.2 t (by simp [ht])));have sx:=hI.opd x;have sy:=hI.opd y;rw [hox] at sx;rw [hoy] at sy;unfold xq4 at hfa;split at hfa
 case h_2=>cases hfa
 rename_i k n hyn;rw [hyn] at sy;have ey:a.eval y=.int k n:=RdC.xcn sy;split at hfa
 case isFalse=>cases hfa
 rename_i h0;split at hfa
 . rename_i e es eb ik hsh;have fin:∀(b off len cap:Nat),a.eval x=.slice (some ⟨b,off,none⟩) len cap->n.toNat<len->x5d M w τ a.tmps (.pointer (some ⟨b,off+n.toNat*es,none⟩)) av->
    (∀(s:Nat) (b:Bool),av.rf=some (s,b)->∃ hv:AV,σ'[s]? = some hv/\hv.fits b=true)->
    ∃ v w',(execOp a.eval o).run P w=.ok (.value v) w'/\Below w.heap.size w w'/\x5d M w' τ a.tmps v av/\(∀ t,av.y1a t->live σ' t)/\
    (∀(s:Nat) (b:Bool),av.rf=some (s,b)->∃ hv:AV,σ'[s]? = some hv/\hv.fits b=true):=fun b off len cap hx hlt hsl hrf=>
    ⟨_,w,by simp [execOp,ho,hx,ey,run_indexAt_slice hok hsh w b off len cap k n h0 hlt],znd w,hsl,fun t ht=>absurd ht (hnh.2.1 t),hrf⟩
   split at hfa
   . rename_i c hxc;rw [hxc] at sx;split at hfa
     . rename_i m cs hel;split at hfa
       . rename_i hm
         cases hfa;subst hm;obtain ⟨b,off,len,cap,vs,e1,hlt,hcl,hr⟩:=vnr (show RdT M w τ _ c from sx) hel;exact fin b off len cap e1 hlt ⟨b,_,vs,rfl,hcl,hr⟩ (fun s b hr=>by cases hr)
       . cases hfa
     . cases hfa
   . rename_i pre c post hxa;split at hfa
     . rename_i t;split at hfa
       . rename_i hc;obtain ⟨rfl,hlt⟩:=hc
         cases hfa;rw [hxa] at sx;obtain ⟨b,Tb,vs,q,cap,e1,hb,_⟩:=sx;refine fin b pre.length c.cnt cap e1 hlt ?_ (fun s b' hr=>?_)
         . show _=Value.pointer (some ⟨blk (a.eval (.tmp t)),offV (a.eval (.tmp t))+n.toNat*c.esz+0,none⟩);rw [e1];simp [blk,offV]
         . simp only [AV.rf,Option.some.injEq,Prod.mk.injEq] at hr;obtain ⟨rfl,rfl⟩:=hr;exact ⟨_,w3d (hox.trans hxa) (by simp),rfl⟩
       . cases hfa
     . cases hfa
   . rename_i s hxa;split at hfa
     . rename_i pre c post hg0;split at hfa
       . rename_i hc;obtain ⟨rfl,hlt⟩:=hc
         cases hfa
         have hg:gt σ' s=.arr pre c post:=by rw [hag.2 s (by simp)];exact hg0
         rw [hxa] at sx;have sx:a.eval x=a.tmps.getD s Go.undef:=sx;have hss:=hI.gt s;rw [hg] at hss;obtain ⟨b,Tb,vs,q,cap,e1,hb,_⟩:=hss;refine fin b pre.length c.cnt cap (sx.trans e1) hlt ?_ (fun s' b' hr=>?_)
         . show _=Value.pointer (some ⟨blk (a.tmps.getD s Go.undef),offV (a.tmps.getD s Go.undef)+n.toNat*c.esz+0,none⟩);rw [e1];simp [blk,offV]
         . simp only [AV.rf,Option.some.injEq,Prod.mk.injEq] at hr;obtain ⟨rfl,rfl⟩:=hr;exact ⟨_,w3d hg (by simp),rfl⟩
       . cases hfa
     . cases hfa
   . rename_i s m lo k' hxa;split at hfa
     . rename_i hc;obtain ⟨rfl,hlt⟩:=hc
       cases hfa;rw [hxa] at sx;obtain ⟨ad,cap,e1,had,hcap,_⟩:=sx;rw [had (.inl (by omega))] at e1;refine fin _ _ _ cap e1 hlt ?_ (fun s' b' hr'=>?_)
       . show _=Value.pointer (some ⟨_,offV (a.tmps.getD s Go.undef)+(lo+n.toNat)*es+0,none⟩);rw [Nat.add_mul,Nat.add_zero,Nat.add_assoc]
       . cases x with
         | tmp t=>exact hI.refs t _ s' b' (w3d (hox.trans hxa) (by simp)) (by simpa [AV.rf] using hr')
         | const v=>
          exfalso;simp only [opd,vkt] at hxa;split at hxa
          . split at hxa<;>cases hxa
          . cases hxa
          . cases hxa
         | func f=>cases hxa
         | global g=>cases hxa
     . cases hfa
   . cases hfa
 . rename_i m e es hsh;have fin:∀(b off:Nat),a.eval x=.pointer (some ⟨b,off,none⟩)->n.toNat<m->es≠0->x5d M w τ a.tmps (.pointer (some ⟨b,off+n.toNat*es,none⟩)) av->
    (∀(s:Nat) (b:Bool),av.rf=some (s,b)->∃ hv:AV,σ'[s]? = some hv/\hv.fits b=true)->
    ∃ v w',(execOp a.eval o).run P w=.ok (.value v) w'/\Below w.heap.size w w'/\x5d M w' τ a.tmps v av/\(∀ t,av.y1a t->live σ' t)/\
    (∀(s:Nat) (b:Bool),av.rf=some (s,b)->∃ hv:AV,σ'[s]? = some hv/\hv.fits b=true):=fun b off hx hlt hes0 hsl hrf=>by
    refine ⟨_,w,?_,znd w,hsl,fun t ht=>absurd ht (hnh.2.1 t),hrf⟩;obtain ⟨d,i,z,hd,hi,hz,hsz',hby,hzs,hone,hzc,hsh'⟩:=hok.ex;obtain ⟨rfl,hes⟩:=vj0 (hsh'.symm.trans hsh)
    have hltm:n<(m:Int):=by omega
    obtain ⟨j,hj,hjs⟩:=vic (P:=P) (t:=e) (by rw [<-hes];exact hes0);simp only [execOp,ho,hx,ey];unfold Instr.indexAt;simp [asIntOf,z6x hd,h0,hltm,Instr.sureAddr,yg7 hj,hjs,hes,y78]
   split at hfa
   . rename_i cs hxa;split at hfa
     . rename_i t;split at hfa
       . rename_i hlt
         cases hfa;rw [hxa] at sx;obtain ⟨b,vs,Tb,e1,hb,hr⟩:=sx;refine fin b 0 e1 hlt.1 hlt.2 ?_ (fun s b' hr=>?_)
         . show _=Value.pointer (some ⟨blk (a.eval (.tmp t)),_,none⟩);rw [e1];simp [blk]
         . simp only [AV.rf,Option.some.injEq,Prod.mk.injEq] at hr;obtain ⟨rfl,rfl⟩:=hr;exact ⟨_,w3d (hox.trans hxa) (by simp),rfl⟩
       . cases hfa
     . cases hfa
   . rename_i cs hxa;split at hfa
     . rename_i t;split at hfa
       . rename_i hlt
         cases hfa;rw [hxa] at sx;obtain ⟨b,vs,Tb,e1,hb,hr⟩:=sx;refine fin b 0 e1 hlt.1 hlt.2 ?_ (fun s b' hr=>?_)
         . show _=Value.pointer (some ⟨blk (a.eval (.tmp t)),_,none⟩);rw [e1];simp [blk]
         . simp only [AV.rf,Option.some.injEq,Prod.mk.injEq] at hr;obtain ⟨rfl,rfl⟩:=hr;exact ⟨_,w3d (hox.trans hxa) (by simp),rfl⟩
       . cases hfa
     . cases hfa
   . rename_i s o' hxa;split at hfa
     . rename_i hlt
       cases hfa;rw [hxa] at sx;refine fin _ o' sx hlt.1 hlt.2 rfl (fun s' b' hr'=>?_)
       cases x with
       | tmp t=>exact hI.refs t _ s' b' (w3d (hox.trans hxa) (by simp)) (by simpa [AV.rf] using hr')
       | const v=>
        exfalso;simp only [opd,vkt] at hxa;split at hxa
        . split at hxa<;>cases hxa
        . cases hxa
        . cases hxa
       | func f=>cases hxa
       | global g=>cases hxa
     . cases hfa
   . rename_i s m' i f hxa;split at hfa
     . rename_i hlt
       cases hfa;rw [hxa] at sx;refine fin _ _ sx hlt.1 hlt.2 (by show _=Value.pointer _;rw [Nat.add_assoc]) (fun s' b' hr'=>?_)
       cases x with
       | tmp t=>exact hI.refs t _ s' b' (w3d (hox.trans hxa) (by simp)) (by simpa [AV.rf] using hr')
       | const v=>
        exfalso;simp only [opd,vkt] at hxa;split at hxa
        . split at hxa<;>cases hxa
        . cases hxa
        . cases hxa
       | func f=>cases hxa
       | global g=>cases hxa
     . cases hfa
   . rename_i cs hxa;split at hfa
     . rename_i hlt
       cases hfa;rw [hxa] at sx;obtain ⟨b,o',vs,e1,hc,hr⟩:=sx;refine fin b o' e1 hlt.1 hlt.2 ⟨b,_,vs.drop (n.toNat*es),rfl,fun j u hj=>?_,hr.drop _⟩ (fun s b hr=>by cases hr);rw [List.getElem?_drop] at hj
       have:=hc _ u hj
       rwa [<-Nat.add_assoc] at this
     . cases hfa
   . cases hfa
 . cases hfa
end Go.Slot
