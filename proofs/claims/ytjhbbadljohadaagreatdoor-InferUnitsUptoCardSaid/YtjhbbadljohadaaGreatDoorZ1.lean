/- The proof, part Z1: Me, Mf, Mg, Mh, Mi. -/
import Derived.Test.YtjhbbadljohadaaGreatDoorZ0
namespace Go.Slot
open Go Go.RowKit
variable {P:Program}
def storeA (σ:List AV) (ti:TI) (x y:Operand):Option (List Nat×Nat×AV):=
 match cellsOfAV (opd σ y) with
 | none=>none
 | some cs=>
  if cs.length=ti.size then
   match opd σ x with
   | .box old=>match x with
    | .tmp s=>if ti.size≤old.length then some (s::orr y,s,.box (cs++old.drop ti.size)) else none
    | _=>none
   | .obx old=>match x with
    | .tmp s=>if ti.size≤old.length then some (s::orr y,s,.obx (cs++old.drop ti.size)) else none
    | _=>none
   | .ptr s off=>match (gt σ s).boxOf with
    | some old=>if off+ti.size≤old.length then some (s::(orr x++orr y),s,(gt σ s).reBox (old.take off++cs++old.drop (off+ti.size))) else none
    | none=>none
   | .pel s m i f=>match gt σ s with
    | .arr pre c post=>if c.esz=m then match c.upd i f (bareL cs) with
     | some c'=>some (s::(orr x++orr y),s,.arr pre c' post)
     | none=>none
     else none
    | _=>none
   | _=>none
  else none
theorem run_storeVar_at {T:TypeId} {ti:TI} (hti:TIok P T ti) {w:World} {b off:Nat} {vs:List Value} {Tb:TypeId} (hb:w.heap[b]? = some (.cells vs.toArray Tb (0,0)))
 {v:Value} (hsz:v.cells.size=ti.size) (h1:∀ u∈v.cells.toList,u.oneCell'=true) (hfit:off+ti.size≤vs.length) :
 (storeVar T ⟨b,off,none⟩ v).run P w=.ok () (w.setRow b (vs.take off++v.cells.toList++vs.drop (off+ti.size)).toArray):=by
 obtain ⟨d,i,z,hd,hi,hz,hsz',hby,hzs,hone,hzc,hsh⟩:=hti.ex
 have hst:=run_storeCells_at P b off Tb v.cells.toList 0 vs.toArray w hb (by simp [hsz];omega) h1
 unfold storeVar
 simp only [Sem.run_bind,run_sizeOf' hi,Result.andThen_ok]
 rw [hsz,hsz']
 simp only [ne_eq,not_true_eq_false,if_false]
 simpa [hsz] using hst
theorem list_set_eq {α:Type} (l:List α) (i:Nat) (x:α) (h:i<l.length):l.set i x=l.take i++[x]++l.drop (i+1):=by
 rw [List.set_eq_take_append_cons_drop,if_pos h];simp
theorem sound_store {σ:List AV} {o:Oper} {T:TypeId} {x y:Operand} (ho:o.op=.store T x y) (hdst:o.dst=none) {ti:TI} (hti:mkTI P T=some ti) {rd:List Nat} {s:Nat} {av:AV}
 (hst:storeA σ ti x y=some (rd,s,av)):AStep P o σ rd [] [(s,av)]:=by
 have hok:=mkTI_ok hti
 intro E σ' a w hag _ ⟨τ,M,hI⟩ K Q hK
 unfold storeA at hst
 split at hst
 · cases hst
 rename_i cs hcs
 split at hst
 · rename_i hlen
   have common:(∀ t∈orr y,t∈rd)→RdL M w τ (a.eval y).cells.toList cs∧(a.eval y).cells.size=ti.size∧(∀ u∈(a.eval y).cells.toList,u.oneCell'=true)∧∀ t,hasTokL t cs→live σ' t:=fun hy=>by
    have hoy:opd σ' y=opd σ y:=hag.opd hy
    have hs:=hI.opd y
    rw [hoy] at hs
    have hr:=cellsOf_ok hcs hs
    refine ⟨hr,?_,hr.ones,fun t ht=>?_⟩
    · rw [←hlen,←hr.length];simp
    · have:=cellsOf_tok hcs ht
      rw [←hoy] at this
      exact opd_live this
   have boxcase:∀(off:Nat) (old:List Cell),(gt σ' s).boxOf=some old→a.eval x=.pointer (some ⟨blk (a.tmps.getD s Go.undef),off,none⟩)→off+ti.size≤old.length→(∀ t∈orr y,t∈rd)→
    av=(gt σ' s).reBox (old.take off++cs++old.drop (off+ti.size))→o.wp P a w K Q:=fun off old hg hx hfit hy hav=>by
    obtain ⟨hr,hsz,hone,htok⟩:=common hy
    obtain ⟨b,vs,Tb,e,hb,hrb⟩:=boxOf_ok (hI.gt s) hg
    have hvl:=hrb.length
    have hbb:blk (a.tmps.getD s Go.undef)=b:=by rw [e];rfl
    rw [hbb] at hx
    have hrun:=run_storeVar_at hok hb hsz hone (off:=off) (by omega)
    unfold Oper.wp
    simp only [execOp,ho,Instr.storeAt,hx,Instr.sureAddr,Sem.run_bind,Sem.run_pure,Result.andThen_ok,hrun]
    show K (a.put o.dst Go.undef) _
    rw [hdst]
    refine hK _ _ ⟨τ,M,?_⟩
    have hgs:=gt_some (av:=gt σ' s) rfl (boxOf_holder hg).2.2
    have hav':av.boxOf=some (old.take off++cs++old.drop (off+ti.size))∧av.fits true=true∧av.fits false=false∧av.holder=true∧av.fresh=(gt σ' s).fresh:=by
     rw [hav]
     generalize gt σ' s=g at hg
     cases g<;>first | exact ⟨rfl,rfl,rfl,rfl,rfl⟩ | cases hg
    have hrw:=hI.rewrite (new:=av) hgs (boxOf_holder hg).1 hav'.2.2.2.1 (by
     intro b' hf
     cases b' with
     | true=>exact hav'.2.1
     | false=>
      exfalso
      generalize gt σ' s=g at hg hf
      cases g<;>simp [AV.fits,AV.isArr,AV.boxOf] at hf hg) hav'.2.2.2.2
     (vs.take off++(a.eval y).cells.toList++vs.drop (off+ti.size)).toArray ?_ ?_
    · rw [hbb] at hrw
      exact hrw
    · intro vs1 T1 _
      rw [hbb]
      have hM:∀ o,M b o:=hbb▸(hI.hold s _ hgs (boxOf_holder hg).1).1
      have hk:Keeps M M w (w.setRow b (vs.take off++(a.eval y).cells.toList++vs.drop (off+ti.size)).toArray):=fun b' o u hm hc=>⟨hm,by
       rw [cell_setRow_other]
       · exact hc
       · exact fun e'=>hm (by rw [show b'=b from e'];exact hM o)⟩
      have hnew:=(((hrb.take off).append hr).append (hrb.drop (off+ti.size))).keep hk (fun _ _=>rfl)
      have hex:∃(b_1:Nat) (vs_1:List Value) (T:TypeId),a.tmps.getD s Go.undef=.pointer (some ⟨b_1,0,none⟩)∧(w.setRow b (vs.take off++(a.eval y).cells.toList++vs.drop (off+ti.size)).toArray).heap[b_1]? = some (.cells vs_1.toArray T (0,0))∧
       RdL M (w.setRow b (vs.take off++(a.eval y).cells.toList++vs.drop (off+ti.size)).toArray) τ vs_1 (old.take off++cs++old.drop (off+ti.size)):=⟨b,_,Tb,e,setRow_heap w b _ _ Tb (0,0) hb,hnew⟩
      have hbo:=hav'.1
      cases av<;>first | (cases hbo;exact hex) | cases hbo
    · intro t ht
      rw [boxOf_tok hav'.1] at ht
      have hold:∀ t,hasTokL t old→live σ' t:=fun t ht=>⟨s,_,hgs,(boxOf_tok hg t).2 ht⟩
      rcases hasTokL_append ht with ht | ht
      · rcases hasTokL_append ht with ht | ht
        · exact hold t (hasTokL_take ht)
        · exact htok t ht
      · exact hold t (hasTokL_drop ht)
   split at hst
   · rename_i old hx
     split at hst
     · rename_i s'
       split at hst
       · rename_i hfit
         cases hst
         have hg:gt σ' s=.box old:=by rw [hag.2 s (by simp)];exact hx
         have hs:=hI.gt s
         rw [hg] at hs
         obtain ⟨b,vs,Tb,e,hb,hrb⟩:=hs
         refine boxcase 0 old (by rw [hg];rfl) ?_ (by omega) (fun t ht=>by simp [ht]) (by rw [hg];simp [AV.reBox])
         show a.tmps.getD s Go.undef=_
         rw [e];rfl
       · cases hst
     · cases hst
   · rename_i old hx
     split at hst
     · rename_i s'
       split at hst
       · rename_i hfit
         cases hst
         have hg:gt σ' s=.obx old:=by rw [hag.2 s (by simp)];exact hx
         have hs:=hI.gt s
         rw [hg] at hs
         obtain ⟨b,vs,Tb,e,hb,hrb⟩:=hs
         refine boxcase 0 old (by rw [hg];rfl) ?_ (by omega) (fun t ht=>by simp [ht]) (by rw [hg];simp [AV.reBox])
         show a.tmps.getD s Go.undef=_
         rw [e];rfl
       · cases hst
     · cases hst
   · rename_i s' off hx
     split at hst
     · rename_i old hg0
       split at hst
       · rename_i hfit
         cases hst
         have hgg:gt σ' s=gt σ s:=hag.2 s (by simp)
         have hox:opd σ' x=opd σ x:=hag.opd (fun t ht=>by simp [ht])
         have hs:=hI.opd x
         rw [hox,hx] at hs
         exact boxcase off old (by rw [hgg];exact hg0) hs hfit (fun t ht=>by simp [ht]) (by rw [hgg])
       · cases hst
     · cases hst
   · rename_i s' m i f hx
     split at hst
     · rename_i pre c post hg0
       split at hst
       · rename_i hm
         split at hst
         · rename_i c' hupd
           cases hst
           subst hm
           have hg:gt σ' s=.arr pre c post:=by rw [hag.2 s (by simp)];exact hg0
           have hox:opd σ' x=opd σ x:=hag.opd (fun t ht=>by simp [ht])
           have hs:=hI.opd x
           rw [hox,hx] at hs
           have hs:a.eval x=.pointer (some ⟨blk (a.tmps.getD s Go.undef),offV (a.tmps.getD s Go.undef)+i*c.esz+f,none⟩):=hs
           obtain ⟨hr,hsz,hone,htok⟩:=common (fun t ht=>by simp [ht])
           have hss:=hI.gt s
           rw [hg] at hss
           obtain ⟨b,Tb,vs,q,cap,e,hb,hrd,hpost,hu,hcap,hcap'⟩:=hss
           obtain ⟨hu',hcnt,hesz,hfit,hflat⟩:=Cell.upd_ok hu hupd
           have hbb:blk (a.tmps.getD s Go.undef)=b:=by rw [e];rfl
           rw [hbb] at hs
           have hoff:offV (a.tmps.getD s Go.undef)=pre.length:=by rw [e];rfl
           rw [hoff] at hs
           have hvl:=hrd.length
           have hbl:(bareL cs).length=cs.length:=by rw [←hr.bare.length,hr.length]
           have hul:(a.eval y).cells.toList.length=(bareL cs).length:=hr.bare.length
           have hsz':ti.size=(bareL cs).length:=by rw [←hlen,hbl]
           have hrun:=run_storeVar_at hok hb hsz hone (off:=pre.length+i*c.esz+f) (by simp;omega)
           have hnew:(pre++(vs++q)).take (pre.length+i*c.esz+f)++(a.eval y).cells.toList++(pre++(vs++q)).drop (pre.length+i*c.esz+f+ti.size) =
            pre++((vs.take (i*c.esz+f)++(a.eval y).cells.toList++vs.drop (i*c.esz+f+(bareL cs).length))++q):=by
            rw [List.take_append,List.drop_append,List.take_of_length_le (by omega),List.drop_eq_nil_of_le (by omega),hsz']
            rw [show pre.length+i*c.esz+f-pre.length=i*c.esz+f by omega,show pre.length+i*c.esz+f+(bareL cs).length-pre.length=i*c.esz+f+(bareL cs).length by omega]
            rw [List.take_append_of_le_length (by omega),List.drop_append_of_le_length (by omega)]
            simp
           rw [hnew] at hrun
           unfold Oper.wp
           simp only [execOp,ho,Instr.storeAt,hs,Instr.sureAddr,Sem.run_bind,Sem.run_pure,Result.andThen_ok,hrun]
           show K (a.put o.dst Go.undef) _
           rw [hdst]
           refine hK _ _ ⟨τ,M,?_⟩
           have hgs:=gt_some hg (by simp)
           have hrw:=hI.rewrite (new:=.arr pre c' post) hgs rfl rfl (by intro b' hf;cases b'<;>simp_all [AV.fits,AV.isBox,AV.isArr]) (by cases post<;>rfl)
            (pre++((vs.take (i*c.esz+f)++(a.eval y).cells.toList++vs.drop (i*c.esz+f+(bareL cs).length))++q)).toArray ?_ (fun t ht=>ht.elim)
           · rw [hbb] at hrw
             exact hrw
           · intro vs1 T1 _
             rw [hbb]
             have hM:∀ o,M b o:=hbb▸(hI.hold s _ hgs rfl).1
             have hk:Keeps M M w (w.setRow b (pre++((vs.take (i*c.esz+f)++(a.eval y).cells.toList++vs.drop (i*c.esz+f+(bareL cs).length))++q)).toArray):=fun b' o u hm hc=>⟨hm,by
              rw [cell_setRow_other]
              · exact hc
              · exact fun e'=>hm (by rw [show b'=b from e'];exact hM o)⟩
             refine ⟨b,Tb,vs.take (i*c.esz+f)++(a.eval y).cells.toList++vs.drop (i*c.esz+f+(bareL cs).length),q,cap,by rw [e,hcnt],setRow_heap w b _ _ Tb (0,0) hb,?_,hpost,hu',by rw [hcnt];exact hcap,?_⟩
             · rw [hflat]
               exact (((hrd.take _).append hr.bare).append (hrd.drop _)).keep hk
             · rw [hesz]
               simp only [List.length_append,List.length_take,List.length_drop,hul]
               omega
         · cases hst
       · cases hst
     · cases hst
   · cases hst
 · cases hst
theorem shOf_struct {d:TypeDesc} {fs:List (Nat×Nat×TypeId)} (h:shOf P d=.struct fs):∃ fl,d=.struct fl∧fs=fl.toList.map (fun f=>(f.offset,P.cellsOf f.type,f.type))∧∀ f∈fl.toList,P.cellsOf f.type≠0:=by
 cases d with
 | struct fl=>
  unfold shOf at h
  dsimp only at h
  split at h
  · rename_i hc
    cases h
    exact ⟨fl,rfl,rfl,fun f hf=>by simpa using (List.all_eq_true.1 hc) f hf⟩
  · cases h
 | slice e=>
  exfalso
  revert h
  unfold shOf
  dsimp only
  split
  · split
    · split<;>simp
    · simp
  · simp
 | _=>simp [shOf] at h
def fieldAddrA (σ:List AV) (ti:TI) (x:Operand) (f:Nat):Option AV:=
 match ti.sh with
 | .struct fs=>match fs[f]? with
  | some (off,_,_)=>match opd σ x with
   | .box _=>match x with
    | .tmp t=>some (.ptr t off)
    | _=>none
   | .obx _=>match x with
    | .tmp t=>some (.ptr t off)
    | _=>none
   | .ptr s o=>some (.ptr s (o+off))
   | .pel s m i f=>some (.pel s m i (f+off))
   | .elt cs=>some (.elt (cs.drop off))
   | _=>none
  | none=>none
 | _=>none
theorem cellsOf_info {t:TypeId} (h:P.cellsOf t≠0):∃ i,P.info? t=some i∧i.size=P.cellsOf t:=by
 unfold Program.cellsOf at *
 cases hi:P.info? t with
 | none=>simp [hi] at h
 | some i=>exact ⟨i,rfl,by simp⟩
theorem addr_add (b off n:Nat):(⟨b,off,none⟩:Addr).add n=⟨b,off+n,none⟩:=by unfold Addr.add;split<;>simp_all
theorem run_fieldAt {S:TypeId} {ti:TI} (hti:TIok P S ti) {fs:List (Nat×Nat×TypeId)} (hs:ti.sh=.struct fs) {f off sz:Nat} {ft:TypeId} (hf:fs[f]? = some (off,sz,ft)) (w:World) (b o:Nat) :
 (Instr.fieldAt S (.pointer (some ⟨b,o,none⟩)) f).run P w=.ok (.pointer (some ⟨b,o+off,none⟩)) w:=by
 obtain ⟨d,i,z,hd,hi,hz,hsz',hby,hzs,hone,hzc,hsh⟩:=hti.ex
 obtain ⟨fl,rfl,rfl,hne⟩:=shOf_struct (hsh.symm.trans hs)
 simp only [List.getElem?_map,Option.map_eq_some_iff,Prod.mk.injEq] at hf
 obtain ⟨fd,hfd,rfl,rfl,rfl⟩:=hf
 have hfd':fl[f]? = some fd:=by simpa using hfd
 have hm:fd∈fl.toList:=List.mem_of_getElem? hfd
 obtain ⟨j,hj,hjs⟩:=cellsOf_info (hne fd hm)
 have hj0:j.size≠0:=by rw [hjs];exact hne fd hm
 unfold Instr.fieldAt
 simp only [Sem.run_bind,run_underlying' hd,Result.andThen_ok,hfd',Instr.sureAddr,Sem.run_pure,fieldPlace,run_sizeOf' hj,hj0,if_false,addr_add]
theorem sound_fieldAddr {σ:List AV} {o:Oper} {S:TypeId} {x:Operand} {f:Nat} (ho:o.op=.fieldAddr S x f) {ti:TI} (hti:mkTI P S=some ti) {av:AV} (hfa:fieldAddrA σ ti x f=some av)
 {r:List Nat×List (Nat×AV)} (h:val σ o (orr x) av=some r):AStep P o σ r.1 [] r.2:=by
 obtain ⟨d,hdst,hn,rfl⟩:=val_spec h
 have hok:=mkTI_ok hti
 have hnh:av.holder=false∧∀ t,¬av.hasTok t:=by
  unfold fieldAddrA at hfa
  repeat' split at hfa
  all_goals first | (cases hfa;exact ⟨rfl,fun t h=>h⟩) | cases hfa
 refine AStep.val hdst (by simp) hn hnh.1 (fun E τ M σ' a w hag hI=>?_)
 have hop:opd σ' x=opd σ x:=hag.opd (fun t ht=>by simp [ht])
 have hs:=hI.opd x
 rw [hop] at hs
 unfold fieldAddrA at hfa
 split at hfa
 · rename_i fs hsh
   split at hfa
   · rename_i off sz ft hff
     have fin:∀(b o':Nat),a.eval x=.pointer (some ⟨b,o',none⟩)→SlotOk M w τ a.tmps (.pointer (some ⟨b,o'+off,none⟩)) av→
      (∀(s:Nat) (b:Bool),av.rf=some (s,b)→∃ hv:AV,σ'[s]? = some hv∧hv.fits b=true)→
      ∃ v w',(execOp a.eval o).run P w=.ok (.value v) w'∧Below w.heap.size w w'∧SlotOk M w' τ a.tmps v av∧(∀ t,av.hasTok t→live σ' t)∧
      (∀(s:Nat) (b:Bool),av.rf=some (s,b)→∃ hv:AV,σ'[s]? = some hv∧hv.fits b=true):=fun b o' hx hsl hrf=>
      ⟨_,w,by simp [execOp,ho,hx,run_fieldAt hok hsh hff w b o'],below_self w,hsl,fun t ht=>absurd ht (hnh.2 t),hrf⟩
     split at hfa
     · rename_i cs hx
       split at hfa
       · rename_i t
         cases hfa
         rw [hx] at hs
         obtain ⟨b,vs,Tb,e,hb,hr⟩:=hs
         refine fin b 0 e ?_ (fun s b' hr'=>?_)
         · show _=Value.pointer (some ⟨blk (a.eval (.tmp t)),off,none⟩)
           rw [e];simp [blk]
         · simp only [AV.rf,Option.some.injEq,Prod.mk.injEq] at hr'
           obtain ⟨rfl,rfl⟩:=hr'
           exact ⟨_,gt_some (hop.trans hx) (by simp),rfl⟩
       · cases hfa
     · rename_i cs hx
       split at hfa
       · rename_i t
         cases hfa
         rw [hx] at hs
         obtain ⟨b,vs,Tb,e,hb,hr⟩:=hs
         refine fin b 0 e ?_ (fun s b' hr'=>?_)
         · show _=Value.pointer (some ⟨blk (a.eval (.tmp t)),off,none⟩)
           rw [e];simp [blk]
         · simp only [AV.rf,Option.some.injEq,Prod.mk.injEq] at hr'
           obtain ⟨rfl,rfl⟩:=hr'
           exact ⟨_,gt_some (hop.trans hx) (by simp),rfl⟩
       · cases hfa
     · rename_i s o' hx
       cases hfa
       rw [hx] at hs
       refine fin _ o' hs rfl (fun s' b' hr'=>?_)
       cases x with
       | tmp t=>exact hI.refs t _ s' b' (gt_some (hop.trans hx) (by simp)) (by simpa [AV.rf] using hr')
       | const v=>
        exfalso
        simp only [opd,constAV] at hx
        split at hx
        · split at hx<;>cases hx
        · cases hx
        · cases hx
       | func f=>cases hx
       | global g=>cases hx
     · rename_i s m i f' hx
       cases hfa
       rw [hx] at hs
       refine fin _ _ hs (by show _=Value.pointer _;rw [Nat.add_assoc]) (fun s' b' hr'=>?_)
       cases x with
       | tmp t=>exact hI.refs t _ s' b' (gt_some (hop.trans hx) (by simp)) (by simpa [AV.rf] using hr')
       | const v=>
        exfalso
        simp only [opd,constAV] at hx
        split at hx
        · split at hx<;>cases hx
        · cases hx
        · cases hx
       | func f=>cases hx
       | global g=>cases hx
     · rename_i cs hx
       cases hfa
       rw [hx] at hs
       obtain ⟨b,o',vs,e,hc,hr⟩:=hs
       refine fin b o' e ⟨b,o'+off,vs.drop off,rfl,fun j u hj=>?_,hr.drop off⟩ (fun s b hr=>by cases hr)
       rw [List.getElem?_drop] at hj
       have:=hc (off+j) u hj
       rwa [←Nat.add_assoc] at this
     · cases hfa
   · cases hfa
 · cases hfa
def extractA (σ:List AV) (x:Operand) (n:Nat):Option AV:=
 match opd σ x with
 | .tup l=>match l[n]? with
  | some (.one c)=>some (.one c)
  | some (.agg cs)=>some (.agg cs)
  | some .any=>some .any
  | _=>none
 | _=>none
theorem RdB.slot {M:Nat→Nat→Prop} {w:World} {τ:Nat→TV} {tm:Array Value} {v:Value} {av:AV} (h:RdB M w v av):SlotOk M w τ tm v av∧∀ t,¬av.hasTok t:=by
 cases av with
 | one c=>exact ⟨RdT.of h,fun t ht=>by cases c<;>first | exact ht.elim | exact h.notTok⟩
 | agg cs=>obtain ⟨vs,rfl,h⟩:=h;exact ⟨⟨vs,rfl,h.noTokRd⟩,fun t ht=>h.noTok ht⟩
 | any=>exact ⟨trivial,fun t ht=>ht⟩
 | undef=>exact ⟨h,fun t ht=>ht⟩
 | elt cs=>exact ⟨h,fun t ht=>ht⟩
 | _=>exact h.elim
theorem sound_extract {σ:List AV} {o:Oper} {x:Operand} {n:Nat} (ho:o.op=.extract x n) {av:AV} (hfa:extractA σ x n=some av)
 {r:List Nat×List (Nat×AV)} (h:val σ o (orr x) av=some r):AStep P o σ r.1 [] r.2:=by
 obtain ⟨d,hdst,hn,rfl⟩:=val_spec h
 have hnh:av.holder=false∧av.rf=none:=by
  unfold extractA at hfa
  repeat' split at hfa
  all_goals first | (cases hfa;exact ⟨rfl,rfl⟩) | cases hfa
 refine AStep.val hdst (by simp) hn hnh.1 (fun E τ M σ' a w hag hI=>?_)
 have hop:opd σ' x=opd σ x:=hag.opd (fun t ht=>by simp [ht])
 have hs:=hI.opd x
 rw [hop] at hs
 have:∃ l,opd σ x=.tup l∧l[n]? = some av:=by
  unfold extractA at hfa
  split at hfa
  · rename_i l hl
    refine ⟨l,hl,?_⟩
    split at hfa<;>first | (cases hfa;assumption) | cases hfa
  · cases hfa
 obtain ⟨l,hl,hav⟩:=this
 rw [hl] at hs
 obtain ⟨vs,e,hr⟩:=hs
 obtain ⟨v,hv,hrb⟩:=hr.get n av hav
 have hsl:=hrb.slot (τ:=τ) (tm:=a.tmps)
 refine ⟨v,w,?_,below_self w,hsl.1,fun t ht=>absurd ht (hsl.2 t),fun s b hr=>by rw [hnh.2] at hr;cases hr⟩
 simp [execOp,ho,e,Instr.extract,hv]
end Go.Slot

namespace Go.Slot
open Go Go.RowKit
variable {P:Program}
def Sh.esz:Sh→Option Nat
 | .slice _ es _ _=>some es
 | _=>none
def elemAt:Cell→Nat→Option (Nat×List Cell)
 | .ints k l,i=>if i<l.length then some (1,[.raw (.int k (l.getD i 0))]) else none
 | .sl n rows,i=>if i<rows.length then some (n,rows.getD i []) else none
 | .tok _ (.ints k l),i=>if i<l.length then some (1,[.raw (.int k (l.getD i 0))]) else none
 | .tok _ (.sl n rows),i=>if i<rows.length then some (n,rows.getD i []) else none
 | _,_=>none
def indexAddrA (σ:List AV) (ti:TI) (x y:Operand):Option (List Nat×AV):=
 match opd σ y with
 | .one (.raw (.int _ n)) =>
  if 0≤n then
   match ti.sh with
   | .slice _ es _ _=>match opd σ x with
    | .one c=>match elemAt c n.toNat with
     | some (m,cs)=>if m=es then some (orr x++orr y,.elt cs) else none
     | none=>none
    | .arr _ c _=>match x with
     | .tmp t=>if es=c.esz∧n.toNat<c.cnt then some (orr x++orr y,.pel t es n.toNat 0) else none
     | _=>none
    | .asl s=>match gt σ s with
     | .arr _ c _=>if es=c.esz∧n.toNat<c.cnt then some (s::(orr x++orr y),.pel s es n.toNat 0) else none
     | _=>none
    | .awn s m lo k=>if es=m∧n.toNat<k then some (orr x++orr y,.pel s es (lo+n.toNat) 0) else none
    | _=>none
   | .array m _ es=>match opd σ x with
    | .box _=>match x with
     | .tmp t=>if n.toNat<m∧es≠0 then some (orr x++orr y,.ptr t (n.toNat*es)) else none
     | _=>none
    | .obx _=>match x with
     | .tmp t=>if n.toNat<m∧es≠0 then some (orr x++orr y,.ptr t (n.toNat*es)) else none
     | _=>none
    | .ptr s o=>if n.toNat<m∧es≠0 then some (orr x++orr y,.ptr s (o+n.toNat*es)) else none
    | .pel s m' i f=>if n.toNat<m∧es≠0 then some (orr x++orr y,.pel s m' i (f+n.toNat*es)) else none
    | .elt cs=>if n.toNat<m∧es≠0 then some (orr x++orr y,.elt (cs.drop (n.toNat*es))) else none
    | _=>none
   | _=>none
  else none
 | _=>none
def ElemGoal (M:Nat→Nat→Prop) (w:World) (v:Value) (i m:Nat) (cs:List Cell):Prop:=
 ∃(b off len cap:Nat) (vs:List Value),v=.slice (some ⟨b,off,none⟩) len cap∧i<len∧(∀ j u,vs[j]? = some u→¬M b (off+i*m+j)∧w.cell? ⟨b,off+i*m+j,none⟩=some u)∧RdD M w vs cs
theorem elemAt_ok {M : Nat → Nat → Prop} {w : World} {τ : Nat → TV} {v : Value} {c : Cell} (h : RdT M w τ v c) {i m : Nat} {cs : List Cell} (he : elemAt c i = some (m, cs)) :
 ElemGoal M w v i m cs:=by
 have ints:∀ k l,RdC M w v (.ints k l)→(if i<l.length then some (1,[Cell.raw (.int k (l.getD i 0))]) else none)=some (m,cs)→ElemGoal M w v i m cs:=fun k l hr he=>by
  split at he
  · rename_i hi
    cases he
    cases hr with
    | ints b off hl hc ha hcell=>
     have hne:l≠[]:=fun e=>by rw [e] at hi;simp at hi
     rw [ha hne]
     refine ⟨b,off,_,_,[.int k (l.getD i 0)],rfl,by omega,fun j u hj=>?_,⟨RdC.raw rfl,trivial⟩⟩
     cases j with
     | zero=>
      simp at hj;subst hj
      have:=hcell i hi
      simpa [hi] using this
     | succ j=>simp at hj
  · cases he
 have rows:∀ n rows,RdC M w v (.sl n rows)→(if i<rows.length then some (n,rows.getD i []) else none)=some (m,cs)→ElemGoal M w v i m cs:=fun n rows hr he=>by
  split at he
  · rename_i hi
    cases he
    cases hr with
    | sl b off u hl hc ha hn hm hr=>
     have hne:rows≠[]:=fun e=>by rw [e] at hi;simp at hi
     rw [ha hne]
     have hrl:rows[i].length=m:=hn _ (List.getElem_mem hi)
     refine ⟨b,off,_,_,(List.range m).map (u i),rfl,by omega,fun j x hj=>?_,?_⟩
     · simp only [List.getElem?_map] at hj
       by_cases hjn:j<m
       · have:=hm i hi j hjn
         simp [hjn] at hj
         rwa [←hj]
       · simp [hjn] at hj
     · have e:rows.getD i []=rows[i]:=by simp [hi]
       rw [e]
       have gen:∀(cs:List Cell) (f:Nat→Value),(∀ j (hj:j<cs.length),RdC M w (f j) cs[j])→RdD M w ((List.range cs.length).map f) cs:=by
        intro cs
        induction cs with
        | nil=>intro f _;exact trivial
        | cons c cs ih=>
         intro f hf
         rw [List.length_cons,List.range_succ_eq_map,List.map_cons,List.map_map]
         exact ⟨hf 0 (by simp),ih (f∘Nat.succ) (fun j hj=>hf (j+1) (by simpa using hj))⟩
       have:=gen rows[i] (u i) (fun j hj=>hr i hi j hj)
       rwa [hrl] at this
  · cases he
 cases c with
 | ints k l=>exact ints k l h he
 | sl n r=>exact rows n r h he
 | tok d c=>
  cases c with
  | ints k l=>exact ints k l h.2 he
  | sl n r=>exact rows n r h.2 he
  | _=>cases he
 | _=>cases he
theorem shOf_slice {d : TypeDesc} {e es eb : Nat} {ik : Option IntKind} (h : shOf P d = .slice e es eb ik) :
 d=.slice e∧∃ i z,P.info? e=some i∧i.zero=some z∧i.size=es∧i.bytes=eb∧es≠0∧z.cells.size=es∧ik=(match P.underlying e with | some (.int k)=>some k | _=>none):=by
 cases d with
 | slice e' =>
  unfold shOf at h
  dsimp only at h
  split at h
  · rename_i i hi
    split at h
    · rename_i z hz
      split at h
      · rename_i hc
        simp only [Bool.and_eq_true,bne_iff_ne,beq_iff_eq] at hc
        cases h
        exact ⟨rfl,i,z,hi,hz,rfl,rfl,hc.1,hc.2,rfl⟩
      · cases h
    · cases h
  · cases h
 | struct fl=>
  exfalso;revert h;unfold shOf;dsimp only;split<;>simp
 | _=>simp [shOf] at h
theorem shOf_array {d:TypeDesc} {n e es:Nat} (h:shOf P d=.array n e es):d=.array n e∧es=P.cellsOf e:=by
 cases d with
 | array n' e'=>simp [shOf] at h;obtain ⟨rfl,rfl,rfl⟩:=h;exact ⟨rfl,rfl⟩
 | slice e=>
  exfalso;revert h;unfold shOf;dsimp only
  split
  · split
    · split<;>simp
    · simp
  · simp
 | struct fl=>
  exfalso;revert h;unfold shOf;dsimp only;split<;>simp
 | _=>simp [shOf] at h
theorem run_indexAt_slice {T:TypeId} {ti:TI} (hti:TIok P T ti) {e es eb:Nat} {ik:Option IntKind} (hs:ti.sh=.slice e es eb ik) (w:World) (b off len cap:Nat) (k:IntKind) (n:Int) (h0:0≤n) (hn:n.toNat<len) :
 (Instr.indexAt T (.slice (some ⟨b,off,none⟩) len cap) (.int k n)).run P w=.ok (.pointer (some ⟨b,off+n.toNat*es,none⟩)) w:=by
 obtain ⟨d,i,z,hd,hi,hz,hsz',hby,hzs,hone,hzc,hsh⟩:=hti.ex
 obtain ⟨rfl,j,z',hj,_,hjs,_⟩:=shOf_slice (hsh.symm.trans hs)
 have hlt:n<(len:Int):=by omega
 unfold Instr.indexAt
 simp [asIntOf,run_underlying' hd,h0,hlt,run_sizeOf' hj,hjs,addr_add]
theorem sound_indexAddr {σ:List AV} {o:Oper} {T:TypeId} {x y:Operand} (ho:o.op=.indexAddr T x y) {ti:TI} (hti:mkTI P T=some ti) {rd:List Nat} {av:AV} (hfa:indexAddrA σ ti x y=some (rd,av))
 {r:List Nat×List (Nat×AV)} (h:val σ o rd av=some r):AStep P o σ r.1 [] r.2:=by
 obtain ⟨d,hdst,hn,rfl⟩:=val_spec h
 have hok:=mkTI_ok hti
 have hnh:av.holder=false∧(∀ t,¬av.hasTok t)∧(∀ t∈orr x++orr y,t∈rd):=by
  unfold indexAddrA at hfa
  repeat' split at hfa
  all_goals first | (cases hfa;exact ⟨rfl,fun t h=>h,fun t h=>by simp at h ⊢;simp [h]⟩) | cases hfa
 refine AStep.val hdst (by simp) hn hnh.1 (fun E τ M σ' a w hag hI=>?_)
 have hox:opd σ' x=opd σ x:=hag.opd (fun t ht=>List.mem_cons_of_mem _ (hnh.2.2 t (by simp [ht])))
 have hoy:opd σ' y=opd σ y:=hag.opd (fun t ht=>List.mem_cons_of_mem _ (hnh.2.2 t (by simp [ht])))
 have sx:=hI.opd x
 have sy:=hI.opd y
 rw [hox] at sx;rw [hoy] at sy
 unfold indexAddrA at hfa
 split at hfa
 case h_2=>cases hfa
 rename_i k n hyn
 rw [hyn] at sy
 have ey:a.eval y=.int k n:=RdC.raw_inv sy
 split at hfa
 case isFalse=>cases hfa
 rename_i h0
 split at hfa
 · rename_i e es eb ik hsh
   have fin:∀(b off len cap:Nat),a.eval x=.slice (some ⟨b,off,none⟩) len cap→n.toNat<len→SlotOk M w τ a.tmps (.pointer (some ⟨b,off+n.toNat*es,none⟩)) av→
    (∀(s:Nat) (b:Bool),av.rf=some (s,b)→∃ hv:AV,σ'[s]? = some hv∧hv.fits b=true)→
    ∃ v w',(execOp a.eval o).run P w=.ok (.value v) w'∧Below w.heap.size w w'∧SlotOk M w' τ a.tmps v av∧(∀ t,av.hasTok t→live σ' t)∧
    (∀(s:Nat) (b:Bool),av.rf=some (s,b)→∃ hv:AV,σ'[s]? = some hv∧hv.fits b=true):=fun b off len cap hx hlt hsl hrf=>
    ⟨_,w,by simp [execOp,ho,hx,ey,run_indexAt_slice hok hsh w b off len cap k n h0 hlt],below_self w,hsl,fun t ht=>absurd ht (hnh.2.1 t),hrf⟩
   split at hfa
   · rename_i c hxc
     rw [hxc] at sx
     split at hfa
     · rename_i m cs hel
       split at hfa
       · rename_i hm
         cases hfa
         subst hm
         obtain ⟨b,off,len,cap,vs,e1,hlt,hcl,hr⟩:=elemAt_ok (show RdT M w τ _ c from sx) hel
         exact fin b off len cap e1 hlt ⟨b,_,vs,rfl,hcl,hr⟩ (fun s b hr=>by cases hr)
       · cases hfa
     · cases hfa
   · rename_i pre c post hxa
     split at hfa
     · rename_i t
       split at hfa
       · rename_i hc
         obtain ⟨rfl,hlt⟩:=hc
         cases hfa
         rw [hxa] at sx
         obtain ⟨b,Tb,vs,q,cap,e1,hb,_⟩:=sx
         refine fin b pre.length c.cnt cap e1 hlt ?_ (fun s b' hr=>?_)
         · show _=Value.pointer (some ⟨blk (a.eval (.tmp t)),offV (a.eval (.tmp t))+n.toNat*c.esz+0,none⟩)
           rw [e1];simp [blk,offV]
         · simp only [AV.rf,Option.some.injEq,Prod.mk.injEq] at hr
           obtain ⟨rfl,rfl⟩:=hr
           exact ⟨_,gt_some (hox.trans hxa) (by simp),rfl⟩
       · cases hfa
     · cases hfa
   · rename_i s hxa
     split at hfa
     · rename_i pre c post hg0
       split at hfa
       · rename_i hc
         obtain ⟨rfl,hlt⟩:=hc
         cases hfa
         have hg:gt σ' s=.arr pre c post:=by rw [hag.2 s (by simp)];exact hg0
         rw [hxa] at sx
         have sx:a.eval x=a.tmps.getD s Go.undef:=sx
         have hss:=hI.gt s
         rw [hg] at hss
         obtain ⟨b,Tb,vs,q,cap,e1,hb,_⟩:=hss
         refine fin b pre.length c.cnt cap (sx.trans e1) hlt ?_ (fun s' b' hr=>?_)
         · show _=Value.pointer (some ⟨blk (a.tmps.getD s Go.undef),offV (a.tmps.getD s Go.undef)+n.toNat*c.esz+0,none⟩)
           rw [e1];simp [blk,offV]
         · simp only [AV.rf,Option.some.injEq,Prod.mk.injEq] at hr
           obtain ⟨rfl,rfl⟩:=hr
           exact ⟨_,gt_some hg (by simp),rfl⟩
       · cases hfa
     · cases hfa
   · rename_i s m lo k' hxa
     split at hfa
     · rename_i hc
       obtain ⟨rfl,hlt⟩:=hc
       cases hfa
       rw [hxa] at sx
       obtain ⟨ad,cap,e1,had,hcap,_⟩:=sx
       rw [had (.inl (by omega))] at e1
       refine fin _ _ _ cap e1 hlt ?_ (fun s' b' hr'=>?_)
       · show _=Value.pointer (some ⟨_,offV (a.tmps.getD s Go.undef)+(lo+n.toNat)*es+0,none⟩)
         rw [Nat.add_mul,Nat.add_zero,Nat.add_assoc]
       · cases x with
         | tmp t=>exact hI.refs t _ s' b' (gt_some (hox.trans hxa) (by simp)) (by simpa [AV.rf] using hr')
         | const v=>
          exfalso
          simp only [opd,constAV] at hxa
          split at hxa
          · split at hxa<;>cases hxa
          · cases hxa
          · cases hxa
         | func f=>cases hxa
         | global g=>cases hxa
     · cases hfa
   · cases hfa
 · rename_i m e es hsh
   have fin:∀(b off:Nat),a.eval x=.pointer (some ⟨b,off,none⟩)→n.toNat<m→es≠0→SlotOk M w τ a.tmps (.pointer (some ⟨b,off+n.toNat*es,none⟩)) av→
    (∀(s:Nat) (b:Bool),av.rf=some (s,b)→∃ hv:AV,σ'[s]? = some hv∧hv.fits b=true)→
    ∃ v w',(execOp a.eval o).run P w=.ok (.value v) w'∧Below w.heap.size w w'∧SlotOk M w' τ a.tmps v av∧(∀ t,av.hasTok t→live σ' t)∧
    (∀(s:Nat) (b:Bool),av.rf=some (s,b)→∃ hv:AV,σ'[s]? = some hv∧hv.fits b=true):=fun b off hx hlt hes0 hsl hrf=>by
    refine ⟨_,w,?_,below_self w,hsl,fun t ht=>absurd ht (hnh.2.1 t),hrf⟩
    obtain ⟨d,i,z,hd,hi,hz,hsz',hby,hzs,hone,hzc,hsh'⟩:=hok.ex
    obtain ⟨rfl,hes⟩:=shOf_array (hsh'.symm.trans hsh)
    have hltm:n<(m:Int):=by omega
    obtain ⟨j,hj,hjs⟩:=cellsOf_info (P:=P) (t:=e) (by rw [←hes];exact hes0)
    simp only [execOp,ho,hx,ey];unfold Instr.indexAt;simp [asIntOf,run_underlying' hd,h0,hltm,Instr.sureAddr,run_sizeOf' hj,hjs,hes,addr_add]
   split at hfa
   · rename_i cs hxa
     split at hfa
     · rename_i t
       split at hfa
       · rename_i hlt
         cases hfa
         rw [hxa] at sx
         obtain ⟨b,vs,Tb,e1,hb,hr⟩:=sx
         refine fin b 0 e1 hlt.1 hlt.2 ?_ (fun s b' hr=>?_)
         · show _=Value.pointer (some ⟨blk (a.eval (.tmp t)),_,none⟩)
           rw [e1];simp [blk]
         · simp only [AV.rf,Option.some.injEq,Prod.mk.injEq] at hr
           obtain ⟨rfl,rfl⟩:=hr
           exact ⟨_,gt_some (hox.trans hxa) (by simp),rfl⟩
       · cases hfa
     · cases hfa
   · rename_i cs hxa
     split at hfa
     · rename_i t
       split at hfa
       · rename_i hlt
         cases hfa
         rw [hxa] at sx
         obtain ⟨b,vs,Tb,e1,hb,hr⟩:=sx
         refine fin b 0 e1 hlt.1 hlt.2 ?_ (fun s b' hr=>?_)
         · show _=Value.pointer (some ⟨blk (a.eval (.tmp t)),_,none⟩)
           rw [e1];simp [blk]
         · simp only [AV.rf,Option.some.injEq,Prod.mk.injEq] at hr
           obtain ⟨rfl,rfl⟩:=hr
           exact ⟨_,gt_some (hox.trans hxa) (by simp),rfl⟩
       · cases hfa
     · cases hfa
   · rename_i s o' hxa
     split at hfa
     · rename_i hlt
       cases hfa
       rw [hxa] at sx
       refine fin _ o' sx hlt.1 hlt.2 rfl (fun s' b' hr'=>?_)
       cases x with
       | tmp t=>exact hI.refs t _ s' b' (gt_some (hox.trans hxa) (by simp)) (by simpa [AV.rf] using hr')
       | const v=>
        exfalso
        simp only [opd,constAV] at hxa
        split at hxa
        · split at hxa<;>cases hxa
        · cases hxa
        · cases hxa
       | func f=>cases hxa
       | global g=>cases hxa
     · cases hfa
   · rename_i s m' i f hxa
     split at hfa
     · rename_i hlt
       cases hfa
       rw [hxa] at sx
       refine fin _ _ sx hlt.1 hlt.2 (by show _=Value.pointer _;rw [Nat.add_assoc]) (fun s' b' hr'=>?_)
       cases x with
       | tmp t=>exact hI.refs t _ s' b' (gt_some (hox.trans hxa) (by simp)) (by simpa [AV.rf] using hr')
       | const v=>
        exfalso
        simp only [opd,constAV] at hxa
        split at hxa
        · split at hxa<;>cases hxa
        · cases hxa
        · cases hxa
       | func f=>cases hxa
       | global g=>cases hxa
     · cases hfa
   · rename_i cs hxa
     split at hfa
     · rename_i hlt
       cases hfa
       rw [hxa] at sx
       obtain ⟨b,o',vs,e1,hc,hr⟩:=sx
       refine fin b o' e1 hlt.1 hlt.2 ⟨b,_,vs.drop (n.toNat*es),rfl,fun j u hj=>?_,hr.drop _⟩ (fun s b hr=>by cases hr)
       rw [List.getElem?_drop] at hj
       have:=hc _ u hj
       rwa [←Nat.add_assoc] at this
     · cases hfa
   · cases hfa
 · cases hfa
end Go.Slot

namespace Go.Slot
open Go Go.RowKit
variable {P:Program}
theorem AStep.pure {o:Oper} {σ:List AV} {rd:List Nat} {av:AV} {r:List Nat×List (Nat×AV)} (h:Slot.val σ o rd av=some r) (hav:av.holder=false) (hrf:av.rf=none)
 (hrun:∀(E:Env) (τ:Nat→TV) (M:Nat→Nat→Prop) (σ':List AV) (a:Act) (w:World),(∀ x:Operand,(∀ t∈orr x,t∈rd)→opd σ' x=opd σ x)→(∀ s∈rd,gt σ' s=gt σ s)→RelI E τ M σ' a w→
   ∃ v,(execOp a.eval o).run P w=.ok (.value v) w∧SlotOk M w τ a.tmps v av∧(∀ t,av.hasTok t→live σ' t)):AStep P o σ r.1 [] r.2:=by
 obtain ⟨d,hdst,hn,rfl⟩:=val_spec h
 refine AStep.val hdst (by simp) hn hav (fun E τ M σ' a w hag hI=>?_)
 obtain ⟨v,h1,h2,h3⟩:=hrun E τ M σ' a w (fun x hx=>hag.opd (fun t ht=>by simp [hx t ht])) (fun s hs=>hag.2 s (by simp [hs])) hI
 exact ⟨v,w,h1,below_self w,h2,h3,fun s b hr=>by rw [hrf] at hr;cases hr⟩
def iand (k:IntKind) (a b:Int):Int:=k.wrap (BitVec.ofInt k.bits a &&&BitVec.ofInt k.bits b).toNat
def ior (k:IntKind) (a b:Int):Int:=k.wrap (BitVec.ofInt k.bits a |||BitVec.ofInt k.bits b).toNat
def ishl (k:IntKind) (a b:Int):Int:=k.wrap (a*2 ^ (min b.toNat k.bits))
def ishr (k:IntKind) (a b:Int):Int:=a.fdiv (2 ^ (min b.toNat k.bits))
def seq (a b:ByteArray):Bool:=a.toList==b.toList
def abin (op:BinOp) (x y:Value):Option Value:=
 match x,y with
 | .int k a,.int k' b=>match op with
  | .shl=>if 0≤b then some (.int k (ishl k a b)) else none
  | .shr=>if 0≤b then some (.int k (ishr k a b)) else none
  | .add=>if k=k' then some (.int k (k.wrap (a+b))) else none
  | .sub=>if k=k' then some (.int k (k.wrap (a-b))) else none
  | .mul=>if k=k' then some (.int k (k.wrap (a*b))) else none
  | .quo=>if k=k'∧b≠0 then some (.int k (k.wrap (a.tdiv b))) else none
  | .rem=>if k=k'∧b≠0 then some (.int k (a.tmod b)) else none
  | .and=>if k=k' then some (.int k (iand k a b)) else none
  | .or=>if k=k' then some (.int k (ior k a b)) else none
  | .eql=>if k=k' then some (.bool (a==b)) else none
  | .neq=>if k=k' then some (.bool (a != b)) else none
  | .lss=>if k=k' then some (.bool (decide (a<b))) else none
  | .leq=>if k=k' then some (.bool (decide (a≤b))) else none
  | .gtr=>if k=k' then some (.bool (decide (b<a))) else none
  | .geq=>if k=k' then some (.bool (decide (b≤a))) else none
  | _=>none
 | .string a,.string b=>match op with
  | .eql=>some (.bool (seq a b))
  | .neq=>some (.bool (!seq a b))
  | .add=>if a.size+b.size≤9223372036854775807 then some (.string (a++b)) else none
  | .lss=>some (.bool (Op.bytesLess a.toList b.toList))
  | .leq=>some (.bool (Op.bytesLess a.toList b.toList||seq a b))
  | .gtr=>some (.bool (!(Op.bytesLess a.toList b.toList||seq a b)))
  | .geq=>some (.bool (!Op.bytesLess a.toList b.toList))
  | _=>none
 | _,_=>none
theorem abin_one {op:BinOp} {x y v:Value} (h:abin op x y=some v):v.oneCell'=true:=by
 unfold abin at h
 split at h
 · split at h<;>first | (split at h<;>first | (cases h;rfl) | cases h) | cases h
 · split at h<;>first | (cases h;rfl) | (split at h<;>first | (cases h;rfl) | cases h) | cases h
 · cases h
theorem run_abin {op:BinOp} {x y v:Value} (h:abin op x y=some v) (T:TypeId) (w:World):(binOp op T x y).run P w=.ok v w:=by
 unfold abin at h
 split at h
 · rename_i k a k' b
   split at h
   all_goals first
    | (split at h
       · rename_i hc
         first
          | (obtain ⟨rfl,hb⟩:=hc;cases h;simp [binOp,Op.intDiv,hb])
          | (subst hc;cases h;simp [binOp,Op.intArith,Op.intBits,Op.intCmp,iand,ior])
          | (cases h;have hb:¬b<0:=by omega
             simp [binOp,Op.shift,hb,ishl,ishr])
       · cases h)
    | cases h
 · rename_i a b
   split at h
   · cases h;simp [binOp,Op.stringOp,seq]
   · cases h;simp [binOp,Op.stringOp,seq]
   · split at h
     · rename_i hc
       cases h
       have:¬(IntKind.i64.max<((a.size+b.size:Nat):Int)):=by
        have:IntKind.i64.max=9223372036854775807:=by decide
        omega
       simp only [binOp,Op.stringOp]
       rw [if_neg this];rfl
     · cases h
   · cases h;simp [binOp,Op.stringOp]
   · cases h;simp [binOp,Op.stringOp,seq]
   · cases h;simp [binOp,Op.stringOp,seq]
   · cases h;simp [binOp,Op.stringOp]
   · cases h
 · cases h
theorem run_eqGuard {op:BinOp} {x y v:Value} (h:abin op x y=some v) (T:TypeId) (ox oy:Operand) (w:World):(eqGuard op T ox oy x y).run P w=.ok () w:=by
 unfold abin at h
 unfold eqGuard
 split at h
 · cases op<;>rfl
 · cases op<;>rfl
 · cases h
def binA (σ:List AV) (op:BinOp) (x y:Operand):Option AV:=
 match opd σ x,opd σ y with
 | .one (.raw a),.one (.raw b)=>(abin op a b).map fun v=>.one (.raw v)
 | _,_=>none
theorem sound_bin {σ:List AV} {o:Oper} {op:BinOp} {T U:TypeId} {x y:Operand} (ho:o.op=.binOp op T x y U) {av:AV} (hb:binA σ op x y=some av) {r:List Nat×List (Nat×AV)}
 (h:val σ o (orr x++orr y) av=some r):AStep P o σ r.1 [] r.2:=by
 have:∃ a b v,opd σ x=.one (.raw a)∧opd σ y=.one (.raw b)∧abin op a b=some v∧av=.one (.raw v):=by
  unfold binA at hb
  split at hb
  · rename_i a b hx hy
    simp only [Option.map_eq_some_iff] at hb
    obtain ⟨v,h1,rfl⟩:=hb
    exact ⟨a,b,v,hx,hy,h1,rfl⟩
  · cases hb
 obtain ⟨p,q,v,hx,hy,hab,rfl⟩:=this
 refine AStep.pure h rfl rfl (fun E τ M σ' a w hop _ hI=>⟨v,?_,RdC.raw (abin_one hab),fun t ht=>ht.elim⟩)
 have sx:=hI.opd x
 have sy:=hI.opd y
 rw [hop x (fun t ht=>by simp [ht]),hx] at sx
 rw [hop y (fun t ht=>by simp [ht]),hy] at sy
 have ex:a.eval x=p:=RdC.raw_inv sx
 have ey:a.eval y=q:=RdC.raw_inv sy
 simp [execOp,ho,ex,ey,run_eqGuard hab,run_abin hab]
def nilC:Cell→Option Bool
 | .raw (.slice none 0 0)=>some true
 | .nn b=>some b
 | .ints _ l=>if 0<l.length then some false else none
 | .sl _ r=>if 0<r.length then some false else none
 | _=>none
def nilA (σ:List AV) (ti:TI) (op:BinOp) (x:Operand):Option AV:=
 match ti.sh with
 | .slice _ _ _ _=>match opd σ x with
  | .one c=>match nilC c.bare with
   | some b=>match op with
    | .eql=>some (.one (.raw (.bool b)))
    | .neq=>some (.one (.raw (.bool (!b))))
    | _=>none
   | none=>none
  | _=>none
 | _=>none
theorem RdC.isNil {M:Nat→Nat→Prop} {w:World} {v:Value} {c:Cell} {b:Bool} (h:RdC M w v c) (hb:nilC c=some b):∃ a len cap,v=.slice a len cap∧a.isNone=b:=by
 cases h with
 | raw h=>unfold nilC at hb;split at hb<;>first | (rename_i heq;cases heq;cases hb;exact ⟨_,_,_,rfl,rfl⟩) | (rename_i heq;cases heq;done) | cases hb
 | zc=>cases hb
 | nn=>cases hb;exact ⟨_,_,_,rfl,rfl⟩
 | fnp=>cases hb
 | ints b' off hl hc ha h=>
  simp only [nilC] at hb
  split at hb
  · rename_i hp;cases hb;rw [ha (List.length_pos_iff.1 hp)];exact ⟨_,_,_,rfl,rfl⟩
  · cases hb
 | sl b' off u hl hc ha hn hm hr=>
  simp only [nilC] at hb
  split at hb
  · rename_i hp;cases hb;rw [ha (List.length_pos_iff.1 hp)];exact ⟨_,_,_,rfl,rfl⟩
  · cases hb
theorem sound_nil {σ:List AV} {o:Oper} {op:BinOp} {T U:TypeId} {x:Operand} (ho:o.op=.binOp op T x (.const (.slice none 0 0)) U) {ti:TI} (hti:mkTI P T=some ti) {av:AV} (hb:nilA σ ti op x=some av) {r:List Nat×List (Nat×AV)}
 (h:val σ o (orr x) av=some r):AStep P o σ r.1 [] r.2:=by
 obtain ⟨ds,i,z,hd,hi,hz,_,_,_,_,_,hsh'⟩:=(mkTI_ok hti).ex
 unfold nilA at hb
 split at hb
 case h_2=>cases hb
 rename_i e es eb ik hsh
 obtain ⟨rfl,_⟩:=shOf_slice (hsh'.symm.trans hsh)
 split at hb
 case h_2=>cases hb
 rename_i c hx
 split at hb
 case h_2=>cases hb
 rename_i b hnil
 have hav:∃ q,av=.one (.raw (.bool q))∧((op=.eql∧q=b)∨(op=.neq∧q = !b)):=by
  split at hb<;>cases hb
  · exact ⟨_,rfl,.inl ⟨rfl,rfl⟩⟩
  · exact ⟨_,rfl,.inr ⟨rfl,rfl⟩⟩
 obtain ⟨q,rfl,hq⟩:=hav
 refine AStep.pure h rfl rfl (fun E τ M σ' a w hop _ hI=>⟨.bool q,?_,RdC.raw rfl,fun t ht=>ht.elim⟩)
 have sx:=hI.opd x
 rw [hop x (fun t ht=>ht),hx] at sx
 obtain ⟨ad,len,cap,hv,hn⟩:=(RdT.bare sx).isNil hnil
 have hd':∀ d,(Op.equalIn (d+1) T (.slice ad len cap) (.slice none 0 0)).run P w=.ok b w:=fun d=>by
  unfold Op.equalIn
  cases ad with
  | none=>cases hn;simp [run_underlying' hd]
  | some ad=>cases hn;simp [run_underlying' hd]
 have he:(Op.equal T (.slice ad len cap) (.slice none 0 0)).run P w=.ok b w:=hd' 9999
 have hc0:a.eval (.const (.slice none 0 0))=.slice none 0 0:=rfl
 rcases hq with ⟨rfl,rfl⟩ | ⟨rfl,rfl⟩
 · simp [execOp,ho,hv,eqGuard,binOp,he,hc0]
 · simp [execOp,ho,hv,eqGuard,binOp,he,hc0]
def aun (op:UnOp) (x:Value):Option Value:=
 match op,x with
 | .neg,.int k n=>some (.int k (k.wrap (0-n)))
 | .not,.bool b=>some (.bool (!b))
 | _,_=>none
def unA (σ:List AV) (op:UnOp) (x:Operand):Option AV:=
 match opd σ x with
 | .one (.raw a)=>(aun op a).map fun v=>.one (.raw v)
 | _=>none
theorem sound_un {σ:List AV} {o:Oper} {op:UnOp} {T:TypeId} {x:Operand} (ho:o.op=.unOp op T x) {av:AV} (hb:unA σ op x=some av) {r:List Nat×List (Nat×AV)}
 (h:val σ o (orr x) av=some r):AStep P o σ r.1 [] r.2:=by
 have:∃ a v,opd σ x=.one (.raw a)∧aun op a=some v∧av=.one (.raw v):=by
  unfold unA at hb
  split at hb
  · rename_i a hx
    simp only [Option.map_eq_some_iff] at hb
    obtain ⟨v,h1,rfl⟩:=hb
    exact ⟨a,v,hx,h1,rfl⟩
  · cases hb
 obtain ⟨p,v,hx,hab,rfl⟩:=this
 have hone:v.oneCell'=true:=by unfold aun at hab;split at hab<;>first | (cases hab;rfl) | cases hab
 refine AStep.pure h rfl rfl (fun E τ M σ' a w hop _ hI=>⟨v,?_,RdC.raw hone,fun t ht=>ht.elim⟩)
 have sx:=hI.opd x
 rw [hop x (fun t ht=>by simp [ht]),hx] at sx
 have ex:a.eval x=p:=RdC.raw_inv sx
 unfold aun at hab
 split at hab
 · cases hab;simp [execOp,ho,ex,Op.unary,Op.intArith]
 · cases hab;simp [execOp,ho,ex,Op.unary]
 · cases hab
def convA (σ:List AV) (_ts td:TI) (x:Operand):Option AV:=
 match opd σ x,td.sh with
 | .one (.raw (.int _ n)),.int k=>some (.one (.raw (.int k (k.wrap n))))
 | _,_=>none
theorem shOf_int {d:TypeDesc} {k:IntKind} (h:shOf P d=.int k):d=.int k:=by
 cases d with
 | int k'=>simp [shOf] at h;rw [h]
 | slice e=>
  exfalso;revert h;unfold shOf;dsimp only
  split
  · split
    · split<;>simp
    · simp
  · simp
 | struct fl=>
  exfalso;revert h;unfold shOf;dsimp only;split<;>simp
 | _=>simp [shOf] at h
theorem sound_conv {σ:List AV} {o:Oper} {S D:TypeId} {x:Operand} (ho:o.op=.convert S D x) {ts td:TI} (hts:mkTI P S=some ts) (htd:mkTI P D=some td) {av:AV} (hb:convA σ ts td x=some av)
 {r:List Nat×List (Nat×AV)} (h:val σ o (orr x) av=some r):AStep P o σ r.1 [] r.2:=by
 have:∃ k' k n,opd σ x=.one (.raw (.int k' n))∧td.sh=.int k∧av=.one (.raw (.int k (k.wrap n))):=by
  unfold convA at hb
  split at hb
  · rename_i k' n k hx hk;cases hb;exact ⟨k',k,n,hx,hk,rfl⟩
  · cases hb
 obtain ⟨k',k,n,hx,hk,rfl⟩:=this
 obtain ⟨d,i,z,hd,hi,hz,_,_,_,_,_,hsh⟩:=(mkTI_ok htd).ex
 obtain ⟨ds,_,_,hds,_⟩:=(mkTI_ok hts).ex
 have hdk:=shOf_int (hsh.symm.trans hk)
 subst hdk
 refine AStep.pure h rfl rfl (fun E τ M σ' a w hop _ hI=>⟨_,?_,RdC.raw rfl,fun t ht=>ht.elim⟩)
 have sx:=hI.opd x
 rw [hop x (fun t ht=>by simp [ht]),hx] at sx
 have ex:a.eval x=.int k' n:=RdC.raw_inv sx
 simp [execOp,ho,ex,convert,run_underlying' hd,run_underlying' hds,Conv.intToInt]
def lenC:Cell→Option Nat
 | .ints _ l=>some l.length
 | .sl _ rows=>some rows.length
 | .zc=>some 0
 | .nn _=>some 0
 | .raw (.slice none 0 0)=>some 0
 | .raw (.string s)=>some s.size
 | .tok _ (.ints _ l)=>some l.length
 | .tok _ (.sl _ rows)=>some rows.length
 | _=>none
def lenA (σ:List AV) (x:Operand):Option (List Nat×AV):=
 match opd σ x with
 | .one c=>(lenC c).map fun (n:Nat)=>(orr x,.one (.raw (.int .i64 (n:Int))))
 | .arr _ c _=>some (orr x,.one (.raw (.int .i64 (c.cnt:Int))))
 | .asl s=>match gt σ s with
  | .arr _ c _=>some (s::orr x,.one (.raw (.int .i64 (c.cnt:Int))))
  | _=>none
 | .awn _ _ _ (n:Nat)=>some (orr x,.one (.raw (.int .i64 (n:Int))))
 | _=>none
theorem run_len_slice {T:TypeId} {ti:TI} (hti:TIok P T ti) {e es eb:Nat} {ik:Option IntKind} (hs:ti.sh=.slice e es eb ik) (ty:TypeId) (ad:Option Addr) (len cap:Nat) (w:World) :
 (Builtin.len_ #[T] ty #[.slice ad len cap]).run P w=.ok (.int .i64 len) w:=by
 obtain ⟨d,i,z,hd,hi,hz,_,_,_,_,_,hsh⟩:=hti.ex
 obtain ⟨rfl,_⟩:=shOf_slice (hsh.symm.trans hs)
 simp [Builtin.len_,run_underlying' hd,goInt]
theorem shOf_string {d:TypeDesc} (h:shOf P d=.string):d=.string:=by
 cases d with
 | string=>rfl
 | slice e=>
  exfalso;revert h;unfold shOf;dsimp only
  split
  · split
    · split<;>simp
    · simp
  · simp
 | struct fl=>
  exfalso;revert h;unfold shOf;dsimp only;split<;>simp
 | _=>simp [shOf] at h
def lenOk (ti:TI):Cell→Bool
 | .raw (.string _)=>match ti.sh with
  | .string=>true
  | _=>false
 | _=>match ti.sh with
  | .slice _ _ _ _=>true
  | _=>false
def lenFit (σ:List AV) (ti:TI) (x:Operand):Bool:=
 match opd σ x with
 | .one c=>lenOk ti c
 | _=>match ti.sh with
  | .slice _ _ _ _=>true
  | _=>false
theorem RdT.len {M:Nat→Nat→Prop} {w:World} {τ:Nat→TV} {v:Value} {c:Cell} {n:Nat} (h:RdT M w τ v c) (hl:lenC c=some n) :
 (∃ ad cap,v=.slice ad n cap∧∀ s,c≠.raw (.string s))∨∃ s,c=.raw (.string s)∧v=.string s∧n=s.size:=by
 have base:∀ c,RdC M w v c→lenC c=some n→(∃ ad cap,v=.slice ad n cap∧∀ s,c≠.raw (.string s))∨∃ s,c=.raw (.string s)∧v=.string s∧n=s.size:=fun c h hl=>by
  cases h with
  | raw h=>
   unfold lenC at hl
   split at hl
   case h_5=>rename_i heq;cases heq;cases hl;exact .inl ⟨none,0,rfl,by simp⟩
   case h_6=>rename_i s heq;cases heq;cases hl;exact .inr ⟨s,rfl,rfl,rfl⟩
   all_goals first | (rename_i heq;cases heq;done) | cases hl
  | zc=>cases hl;exact .inl ⟨_,_,rfl,by simp⟩
  | nn=>cases hl;exact .inl ⟨_,_,rfl,by simp⟩
  | fnp=>cases hl
  | ints b off hl' hc ha h=>cases hl;subst hl';exact .inl ⟨_,_,rfl,by simp⟩
  | sl b off u hl' hc ha hn hm hr=>cases hl;subst hl';exact .inl ⟨_,_,rfl,by simp⟩
 cases c with
 | tok d c=>
  have h2:=h.2
  rcases base c h2 (by cases c<;>first | exact hl | cases hl) with ⟨ad,cap,hv,_⟩ | ⟨s,rfl,_⟩
  · exact .inl ⟨ad,cap,hv,by simp⟩
  · cases hl
 | _=>exact base _ h hl
theorem sound_len {σ:List AV} {o:Oper} {T:TypeId} {x:Operand} (ho:o.op=.call { callee:=.builtin .len,args:=#[x],argTypes:=#[T] }) {ti:TI} (hti:mkTI P T=some ti) (hfit:lenFit σ ti x=true)
 {rd:List Nat} {av:AV} (hb:lenA σ x=some (rd,av)) {r:List Nat×List (Nat×AV)} (h:val σ o rd av=some r):AStep P o σ r.1 [] r.2:=by
 have hok:=mkTI_ok hti
 have hsub:(∀ t∈orr x,t∈rd)∧∃ n:Nat,av=.one (.raw (.int .i64 n)):=by
  unfold lenA at hb
  split at hb
  · simp only [Option.map_eq_some_iff,Prod.mk.injEq] at hb
    obtain ⟨n,_,rfl,rfl⟩:=hb
    exact ⟨fun t ht=>ht,n,rfl⟩
  · cases hb;exact ⟨fun t ht=>ht,_,rfl⟩
  · split at hb
    · cases hb;exact ⟨fun t ht=>by simp [ht],_,rfl⟩
    · cases hb
  · cases hb;exact ⟨fun t ht=>ht,_,rfl⟩
  · cases hb
 obtain ⟨hsub,n,rfl⟩:=hsub
 refine AStep.pure h rfl rfl (fun E τ M σ' a w hop hgt hI=>⟨_,?_,RdC.raw rfl,fun t ht=>ht.elim⟩)
 have sx:=hI.opd x
 rw [hop x hsub] at sx
 have key:(Builtin.len_ #[T] o.type #[a.eval x]).run P w=.ok (.int .i64 n) w:=by
  unfold lenFit at hfit
  unfold lenA at hb
  split at hb
  · rename_i c hc
    rw [hc] at sx
    simp only [hc] at hfit
    simp only [Option.map_eq_some_iff,Prod.mk.injEq,AV.one.injEq,Cell.raw.injEq,Value.int.injEq,true_and] at hb
    obtain ⟨m,hm,rfl,hmn⟩:=hb
    have hmn':m=n:=by exact_mod_cast hmn
    subst hmn'
    rcases RdT.len (show RdT M w τ _ c from sx) hm with ⟨ad,cap,hv,hns⟩ | ⟨s,rfl,hv,rfl⟩
    · rw [hv]
      have:∃ e es eb ik,ti.sh=.slice e es eb ik:=by
       unfold lenOk at hfit
       split at hfit
       · exact absurd rfl (hns _)
       · split at hfit
         · rename_i h;exact ⟨_,_,_,_,h⟩
         · cases hfit
      obtain ⟨e,es,eb,ik,hsh⟩:=this
      exact run_len_slice hok hsh _ _ _ _ w
    · rw [hv]
      have hsh:ti.sh=.string:=by
       simp only [lenOk] at hfit
       split at hfit
       · assumption
       · cases hfit
      obtain ⟨d,i,z,hd,hi,hz,_,_,_,_,_,hsh'⟩:=hok.ex
      have:=shOf_string (hsh'.symm.trans hsh)
      subst this
      simp [Builtin.len_,run_underlying' hd,goInt]
  · rename_i pre c post hl
    cases hb
    rw [hl] at sx
    obtain ⟨b,Tb,vs,q,cap,e1,_⟩:=sx
    rw [e1]
    simp only [hl] at hfit
    split at hfit
    · rename_i hsh;exact run_len_slice hok hsh _ _ _ _ w
    · cases hfit
  · rename_i s hs0
    split at hb
    · rename_i pre c post hl
      cases hb
      rw [hs0] at sx
      have sx:a.eval x=a.tmps.getD s Go.undef:=sx
      have hss:=hI.gt s
      rw [hgt s (by simp),hl] at hss
      obtain ⟨b,Tb,vs,q,cap,e1,_⟩:=hss
      rw [sx,e1]
      simp only [hs0] at hfit
      split at hfit
      · rename_i hsh;exact run_len_slice hok hsh _ _ _ _ w
      · cases hfit
    · cases hb
  · rename_i s m lo n' hs0
    cases hb
    rw [hs0] at sx
    obtain ⟨ad,cap,e1,_⟩:=sx
    rw [e1]
    simp only [hs0] at hfit
    split at hfit
    · rename_i hsh;exact run_len_slice hok hsh _ _ _ _ w
    · cases hfit
  · cases hb
 simp [execOp,ho,resolve,invoke,builtin,key]
end Go.Slot

namespace Go.Slot
open Go Go.RowKit
variable {P:Program}
def Cell.isSl:Cell→Bool
 | .ints _ _ | .sl _ _ | .zc=>true
 | _=>false
def natA:AV→Option Nat
 | .one (.raw (.int _ n))=>if 0≤n then some n.toNat else none
 | _=>none
def boundA (σ:List AV) (d:Nat):Option Operand→Option Nat
 | none=>some d
 | some x=>natA (opd σ x)
def orrO:Option Operand→List Nat
 | none=>[]
 | some x=>orr x
def cutC (c:Cell) (lo:Nat) (hi:Option Nat):Option Cell:=
 match c with
 | .ints k l=>let h:=hi.getD l.length
  if lo≤h∧h≤l.length then some (.ints k ((l.drop lo).take (h-lo))) else none
 | .sl n rows=>let h:=hi.getD rows.length
  if lo≤h∧h≤rows.length then some (.sl n ((rows.drop lo).take (h-lo))) else none
 | _=>none
def sliceA (σ:List AV) (ti:TI) (x:Operand) (lo hi mx:Option Operand):Option AV:=
 match boundA σ 0 lo,(match hi with | none=>some none | some h=>(natA (opd σ h)).map some) with
 | some l,some h=>
  match mx with
  | none=>match opd σ x with
   | .one (.raw (.string s))=>match ti.sh with
    | .string=>if l≤h.getD s.size∧h.getD s.size≤s.size then some (.one (.raw (.string (s.extract l (h.getD s.size))))) else none
    | _=>none
   | .one c=>match ti.sh with
    | .slice _ _ _ _=>(cutC c.bare l h).map .one
    | _=>none
   | _=>none
  | some m=>match ti.sh,opd σ x with
   | .slice _ _ _ _,.one c=>if c.bare.isSl=true∧l=0∧h=some 0∧natA (opd σ m)=some 0 then some (.one .zc) else none
   | _,_=>none
 | _,_=>none
theorem natA_ok {M:Nat→Nat→Prop} {w:World} {τ:Nat→TV} {tm:Array Value} {v:Value} {av:AV} {n:Nat} (h:SlotOk M w τ tm v av) (hn:natA av=some n):∃ k,v=.int k n:=by
 unfold natA at hn
 split at hn
 · rename_i k m
   split at hn
   · rename_i h0
     cases hn
     have e:v=.int k m:=RdC.raw_inv h
     exact ⟨k,by rw [e];congr 1;omega⟩
   · cases hn
 · cases hn
theorem run_bound {v:Value} {n y:Nat} {k:IntKind} (hv:v=.int k n) (h:n≤y) (code:BoundsCode) (w:World):(Instr.sliceBound v y code).run P w=.ok n w:=by
 subst hv
 have:(n:Int)≤(y:Int):=by omega
 simp [Instr.sliceBound,asIntOf,this]
theorem run_bound0 (k:IntKind) (y:Nat) (code:BoundsCode) (w:World):(Instr.sliceBound (.int k 0) y code).run P w=.ok 0 w:=by
 simp [Instr.sliceBound,asIntOf]
theorem run_bounds {lo hi:Option Value} {l h len cap:Nat} {isS:Bool} (hl:match lo with | none=>l=0 | some v=>∃ k,v=.int k l) (hh:match hi with | none=>h=len | some v=>∃ k,v=.int k h)
 (h1:l≤h) (h2:h≤cap) (w:World):(Instr.sliceBounds isS len cap lo hi none).run P w=.ok (l,h,cap) w:=by
 unfold Instr.sliceBounds
 cases hi with
 | none=>
  simp only at hh
  subst hh
  cases lo with
  | none=>simp only at hl;subst hl;simp
  | some v=>obtain ⟨k,hv⟩:=hl;simp [run_bound hv h1]
 | some u=>
  obtain ⟨k',hu⟩:=hh
  cases lo with
  | none=>simp only at hl;subst hl;simp [run_bound hu h2]
  | some v=>obtain ⟨k,hv⟩:=hl;simp [run_bound hu h2,run_bound hv h1]
theorem RdC.cut {M:Nat→Nat→Prop} {w:World} {ad:Option Addr} {len cap:Nat} {c c':Cell} {l:Nat} {h:Option Nat} {es:Nat} (hr:RdC M w (.slice ad len cap) c) (hc:cutC c l h=some c')
 (hes:∀ k L,c=.ints k L→es=1) (hes':∀ n rows,c=.sl n rows→es=n) :
 l≤h.getD len∧h.getD len≤len∧len≤cap∧RdC M w (.slice (if cap=l then ad else ad.map (·.add (l*es))) (h.getD len-l) (cap-l)) c':=by
 cases hr with
 | raw h=>cases hc
 | zc=>cases hc
 | nn=>cases hc
 | fnp=>cases hc
 | @ints _ _ _ k L b off hl hcap ha hcell=>
  simp only [cutC] at hc
  split at hc
  · rename_i hb
    cases hc
    subst hl
    have he:=hes k L rfl
    subst he
    refine ⟨hb.1,hb.2,hcap,?_⟩
    refine .ints b (off+l) (by simp;omega) (by omega) (fun hne=>?_) (fun i hi=>?_)
    · have:L≠[]:=fun e=>by subst e;simp at hne
      have hlt:¬cap=l:=fun e=>by
       apply hne
       have:h.getD L.length=l:=by omega
       simp [this]
      rw [if_neg hlt,ha this]
      simp [addr_add]
    · simp only [List.length_take,List.length_drop] at hi
      have:=hcell (l+i) (by omega)
      rw [Nat.add_assoc]
      simpa using this
  · cases hc
 | @sl _ _ _ n rows b off u hl hcap ha hn hm hr=>
  simp only [cutC] at hc
  split at hc
  · rename_i hb
    cases hc
    subst hl
    have he:=hes' n rows rfl
    subst he
    refine ⟨hb.1,hb.2,hcap,?_⟩
    refine .sl b (off+l*es) (fun i j=>u (l+i) j) (by simp;omega) (by omega) (fun hne=>?_) (fun r hr'=>hn r (List.mem_of_mem_drop (List.mem_of_mem_take hr'))) (fun i hi j hj=>?_) (fun i hi j hj=>?_)
    · have:rows≠[]:=fun e=>by subst e;simp at hne
      have hlt:¬cap=l:=fun e=>by
       apply hne
       have:h.getD rows.length=l:=by omega
       simp [this]
      rw [if_neg hlt,ha this]
      simp [addr_add]
    · simp only [List.length_take,List.length_drop] at hi
      have:=hm (l+i) (by omega) j hj
      rw [Nat.add_mul] at this
      have e:off+l*es+i*es+j=off+(l*es+i*es)+j:=by omega
      rw [e];exact this
    · simp only [List.length_take,List.length_drop] at hi
      have hlen:l+i<rows.length:=by omega
      have hj':j<rows[l+i].length:=by simpa using hj
      have:=hr (l+i) hlen j hj'
      simpa using this
  · cases hc
theorem RdC.slice_val {M:Nat→Nat→Prop} {w:World} {v:Value} {c:Cell} (h:RdC M w v c) (hc:c.isSl=true):∃ ad len cap,v=.slice ad len cap:=by
 cases h with
 | raw _=>cases hc
 | fnp=>cases hc
 | _=>exact ⟨_,_,_,rfl⟩
theorem sound_slice {σ:List AV} {o:Oper} {T:TypeId} {x:Operand} {lo hi mx:Option Operand} (ho:o.op=.slice T x lo hi mx) {ti:TI} (hti:mkTI P T=some ti)
 (hes:∀ e es eb ik,ti.sh=.slice e es eb ik→∀ c,opd σ x=.one c→(∀ k L,c.bare=.ints k L→es=1)∧(∀ n rows,c.bare=.sl n rows→es=n)) {av:AV}
 (hs:sliceA σ ti x lo hi mx=some av) {r:List Nat×List (Nat×AV)} (h:val σ o (orr x++orrO lo++orrO hi++orrO mx) av=some r):AStep P o σ r.1 [] r.2:=by
 have hok:=mkTI_ok hti
 obtain ⟨d,i,z,hd,hi',hz,_,_,_,_,_,hsh'⟩:=hok.ex
 have hprops:av.holder=false∧av.rf=none:=by
  unfold sliceA at hs
  repeat' split at hs
  all_goals first
   | (cases hs;exact ⟨rfl,rfl⟩)
   | (simp only [Option.map_eq_some_iff] at hs;obtain ⟨_,_,rfl⟩:=hs;exact ⟨rfl,rfl⟩)
   | cases hs
 refine AStep.pure h hprops.1 hprops.2 (fun E τ M σ' a w hop hgt hI=>?_)
 have sx:=hI.opd x
 rw [hop x (fun t ht=>by simp [ht])] at sx
 have bnd:∀(u:Option Operand) (dflt n:Nat),(∀ y,u=some y→opd σ' y=opd σ y)→boundA σ dflt u=some n→match u.map a.eval with | none=>n=dflt | some v=>∃ k,v=.int k n:=fun u dflt n hu hb=>by
  cases u with
  | none=>simp [boundA] at hb;exact hb.symm
  | some y=>
   have sy:=hI.opd y
   rw [hu y rfl] at sy
   exact natA_ok sy hb
 have hlo:∀ y,lo=some y→opd σ' y=opd σ y:=fun y e=>hop y (fun t ht=>by subst e;simp [orrO,ht])
 have hhi:∀ y,hi=some y→opd σ' y=opd σ y:=fun y e=>hop y (fun t ht=>by subst e;simp [orrO,ht])
 have hmx:∀ y,mx=some y→opd σ' y=opd σ y:=fun y e=>hop y (fun t ht=>by subst e;simp [orrO,ht])
 unfold sliceA at hs
 split at hs
 case h_2=>cases hs
 rename_i l hh hl hhb
 have bl:=bnd lo 0 l hlo hl
 have bh:∀ len:Nat,match hi.map a.eval with | none=>hh.getD len=len | some v=>∃ k,v=.int k (hh.getD len):=fun len=>by
  cases hi with
  | none=>simp at hhb;subst hhb;rfl
  | some y=>
   simp only [Option.map_eq_some_iff] at hhb
   obtain ⟨n,hn,rfl⟩:=hhb
   have sy:=hI.opd y
   rw [hhi y rfl] at sy
   exact natA_ok sy hn
 split at hs
 ·
  split at hs
  · rename_i s hxs
    rw [hxs] at sx
    have ex:a.eval x=.string s:=RdC.raw_inv sx
    split at hs
    · rename_i hsh
      split at hs
      · rename_i hb
        cases hs
        have hds:=shOf_string (hsh'.symm.trans hsh)
        subst hds
        refine ⟨.string (s.extract l (hh.getD s.size)),?_,RdC.raw rfl,fun t ht=>ht.elim⟩
        have hrb:=run_bounds (P:=P) (isS:=false) (len:=s.size) (cap:=s.size) bl (bh s.size) hb.1 hb.2 w
        simp [execOp,ho,ex,Instr.sliceAt,run_underlying' hd,Instr.slice,hrb]
      · cases hs
    · cases hs
  · rename_i c hnot hxc
    rw [hxc] at sx
    split at hs
    · rename_i e es eb ik hsh
      simp only [Option.map_eq_some_iff] at hs
      obtain ⟨c',hc',rfl⟩:=hs
      obtain ⟨rfl,j,z',hj,hz',hjs,_⟩:=shOf_slice (hsh'.symm.trans hsh)
      have hrb:=RdT.bare (show RdT M w τ _ c from sx)
      have hsv:∃ ad len cap,a.eval x=.slice ad len cap:=hrb.slice_val (by
       generalize c.bare=cb at hc'
       cases cb<;>first | rfl | cases hc')
      obtain ⟨ad,len,cap,ex⟩:=hsv
      rw [ex] at hrb
      have hcut:=hrb.cut hc' (hes e es eb ik hsh c hxc).1 (hes e es eb ik hsh c hxc).2
      refine ⟨_,?_,RdT.of hcut.2.2.2,fun t ht=>?_⟩
      · have hrbs:=run_bounds (P:=P) (isS:=true) (len:=len) (cap:=cap) bl (bh len) hcut.1 (by omega) w
        simp [execOp,ho,ex,Instr.sliceAt,run_underlying' hd,Instr.slice,hrbs,run_sizeOf' hj,hjs]
      · have hnt:∀ t,¬c'.hasTok t:=fun t ht=>by
         cases c' with
         | tok d' c''=>exact hcut.2.2.2.notTok
         | _=>exact ht
        exact absurd ht (hnt t)
    · cases hs
  · cases hs
 · rename_i m
   split at hs
   · rename_i e es eb ik c hsh hxc
     rw [hxc] at sx
     split at hs
     · rename_i hb
       obtain ⟨hsl,rfl,rfl,hm⟩:=hb
       cases hs
       obtain ⟨rfl,j,z',hj,hz',hjs,_⟩:=shOf_slice (hsh'.symm.trans hsh)
       have hrb:=RdT.bare (show RdT M w τ _ c from sx)
       have sm:=hI.opd m
       rw [hmx m rfl] at sm
       obtain ⟨km,em⟩:=natA_ok sm hm
       obtain ⟨ad,len,cap,ex⟩:=hrb.slice_val hsl
       have hhv:=bh 0
       have hlv:∀(lv:Option Value),(match lv with | none=>0=0 | some v=>∃ k,v=.int k (0:Nat))→∀ hv:Value,(∃ k,hv=.int k (0:Nat))→
        (Instr.sliceBounds true len cap lv (some hv) (some (.int km (0:Nat)))).run P w=.ok (0,0,0) w:=fun lv h1 hv ⟨k2,h2⟩=>by
        unfold Instr.sliceBounds
        cases lv with
        | none=>subst h2;simp [run_bound0]
        | some v=>obtain ⟨k3,h3⟩:=h1;subst h2;subst h3;simp [run_bound0]
       cases hi with
       | none=>simp at hhb
       | some hy=>
        have hres:=hlv (lo.map a.eval) bl (a.eval hy) hhv
        have hmv:a.eval m=.int km (0:Nat):=em
        refine ⟨.slice ad 0 0,?_,RdC.zc,fun t ht=>ht.elim⟩
        simp only [execOp,ho,ex,Instr.sliceAt,Option.map_some,hmv,Sem.run_bind,run_underlying' hd,Result.andThen_ok,Instr.slice,hres,run_sizeOf' hj]
        simp
     · cases hs
   · cases hs
def osliceA (σ:List AV) (ti:TI) (x:Operand) (lo hi:Option Operand):Option (List Nat×AV):=
 match boundA σ 0 lo,(match hi with | none=>some none | some h=>(natA (opd σ h)).map some) with
 | some l,some h=>match ti.sh,x with
  | .slice _ es _ _,.tmp t=>match gt σ t with
   | .arr _ c _=>if es=c.esz∧l≤h.getD c.cnt∧h.getD c.cnt≤c.cnt then some (t::(orrO lo++orrO hi),.awn t es l (h.getD c.cnt-l)) else none
   | .asl s=>match gt σ s with
    | .arr _ c _=>if es=c.esz∧l≤h.getD c.cnt∧h.getD c.cnt≤c.cnt then some (t::s::(orrO lo++orrO hi),.awn s es l (h.getD c.cnt-l)) else none
    | _=>none
   | .awn s m lo' n=>if es=m∧l≤h.getD n∧h.getD n≤n then some (t::(orrO lo++orrO hi),.awn s m (lo'+l) (h.getD n-l)) else none
   | _=>none
  | _,_=>none
 | _,_=>none
theorem sound_oslice {σ:List AV} {o:Oper} {T:TypeId} {x:Operand} {lo hi:Option Operand} (ho:o.op=.slice T x lo hi none) {ti:TI} (hti:mkTI P T=some ti) {rd:List Nat} {av:AV}
 (hs:osliceA σ ti x lo hi=some (rd,av)) {r:List Nat×List (Nat×AV)} (h:val σ o rd av=some r):AStep P o σ r.1 [] r.2:=by
 obtain ⟨d,hdst,hn,rfl⟩:=val_spec h
 have hok:=mkTI_ok hti
 obtain ⟨ds,i,z,hd,hi',hz,_,_,_,_,_,hsh'⟩:=hok.ex
 unfold osliceA at hs
 split at hs
 case h_2=>cases hs
 rename_i l hh hl hhb
 split at hs
 case h_2=>cases hs
 rename_i e es eb ik t hsh
 obtain ⟨rfl,j,z',hj,hz',hjs,_⟩:=shOf_slice (hsh'.symm.trans hsh)
 have hrd:(∀ u∈orrO lo,u∈rd)∧(∀ u∈orrO hi,u∈rd)∧t∈rd∧av.holder=false∧(∀ u,¬av.hasTok u):=by
  repeat' split at hs
  all_goals first
   | (cases hs;exact ⟨fun u hu=>by simp [hu],fun u hu=>by simp [hu],by simp,rfl,fun u h=>h⟩)
   | cases hs
 refine AStep.val hdst (by simp) hn hrd.2.2.2.1 (fun E τ M σ' a w hag hI=>?_)
 have bnd:∀(u:Option Operand) (dflt n:Nat),(∀ y,u=some y→opd σ' y=opd σ y)→boundA σ dflt u=some n→match u.map a.eval with | none=>n=dflt | some v=>∃ k,v=.int k n:=fun u dflt n hu hb=>by
  cases u with
  | none=>simp [boundA] at hb;exact hb.symm
  | some y=>
   have sy:=hI.opd y
   rw [hu y rfl] at sy
   exact natA_ok sy hb
 have hlo:∀ y,lo=some y→opd σ' y=opd σ y:=fun y e=>hag.opd (fun t ht=>by subst e;exact List.mem_cons_of_mem _ (hrd.1 t (by simpa [orrO] using ht)))
 have hhi:∀ y,hi=some y→opd σ' y=opd σ y:=fun y e=>hag.opd (fun t ht=>by subst e;exact List.mem_cons_of_mem _ (hrd.2.1 t (by simpa [orrO] using ht)))
 have bl:=bnd lo 0 l hlo hl
 have bh:∀ len:Nat,match hi.map a.eval with | none=>hh.getD len=len | some v=>∃ k,v=.int k (hh.getD len):=fun len=>by
  cases hi with
  | none=>simp at hhb;subst hhb;rfl
  | some y=>
   simp only [Option.map_eq_some_iff] at hhb
   obtain ⟨n,hn,rfl⟩:=hhb
   have sy:=hI.opd y
   rw [hhi y rfl] at sy
   exact natA_ok sy hn
 have hgt:gt σ' t=gt σ t:=hag.2 t (List.mem_cons_of_mem _ hrd.2.2.1)
 have fin:∀(ad:Option Addr) (len cap:Nat),a.tmps.getD t Go.undef=.slice ad len cap→l≤hh.getD len→hh.getD len≤len→len≤cap→
  SlotOk M w τ a.tmps (.slice (if cap=l then ad else ad.map (·.add (l*es))) (hh.getD len-l) (cap-l)) av→
  (∀(s:Nat) (b:Bool),av.rf=some (s,b)→∃ hv:AV,σ'[s]? = some hv∧hv.fits b=true)→
  ∃ v w',(execOp a.eval o).run P w=.ok (.value v) w'∧Below w.heap.size w w'∧SlotOk M w' τ a.tmps v av∧(∀ t,av.hasTok t→live σ' t)∧
   (∀(s:Nat) (b:Bool),av.rf=some (s,b)→∃ hv:AV,σ'[s]? = some hv∧hv.fits b=true):=fun ad len cap ex h1 h2 h3 hsl hrf=>by
  refine ⟨_,w,?_,below_self w,hsl,fun u hu=>absurd hu (hrd.2.2.2.2 u),hrf⟩
  have hrbs:=run_bounds (P:=P) (isS:=true) (len:=len) (cap:=cap) bl (bh len) h1 (by omega) w
  have ex':a.eval (.tmp t)=.slice ad len cap:=ex
  simp [execOp,ho,ex',Instr.sliceAt,run_underlying' hd,Instr.slice,hrbs,run_sizeOf' hj,hjs]
 split at hs
 · rename_i pre c post hg
   split at hs
   · rename_i hc
     cases hs
     obtain ⟨rfl,h1,h2⟩:=hc
     have hss:=hI.gt t
     rw [hgt,hg] at hss
     obtain ⟨b,Tb,vs,q,cap,e1,hb,_,_,_,hcap,_⟩:=hss
     refine fin _ _ _ e1 h1 h2 hcap ⟨_,_,rfl,fun hne=>?_,by omega,by rw [e1];simp only [capV];omega⟩ (fun s' b' hr=>?_)
     · by_cases hcl:cap=l
       · have:l=0:=by omega
         subst this;subst hcl
         rw [if_pos rfl,e1];simp [blk,offV]
       · rw [if_neg hcl,e1];simp [blk,offV,addr_add]
     · simp only [AV.rf,Option.some.injEq,Prod.mk.injEq] at hr
       obtain ⟨rfl,rfl⟩:=hr
       exact ⟨_,gt_some (hgt.trans hg) (by simp),rfl⟩
   · cases hs
 · rename_i s hg
   split at hs
   · rename_i pre c post hg2
     split at hs
     · rename_i hc
       cases hs
       obtain ⟨rfl,h1,h2⟩:=hc
       have hs1:=hI.gt t
       rw [hgt,hg] at hs1
       have hs1:a.tmps.getD t Go.undef=a.tmps.getD s Go.undef:=hs1
       have hss:=hI.gt s
       have hgs:gt σ' s=.arr pre c post:=by rw [hag.2 s (by simp)];exact hg2
       rw [hgs] at hss
       obtain ⟨b,Tb,vs,q,cap,e1,hb,_,_,_,hcap,_⟩:=hss
       refine fin _ _ _ (hs1.trans e1) h1 h2 hcap ⟨_,_,rfl,fun hne=>?_,by omega,by rw [e1];simp only [capV];omega⟩ (fun s' b' hr=>?_)
       · by_cases hcl:cap=l
         · have:l=0:=by omega
           subst this;subst hcl
           rw [if_pos rfl,e1];simp [blk,offV]
         · rw [if_neg hcl,e1];simp [blk,offV,addr_add]
       · simp only [AV.rf,Option.some.injEq,Prod.mk.injEq] at hr
         obtain ⟨rfl,rfl⟩:=hr
         exact ⟨_,gt_some hgs (by simp),rfl⟩
     · cases hs
   · cases hs
 · rename_i s m lo' n hg
   split at hs
   · rename_i hc
     cases hs
     obtain ⟨rfl,h1,h2⟩:=hc
     have hs1:=hI.gt t
     rw [hgt,hg] at hs1
     obtain ⟨ad,cap,e1,had,hcap,hcap'⟩:=hs1
     refine fin _ _ _ e1 h1 h2 hcap ⟨_,_,rfl,fun hne=>?_,by omega,by omega⟩ (fun s' b' hr=>hI.refs t _ s' b' (gt_some (hgt.trans hg) (by simp)) (by simpa [AV.rf] using hr))
     by_cases hcl:cap=l
     · have:l=0:=by omega
       subst this;subst hcl
       rw [if_pos rfl,had (.inr (by omega))];simp
     · rw [if_neg hcl,had (.inl (by omega))]
       simp only [Option.map_some,addr_add,Option.some.injEq,Addr.mk.injEq,and_true,true_and]
       rw [Nat.add_mul,Nat.add_assoc]
   · cases hs
 · cases hs
def makeA (σ:List AV) (ti te:TI) (x y:Operand):Option AV:=
 match ti.sh,opd σ x,opd σ y with
 | .slice _ es eb ik,.one (.raw (.int _ n)),.one (.raw (.int _ m))=>
  if 0≤n∧n≤m∧(eb:Int)*m≤281474976710656∧m≤9223372036854775807 then match ik with
   | some k=>match te.zc with
    | [.raw (.int k' z)]=>if es=1∧k=k'∧z=0 then some (.arr [] (.ints k (List.replicate n.toNat 0)) none) else none
    | _=>none
   | none=>some (.arr [] (.sl es (List.replicate n.toNat te.zc)) none)
  else none
 | _,_,_=>none
theorem madeCells_toList (z:Array Value) (n:Nat):(madeCells z (n*z.size)).toList=(List.replicate n z.toList).flatten:=by
 induction n with
 | zero=>simp [madeCells]
 | succ n ih=>
  rw [List.replicate_succ',List.flatten_append,←ih]
  simp only [madeCells,List.flatten_cons,List.flatten_nil,List.append_nil,Nat.succ_mul]
  apply List.ext_getElem
  · simp
  · intro i h1 h2
    simp only [Array.toList_map,Array.toList_range,List.getElem_map,List.getElem_range]
    by_cases hi:i<n*z.size
    · rw [List.getElem_append_left (by simpa using hi)]
      simp
    · rw [List.getElem_append_right (by simpa using hi)]
      simp only [List.length_map,List.length_range,Array.getElem_toList]
      have hlt:i-n*z.size<z.size:=by simp at h1;omega
      have:i % z.size=i-n*z.size:=by
       rw [show i=(i-n*z.size)+z.size*n by rw [Nat.mul_comm z.size n];omega,Nat.add_mul_mod_self_left,Nat.mod_eq_of_lt hlt]
       rw [Nat.mul_comm z.size n];omega
      rw [this]
      rw [getElem!_pos z _ hlt]
theorem RdD.flatRep {M:Nat→Nat→Prop} {w:World} {vs:List Value} {cs:List Cell} (h:RdD M w vs cs):∀ n:Nat,RdD M w (List.replicate n vs).flatten (List.replicate n cs).flatten
 | 0=>trivial
 | n+1=>by rw [List.replicate_succ,List.replicate_succ,List.flatten_cons,List.flatten_cons];exact h.append (h.flatRep n)
theorem zcell_okD {M:Nat→Nat→Prop} {w:World}:∀{l:List Value},(∀ v∈l,v.oneCell'=true)→RdD M w l (l.map zcell)
 | [],_=>trivial
 | v::l,h=>⟨zcell_ok (h v (by simp)),zcell_okD (fun u hu=>h u (by simp [hu]))⟩
theorem sound_make {σ:List AV} {o:Oper} {T:TypeId} {x y:Operand} (ho:o.op=.makeSlice T x y) {ti te:TI} (hti:mkTI P T=some ti) (hte:∀ e es eb ik,ti.sh=.slice e es eb ik→mkTI P e=some te) {av:AV} (hb:makeA σ ti te x y=some av)
 {r:List Nat×List (Nat×AV)} (h:val σ o (orr x++orr y) av=some r):AStep P o σ r.1 [] r.2:=by
 obtain ⟨d,hdst,hn,rfl⟩:=val_spec h
 have hok:=mkTI_ok hti
 unfold makeA at hb
 split at hb
 case h_2=>cases hb
 rename_i e es eb ik kx n ky m hsh hx hy
 split at hb
 case isFalse=>cases hb
 rename_i hc
 obtain ⟨h0,hnm,hby,h63⟩:=hc
 obtain ⟨ds,i,z,hd,hi,hz,_,_,_,_,_,hsh'⟩:=hok.ex
 obtain ⟨rfl,j,z',hj,hz',hjs,hjb,hes0,hzs,hik⟩:=shOf_slice (hsh'.symm.trans hsh)
 obtain ⟨de,je,ze,hde,hje,hze,_,_,_,hone,hzce,_⟩:=(mkTI_ok (hte _ _ _ _ hsh)).ex
 rw [hj] at hje;cases hje
 rw [hz'] at hze;cases hze
 have key:∀ c:Cell,c.uni→c.cnt=n.toNat→c.esz=es→c.flat=(List.replicate n.toNat (z'.cells.toList.map zcell)).flatten→AStep P o σ (d::(orr x++orr y)) [] [(d,.arr [] c none)]:=fun c hu hcnt hesz hflat=>by
  refine AStep.new hdst (by simp) hn rfl rfl (fun E τ M σ' a w hag hI=>?_)
  have sx:=hI.opd x
  have sy:=hI.opd y
  rw [hag.opd (fun t ht=>by simp [ht]),hx] at sx
  rw [hag.opd (fun t ht=>by simp [ht]),hy] at sy
  have ex:a.eval x=.int kx n:=RdC.raw_inv sx
  have ey:a.eval y=.int ky m:=RdC.raw_inv sy
  have hrun:=run_make (P:=P) w T e j z' hd hj hz' kx ky n m h0 hnm (by rw [hjb];exact hby) h63
  refine ⟨.slice (some ⟨w.heap.size,0,none⟩) n.toNat m.toNat,.cells (madeCells z'.cells (m.toNat*j.size)) e,by simp [execOp,ho,ex,ey,hrun],rfl,?_,fun t ht=>ht.elim⟩
  have hcells:madeCells z'.cells (m.toNat*j.size)=([]++((List.replicate n.toNat z'.cells.toList).flatten++(List.replicate (m.toNat-n.toNat) z'.cells.toList).flatten)).toArray:=by
   rw [hjs,←hzs,←Array.toArray_toList (xs:=madeCells _ _),madeCells_toList,List.nil_append,←List.flatten_append,List.replicate_append_replicate]
   congr 3;omega
  refine ⟨w.heap.size,e,(List.replicate n.toNat z'.cells.toList).flatten,(List.replicate (m.toNat-n.toNat) z'.cells.toList).flatten,m.toNat,by rw [hcnt];rfl,by rw [heap_new,hcells],?_,(by intro p hp;cases hp),hu,by rw [hcnt];omega,?_⟩
  · rw [hflat]
    exact (zcell_okD hone).flatRep _
  · rw [hesz,flatten_len (m:=es) _ (fun r hr=>by rw [List.eq_of_mem_replicate hr];simpa using hzs),flatten_len (m:=es) _ (fun r hr=>by rw [List.eq_of_mem_replicate hr];simpa using hzs)]
    simp only [List.length_replicate,←Nat.add_mul]
    exact Nat.mul_le_mul_right _ (by omega)
 split at hb
 · rename_i k _
   split at hb
   · rename_i k' z0 hzc
     split at hb
     · rename_i hc
       obtain ⟨rfl,rfl,rfl⟩:=hc
       cases hb
       refine key _ trivial (by simp [Cell.cnt]) rfl ?_
       rw [←hzce,hzc]
       have:∀(kk:IntKind) (n:Nat),(List.replicate n ([.raw (.int kk 0)]:List Cell)).flatten=List.replicate n (.raw (.int kk 0)):=fun kk n=>by
        induction n with
        | zero=>rfl
        | succ n ih=>rw [List.replicate_succ,List.flatten_cons,ih];rfl
       rw [this]
       simp [Cell.flat]
     · cases hb
   · cases hb
 · cases hb
   refine key _ (fun r hr=>by rw [List.eq_of_mem_replicate hr,hzce];simpa using hzs) (by simp [Cell.cnt]) rfl ?_
   rw [hzce];rfl
end Go.Slot

namespace Go.Slot
open Go Go.RowKit
variable {P:Program}
def fillC (place:Nat→Option (Nat×Nat)) (cs:List Cell):List (Nat×AV)→Option (List Cell)
 | []=>some cs
 | (i,av)::r=>match place i,cellsOfAV av with
  | some (off,size),some us=>if us.length=size∧off+size≤cs.length then fillC place (cs.take off++us++cs.drop (off+size)) r else none
  | _,_=>none
def avParts (σ:List AV):List (Nat×Operand)→List (Nat×AV)
 | []=>[]
 | (i,x)::r=>(i,opd σ x)::avParts σ r
def orrs:List (Nat×Operand)→List Nat
 | []=>[]
 | (_,x)::r=>orr x++orrs r
theorem foldl_set (off:Nat):∀(vs:List Value) (k:Nat) (cells:Array Value),off+k+vs.length≤cells.size→
 ((vs.zipIdx k).foldl (fun (cs:Array Value) (p:Value×Nat)=>cs.setIfInBounds (off+p.2) p.1) cells).toList=cells.toList.take (off+k)++vs++cells.toList.drop (off+k+vs.length)
 | [],k,cells,h=>by simp
 | v::vs,k,cells,h=>by
  simp only [List.zipIdx_cons,List.foldl_cons]
  have hlen:off+k<cells.size:=by simp at h;omega
  rw [foldl_set off vs (k+1) _ (by simp at h ⊢;omega)]
  simp only [Array.toList_setIfInBounds]
  rw [list_set_eq _ _ _ (by simpa using hlen)]
  have h1:off+(k+1)=(cells.toList.take (off+k)++[v]).length:=by simp;omega
  rw [h1,List.take_left]
  have h2:(cells.toList.take (off+k)++[v]).length+vs.length=(cells.toList.take (off+k)++[v]).length+vs.length:=rfl
  rw [List.drop_append]
  simp only [List.drop_drop]
  have h3:(cells.toList.take (off+k)++[v]).drop ((cells.toList.take (off+k)++[v]).length+vs.length)=[]:=by
   apply List.drop_eq_nil_of_le;omega
  rw [h3]
  simp only [List.nil_append,List.append_assoc,List.cons_append,List.length_cons]
  congr 3
  congr 1
  simp
  omega
theorem fill_ok {E:Env} {τ:Nat→TV} {M:Nat→Nat→Prop} {σ:List AV} {a:Act} {w:World} (hI:RelI E τ M σ a w) (place:Nat→Option (Nat×Nat)):∀(ps:List (Nat×Operand)) (cells:Array Value) (cs cs':List Cell),
 RdL M w τ cells.toList cs→fillC place cs (avParts σ ps)=some cs'→∃ cells',Instr.fill place cells (ps.map fun p=>(p.1,a.eval p.2))=some cells'∧RdL M w τ cells'.toList cs'
 | [],cells,cs,cs',hr,h=>by
  simp only [avParts,fillC,Option.some.injEq] at h
  subst h
  exact ⟨cells,rfl,hr⟩
 | (i, x) :: ps, cells, cs, cs', hr, h => by
  simp only [avParts,fillC] at h
  split at h
  · rename_i off size us hp hu
    split at h
    · rename_i hc
      obtain ⟨h1,h2⟩:=hc
      have hv:=cellsOf_ok hu (hI.opd x)
      have hvl:(a.eval x).cells.size=size:=by rw [←h1,←hv.length];simp
      have hcl:cells.size=cs.length:=by rw [←hr.length];simp
      have hfold:((a.eval x).cells.zipIdx.foldl (fun cs (p:Value×Nat)=>cs.setIfInBounds (off+p.2) p.1) cells).toList=cells.toList.take off++(a.eval x).cells.toList++cells.toList.drop (off+size):=by
       have:=foldl_set off (a.eval x).cells.toList 0 cells (by simp [hvl];omega)
       rw [←Array.foldl_toList]
       simpa [hvl] using this
      obtain ⟨cells',hf,hr'⟩:=fill_ok hI place ps ((a.eval x).cells.zipIdx.foldl (fun cs (p:Value×Nat)=>cs.setIfInBounds (off+p.2) p.1) cells) _ cs' (by
       rw [hfold]
       exact ((hr.take off).append hv).append (hr.drop _)) h
      refine ⟨cells',?_,hr'⟩
      simp only [List.map_cons,Instr.fill,hp]
      rw [if_neg]
      · exact hf
      · simp only [hvl,ne_eq,not_true_eq_false,decide_false,Bool.false_or,decide_eq_true_eq]
        omega
    · cases h
  · cases h
theorem fillC_tok {place:Nat→Option (Nat×Nat)} {σ:List AV} {t:Nat}:∀(ps:List (Nat×Operand)) (cs cs':List Cell),fillC place cs (avParts σ ps)=some cs'→hasTokL t cs'→hasTokL t cs∨live σ t
 | [],cs,cs',h,ht=>by
  simp only [avParts,fillC,Option.some.injEq] at h
  subst h;exact .inl ht
 | (i, x) :: ps, cs, cs', h, ht => by
  simp only [avParts,fillC] at h
  split at h
  · rename_i off size us hp hu
    split at h
    · rcases fillC_tok ps _ cs' h ht with h' | h'
      · rcases hasTokL_append h' with h' | h'
        · rcases hasTokL_append h' with h' | h'
          · exact .inl (hasTokL_take h')
          · exact .inr (opd_live (cellsOf_tok hu h'))
        · exact .inl (hasTokL_drop h')
      · exact .inr h'
    · cases h
  · cases h
def placeOf (sh:Sh):Nat→Option (Nat×Nat):=match sh with
 | .struct fs=>fun i=>(fs[i]?).map fun f=>(f.1,f.2.1)
 | .array _ _ es=>fun i=>some (i*es,es)
 | _=>fun _=>none
def buildA (σ:List AV) (ti:TI) (parts:List (Nat×Operand)):Option AV:=
 (fillC (placeOf ti.sh) ti.zc (avParts σ parts)).map .agg
theorem mapM_some {α β:Type} (f:α→Option β) (g:α→β):∀(l:List α),(∀ x∈l,f x=some (g x))→l.mapM f=some (l.map g)
 | [],_=>rfl
 | x::l,h=>by simp [List.mapM_cons,h x (by simp),mapM_some f g l (fun y hy=>h y (by simp [hy]))]
theorem avParts_congr {σ σ':List AV}:∀(ps:List (Nat×Operand)),(∀ x:Operand,(∀ t∈orr x,t∈orrs ps)→opd σ' x=opd σ x)→avParts σ' ps=avParts σ ps
 | [],_=>rfl
 | (i,x)::ps,h=>by
  simp only [avParts]
  rw [h x (fun t ht=>by simp [orrs,ht]),avParts_congr ps (fun y hy=>h y (fun t ht=>by simp [orrs,hy t ht]))]
theorem sound_build {σ:List AV} {o:Oper} {T:TypeId} {parts:List (Nat×Operand)} (ho:o.op=.build T parts.toArray) {ti:TI} (hti:mkTI P T=some ti)
 (harr:∀ n e es,ti.sh=.array n e es→es≠0) {av:AV} (hb:buildA σ ti parts=some av) (hagg:ti.sh.agg=true)
 {r:List Nat×List (Nat×AV)} (h:val σ o (orrs parts) av=some r):AStep P o σ r.1 [] r.2:=by
 have hok:=mkTI_ok hti
 obtain ⟨d,i,z,hd,hi,hz,hsz,_,hzs,hone,hzc,hsh⟩:=hok.ex
 unfold buildA at hb
 simp only [Option.map_eq_some_iff] at hb
 obtain ⟨cs',hf,rfl⟩:=hb
 refine AStep.pure h rfl rfl (fun E τ M σ' a w hop hgt hI=>?_)
 have hav:avParts σ' parts=avParts σ parts:=avParts_congr parts hop
 have hz0:RdL M w τ z.cells.toList ti.zc:=by rw [hzc];exact zcells_ok hone
 obtain ⟨cells',hfill,hrd⟩:=fill_ok hI (placeOf ti.sh) parts z.cells ti.zc cs' hz0 (by rw [hav];exact hf)
 have hbuilt:P.built T (parts.map fun p=>(p.1,a.eval p.2))=some cells':=by
  unfold Program.built
  rw [hi,hd]
  rw [hsh] at hagg
  rcases shOf_agg hagg with ⟨fl,rfl⟩ | ⟨n,e,rfl⟩
  · have hst:∃ fs,ti.sh=.struct fs:=by
     rw [hsh];unfold shOf at hagg ⊢;dsimp only at hagg ⊢
     split at hagg
     · exact ⟨_,by rename_i hc;rw [if_pos hc]⟩
     · cases hagg
    obtain ⟨fs,hfs⟩:=hst
    obtain ⟨fl',e1,rfl,hne⟩:=shOf_struct (hsh.symm.trans hfs)
    cases e1
    have hpl:fl.toList.mapM (fun f=>(P.info? f.type).map fun i=>(f.offset,i.size))=some (fl.toList.map fun f=>(f.offset,P.cellsOf f.type)):=
     mapM_some _ _ _ (fun f hf=>by
      obtain ⟨j,hj,hjs⟩:=cellsOf_info (hne f hf)
      simp [hj,hjs])
    simp only [hz,hpl]
    rw [hfs] at hfill
    rw [←hfill]
    congr 1
    funext x
    simp [placeOf]
    rfl
  · have har:ti.sh=.array n e (P.cellsOf e):=hsh
    obtain ⟨j,hj,hjs⟩:=cellsOf_info (harr _ _ _ har)
    simp only [hz,hj]
    rw [har] at hfill
    rw [←hfill,hjs]
    rfl
 refine ⟨.agg cells',?_,⟨cells'.toList,by simp,hrd⟩,fun t ht=>?_⟩
 · have hrun:=run_build (P:=P) w T (parts.map fun p=>(p.1,a.eval p.2)).toArray cells' (by simpa using hbuilt)
   simp only [execOp,ho]
   have he:(parts.toArray.map fun (p:Nat×Operand)=>(p.1,a.eval p.2))=(parts.map fun p=>(p.1,a.eval p.2)).toArray:=by simp
   have:(Array.map (fun x=>match x with | (i,x)=>(i,a.eval x)) parts.toArray)=(parts.map fun p=>(p.1,a.eval p.2)).toArray:=by rw [←he]
   rw [this]
   simp [hrun]
 · rcases fillC_tok (σ:=σ') parts ti.zc cs' (by rw [hav];exact hf) ht with h' | h'
   · rw [hzc] at h';exact absurd h' (zcells_noTok _)
   · exact h'
def intsOf (k:IntKind):List Cell→Option (List Int)
 | []=>some []
 | .raw (.int k' n)::r=>if k'=k then (intsOf k r).map (n::·) else none
 | _::_=>none
def chunk (es:Nat):Nat→List Cell→List (List Cell)
 | 0,_=>[]
 | n+1,cs=>cs.take es::chunk es n (cs.drop es)
def repeatL {α:Type} (l:List α):Nat→List α
 | 0=>[]
 | n+1=>l++repeatL l n
def buildSliceA (σ:List AV) (ti te:TI) (n:Nat) (parts:List (Nat×Operand)):Option AV:=
 match ti.sh with
 | .slice _ es _ ik=>
  if n*es≤16777216∧n≠0 then
   match fillC (fun i=>some (i*es,es)) (repeatL te.zc n) (avParts σ parts) with
   | none=>none
   | some cs=>match ik with
    | some k=>if es=1 then (intsOf k (bareL cs)).map fun l=>.one (.ints k l) else none
    | none=>some (.one (.sl es (chunk es n (bareL cs))))
  else none
 | _=>none
theorem repeatL_ok {M:Nat→Nat→Prop} {w:World} {τ:Nat→TV} {vs:List Value} {cs:List Cell} (h:RdL M w τ vs cs):∀ n,RdL M w τ (repeatL vs n) (repeatL cs n)
 | 0=>trivial
 | n+1=>h.append (repeatL_ok h n)
theorem repeatL_length {α:Type} (l:List α):∀ n,(repeatL l n).length=n*l.length
 | 0=>by simp [repeatL]
 | n+1=>by simp [repeatL,repeatL_length l n,Nat.add_mul];omega
theorem repeatL_get {α:Type} (l:List α):∀(n i:Nat),i<n*l.length→(repeatL l n)[i]? = l[i % l.length]?
 | 0,i,h=>by simp at h
 | n+1,i,h=>by
  simp only [repeatL]
  by_cases hi:i<l.length
  · rw [List.getElem?_append_left hi,Nat.mod_eq_of_lt hi]
  · rw [List.getElem?_append_right (by omega),repeatL_get l n (i-l.length) (by rw [Nat.add_mul] at h;omega)]
    congr 1
    rw [←Nat.mod_eq_sub_mod (by omega)]
theorem intsOf_ok {M:Nat→Nat→Prop} {w:World} {k:IntKind}:∀{vs:List Value} {cs:List Cell} {l:List Int},RdD M w vs cs→intsOf k cs=some l→vs=l.map (Value.int k)
 | [],[],l,_,h=>by simp [intsOf] at h;simp [h]
 | v::vs,c::cs,l,hr,h=>by
  unfold intsOf at h
  split at h
  · rename_i heq;cases heq
  · rename_i k' n r heq
    simp only [List.cons.injEq] at heq
    obtain ⟨rfl,rfl⟩:=heq
    split at h
    · rename_i hk
      subst hk
      simp only [Option.map_eq_some_iff] at h
      obtain ⟨l',h1,rfl⟩:=h
      rw [RdC.raw_inv hr.1,intsOf_ok hr.2 h1];rfl
    · cases h
  · cases h
theorem chunk_length (es:Nat):∀(n:Nat) (cs:List Cell),(chunk es n cs).length=n
 | 0,_=>rfl
 | n+1,cs=>by simp [chunk,chunk_length es n]
theorem chunk_get (es:Nat):∀(n:Nat) (cs:List Cell) (i:Nat) (h:i<(chunk es n cs).length),(chunk es n cs)[i]=(cs.drop (i*es)).take es
 | 0,cs,i,h=>by simp [chunk] at h
 | n+1,cs,0,h=>by simp [chunk]
 | n+1,cs,i+1,h=>by
  simp only [chunk,List.getElem_cons_succ]
  rw [chunk_get es n]
  rw [List.drop_drop,Nat.add_mul,Nat.one_mul,Nat.add_comm]
theorem rows_ok {M M':Nat→Nat→Prop} {w w':World} {b cap len:Nat} {T:TypeId} {vs:List Value} {cs:List Cell} {es n:Nat} (hr:RdD M w vs cs) (hk:Keeps M M' w w') (hb:w'.heap[b]? = some (.cells vs.toArray T (0,0)))
 (hM:∀ o,¬M' b o) (hlen:cs.length=n*es) (hn:len=n) (hcap:len≤cap):RdC M' w' (.slice (some ⟨b,0,none⟩) len cap) (.sl es (chunk es n cs)):=by
 have hvl:vs.length=n*es:=by rw [hr.length,hlen]
 have hin:∀ i,i<n→∀ j,j<es→i*es+j<n*es:=fun i hi j hj=>by
  calc i*es+j<i*es+es:=by omega
   _=(i+1)*es:=by rw [Nat.add_mul,Nat.one_mul]
   _≤n*es:=Nat.mul_le_mul_right _ hi
 refine .sl b 0 (fun i j=>vs.getD (i*es+j) Go.undef) (by rw [chunk_length,hn]) hcap (fun _=>rfl) (fun r hr'=>?_) (fun i hi j hj=>?_) (fun i hi j hj=>?_)
 · obtain ⟨i,hi,rfl⟩:=List.getElem_of_mem hr'
   rw [chunk_get]
   rw [chunk_length] at hi
   simp only [List.length_take,List.length_drop,hlen]
   have h1:(i+1)*es≤n*es:=Nat.mul_le_mul_right _ hi
   rw [Nat.add_mul,Nat.one_mul] at h1
   omega
 · rw [chunk_length] at hi
   have:=hin i hi j hj
   refine ⟨hM _,?_⟩
   simp only [World.cell?,hb,Nat.zero_add]
   simp [hvl,this]
 · have hi':=hi
   rw [chunk_length] at hi'
   simp only [chunk_get] at hj ⊢
   simp only [List.length_take,List.length_drop,hlen] at hj
   have hlt:=hin i hi' j (by omega)
   have gen:∀(vs:List Value) (cs:List Cell),RdD M w vs cs→∀ q (hq:q<cs.length),RdC M w (vs.getD q Go.undef) cs[q]:=by
    intro vs
    induction vs with
    | nil=>intro cs h q hq;cases cs with
     | nil=>simp at hq
     | cons _ _=>exact h.elim
    | cons v vs ih=>intro cs h q hq;cases cs with
     | nil=>exact h.elim
     | cons c cs=>cases q with
      | zero=>exact h.1
      | succ q=>simpa using ih cs h.2 q (by simpa using hq)
   have:=(gen vs cs hr (i*es+j) (by omega)).keep hk
   simpa using this
theorem bareL_length:∀ cs:List Cell,(bareL cs).length=cs.length
 | []=>rfl
 | c::cs=>by simp [bareL,bareL_length cs]
theorem fillC_length {place : Nat → Option (Nat × Nat)} : ∀ (ps : List (Nat × AV)) (cs cs' : List Cell), fillC place cs ps = some cs' → cs'.length = cs.length
 | [],cs,cs',h=>by simp only [fillC,Option.some.injEq] at h;rw [h]
 | (i, av) :: ps, cs, cs', h => by
  simp only [fillC] at h
  split at h
  · rename_i off size us hp hu
    split at h
    · rename_i hc
      rw [fillC_length ps _ _ h]
      simp
      omega
    · cases h
  · cases h
theorem sound_buildSlice {σ:List AV} {o:Oper} {T:TypeId} {n:Nat} {parts:List (Nat×Operand)} (ho:o.op=.buildSlice T n parts.toArray) {ti te:TI} (hti:mkTI P T=some ti)
 (hte:∀ e es eb ik,ti.sh=.slice e es eb ik→mkTI P e=some te) {av:AV} (hb:buildSliceA σ ti te n parts=some av)
 {r:List Nat×List (Nat×AV)} (h:val σ o (orrs parts) av=some r):AStep P o σ r.1 [] r.2:=by
 obtain ⟨d,hdst,hn,rfl⟩:=val_spec h
 have hok:=mkTI_ok hti
 obtain ⟨ds,i,z,hd,hi,hz,_,_,_,_,_,hsh'⟩:=hok.ex
 unfold buildSliceA at hb
 split at hb
 case h_2=>cases hb
 rename_i e es eb ik hsh
 split at hb
 case isFalse=>cases hb
 rename_i hsmall
 split at hb
 · cases hb
 rename_i cs hfill
 obtain ⟨rfl,j,z',hj,hz',hjs,hjb,hes0,hzs,hik⟩:=shOf_slice (hsh'.symm.trans hsh)
 obtain ⟨de,je,ze,hde,hje,hze,_,_,_,hone,hzce,_⟩:=(mkTI_ok (hte _ _ _ _ hsh)).ex
 rw [hj] at hje;cases hje
 rw [hz'] at hze;cases hze
 have hnh:av.holder=false∧av.rf=none∧∀ t,¬av.hasTok t:=by
  repeat' split at hb
  all_goals first
   | (simp only [Option.map_eq_some_iff] at hb;obtain ⟨_,_,rfl⟩:=hb;exact ⟨rfl,rfl,fun t h=>h⟩)
   | (cases hb;exact ⟨rfl,rfl,fun t h=>h⟩)
   | cases hb
 refine AStep.val hdst (by simp) hn hnh.1 (fun E τ M σ' a w hag hI=>?_)
 have hav:avParts σ' parts=avParts σ parts:=avParts_congr parts (fun x hx=>hag.opd (fun t ht=>by simp [hx t ht]))
 have hz0:RdL M w τ (repeatL z'.cells.toList n) (repeatL te.zc n):=repeatL_ok (by rw [hzce];exact zcells_ok hone) n
 have hinit:(Array.range (n*es)).map (z'.cells[· % z'.cells.size]!)=(repeatL z'.cells.toList n).toArray:=by
  apply Array.ext
  · simp [repeatL_length,hzs]
  · intro q h1 h2
    simp only [Array.size_map,Array.size_range] at h1
    have hq:=repeatL_get z'.cells.toList n q (by simpa [hzs] using h1)
    have hlt:q % z'.cells.size<z'.cells.size:=Nat.mod_lt _ (by rw [hzs];omega)
    simp only [Array.getElem_map,Array.getElem_range,List.getElem_toArray]
    simp only [Array.length_toList,Array.getElem?_toList] at hq
    rw [Array.getElem?_eq_getElem hlt,List.getElem?_eq_getElem (by simpa using h2)] at hq
    simp at hq
    rw [hq]
    simp [hlt]
 obtain ⟨cells',hf,hrd⟩:=fill_ok hI (fun i=>some (i*es,es)) parts (repeatL z'.cells.toList n).toArray _ cs (by simpa using hz0) (by rw [hav];exact hfill)
 have hrun:(execOp a.eval o).run P w=.ok (.value (.slice (some ⟨w.heap.size,0,none⟩) n n)) (w.alloc (.cells cells' e)):=by
  have hpe:(Array.map (fun x=>match x with | (i,x)=>(i,a.eval x)) parts.toArray).toList=parts.map fun p=>(p.1,a.eval p.2):=by simp
  have h24:¬(16777216<n*es):=by omega
  have hne:¬(n*es=0):=by
   intro h0
   rcases Nat.mul_eq_zero.1 h0 with h0 | h0
   · exact hsmall.2 h0
   · exact hes0 h0
  simp only [execOp,ho,Instr.buildSlice,Sem.run_bind,run_underlying' hd,Result.andThen_ok,run_sizeOf' hj,hjs]
  rw [if_neg (by simpa using h24),if_neg hne]
  simp only [Sem.run_bind,run_zeroValue' hj hz',Result.andThen_ok,Sem.run_pure,hinit]
  rw [hpe,hf]
  simp [newRow]
 have hk:Keeps M M w (w.alloc (.cells cells' e)):=Keeps.below ((Below.refl _ _).alloc (Nat.le_refl _) _)
 have hM:∀ o,¬M w.heap.size o:=fun o hm=>by have:=hI.mb _ _ hm;omega
 have hheap:(w.alloc (.cells cells' e)).heap[w.heap.size]? = some (.cells cells'.toList.toArray e (0,0)):=by rw [Array.toArray_toList];exact heap_new w _
 have hcl:(bareL cs).length=n*es:=by
  rw [bareL_length,fillC_length _ _ _ hfill,repeatL_length,hzce]
  simp [hzs]
 refine ⟨_,_,hrun,(Below.refl _ _).alloc (Nat.le_refl _) _,?_,fun t ht=>absurd ht (hnh.2.2 t),fun s b hr=>by rw [hnh.2.1] at hr;cases hr⟩
 split at hb
 · rename_i k
   split at hb
   · rename_i he1
     subst he1
     simp only [Option.map_eq_some_iff] at hb
     obtain ⟨l,hl,rfl⟩:=hb
     have hvs:=intsOf_ok hrd.bare hl
     have hll:l.length=n:=by
      have h1:=congrArg List.length hvs
      have h2:=hrd.bare.length
      simp only [List.length_map] at h1
      omega
     refine RdC.ints w.heap.size 0 hll.symm (Nat.le_refl _) (fun _=>rfl) (fun q hq=>⟨hM _,?_⟩)
     rw [hvs] at hheap
     simp only [World.cell?,hheap,Nat.zero_add]
     simp [hq]
   · cases hb
 · cases hb
   exact rows_ok (n:=n) hrd.bare hk hheap hM hcl rfl (Nat.le_refl _)
def emptyA (ti:TI) (parts:List (Nat×Operand)):Option AV:=match ti.sh,parts with
 | .slice _ _ _ _,[]=>some (.one .zc)
 | _,_=>none
theorem sound_empty {σ:List AV} {o:Oper} {T:TypeId} {n:Nat} {parts:List (Nat×Operand)} (ho:o.op=.buildSlice T n parts.toArray) (hn0:n=0) {ti:TI} (hti:mkTI P T=some ti) {av:AV} (hb:emptyA ti parts=some av)
 {r:List Nat×List (Nat×AV)} (h:val σ o [] av=some r):AStep P o σ r.1 [] r.2:=by
 obtain ⟨d,hdst,hn,rfl⟩:=val_spec h
 obtain ⟨ds,i,z,hd,hi,hz,_,_,_,_,_,hsh'⟩:=(mkTI_ok hti).ex
 unfold emptyA at hb
 split at hb
 case h_2=>cases hb
 rename_i e es eb ik hsh
 cases hb
 obtain ⟨rfl,j,z',hj,hz',hjs,hjb,hes0,hzs,hik⟩:=shOf_slice (hsh'.symm.trans hsh)
 refine AStep.val hdst (by simp) hn rfl (fun E τ M σ' a w hag hI=>?_)
 have hrun:(execOp a.eval o).run P w=.ok (.value (.slice (some ⟨w.heap.size,0,none⟩) 0 0)) (w.alloc (.cells #[] e)):=by
  simp [execOp,ho,Instr.buildSlice,run_underlying' hd,run_sizeOf' hj,hn0,Instr.fill,newRow]
  congr 2
  exact Array.ext (by simp) (fun q h1 h2=>absurd h2 (Nat.not_lt_zero q))
 exact ⟨_,_,hrun,(Below.refl _ _).alloc (Nat.le_refl _) _,RdC.zc,fun t ht=>ht.elim,fun s b hr=>by cases hr⟩
end Go.Slot
