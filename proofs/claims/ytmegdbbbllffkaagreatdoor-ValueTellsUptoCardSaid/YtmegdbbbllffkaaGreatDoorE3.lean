/- The proof, part E3: Mf, Mg. -/
import Derived.Test.YtmegdbbbllffkaaGreatDoorE2
namespace Go.Slot
open Go Go.RowKit
variable {P:Program}
variable {M:Nat->Nat->Prop} {w:World} {v y:Value} {c:Cell} {e es eb:Nat} {ik:Option IntKind} {T:TypeId} {ti:TI} {I:List AV} {o:Oper} {x:Operand} {rd:List Nat} {av:AV} {r:List Nat×List (Nat×AV)}
def elemAt:Cell->Nat->Option (Nat×List Cell)
 | .ints k l,i=>if i<l.length then some (1,[.raw (.int k (l.getD i 0))]) else none
 | .sl n rows,i=>if i<rows.length then some (n,rows.getD i []) else none
 | .tok _ (.ints k l),i=>if i<l.length then some (1,[.raw (.int k (l.getD i 0))]) else none
 | .tok _ (.sl n rows),i=>if i<rows.length then some (n,rows.getD i []) else none
 | _,_=>none
def veh (I:List AV) (ti:TI) (x y:Operand):Option (List Nat×AV):=
 match opd I y with
 | .one (.raw (.int _ n)) =>
  if 0<=n then
   match ti.sh with
   | .slice _ es _ _=>match opd I x with
    | .one c=>match elemAt c n.toNat with
     | some (m,cs)=>if m=es then some (orr x++orr y,.elt cs) else none
     | none=>none
    | .arr _ c _=>match x with
     | .tmp t=>if es=c.esz/\n.toNat<c.cnt then some (orr x++orr y,.pel t es n.toNat 0) else none
     | _=>none
    | .asl s=>match gt I s with
     | .arr _ c _=>if es=c.esz/\n.toNat<c.cnt then some (s::(orr x++orr y),.pel s es n.toNat 0) else none
     | _=>none
    | .awn s m lo k=>if es=m/\n.toNat<k then some (orr x++orr y,.pel s es (lo+n.toNat) 0) else none
    | _=>none
   | .array m _ es=>match opd I x with
    | .box _=>match x with
     | .tmp t=>if n.toNat<m/\es≠0 then some (orr x++orr y,.ptr t (n.toNat*es)) else none
     | _=>none
    | .obx _=>match x with
     | .tmp t=>if n.toNat<m/\es≠0 then some (orr x++orr y,.ptr t (n.toNat*es)) else none
     | _=>none
    | .ptr s o=>if n.toNat<m/\es≠0 then some (orr x++orr y,.ptr s (o+n.toNat*es)) else none
    | .pel s m' i f=>if n.toNat<m/\es≠0 then some (orr x++orr y,.pel s m' i (f+n.toNat*es)) else none
    | .elt cs=>if n.toNat<m/\es≠0 then some (orr x++orr y,.elt (cs.drop (n.toNat*es))) else none
    | _=>none
   | _=>none
  else none
 | _=>none
def vfk (M:Nat->Nat->Prop) (w:World) (v:Value) (i m:Nat) (cs:List Cell):Prop:=
 ∃(b off len cap:Nat) (vs:List Value),v=.slice (some ⟨b,off,none⟩) len cap/\i<len/\(∀ j u,vs[j]? = some u->¬M b (off+i*m+j)/\w.cell? ⟨b,off+i*m+j,none⟩=some u)/\RdD M w vs cs
theorem zqb {M : Nat → Nat → Prop} {τ : Nat → TV} (h : RdT M w τ v c) {i m : Nat} {cs : List Cell} (he : elemAt c i = some (m, cs)) :
 vfk M w v i m cs:=by
 have ints:∀ k l,RdC M w v (.ints k l)->(if i<l.length then some (1,[Cell.raw (.int k (l.getD i 0))]) else none)=some (m,cs)->vfk M w v i m cs:=fun k l hr he=>by
  split at he
  . rename_i hi
    cases he
    cases hr with
    | ints b off hl hc ha hcell=>
     have hne:l≠[]:=fun e=>by rw [e] at hi;simp at hi
     rw [ha hne];refine ⟨b,off,_,_,[.int k (l.getD i 0)],rfl,by omega,fun j u hj=>?_,⟨RdC.raw rfl,trivial⟩⟩
     cases j with
     | zero=>
      simp at hj;subst hj
      have:=hcell i hi
      simpa [hi] using this
     | succ j=>simp at hj
  . cases he
 have rows:∀ n rows,RdC M w v (.sl n rows)->(if i<rows.length then some (n,rows.getD i []) else none)=some (m,cs)->vfk M w v i m cs:=fun n rows hr he=>by
  split at he
  . rename_i hi
    cases he
    cases hr with
    | sl b off u hl hc ha hn hm hr=>
     have hne:rows≠[]:=fun e=>by rw [e] at hi;simp at hi
     rw [ha hne];have hrl:rows[i].length=m:=hn _ (List.getElem_mem hi);refine ⟨b,off,_,_,(List.range m).map (u i),rfl,by omega,fun j x hj=>?_,?_⟩
     . simp only [List.getElem?_map] at hj;by_cases hjn:j<m
       . have:=hm i hi j hjn
         simp [hjn] at hj
         rwa [<-hj]
       . simp [hjn] at hj
     . have e:rows.getD i []=rows[i]:=by simp [hi]
       rw [e]
       have gen:∀(cs:List Cell) (f:Nat->Value),(∀ j (hj:j<cs.length),RdC M w (f j) cs[j])->RdD M w ((List.range cs.length).map f) cs:=by
        intro cs
        induction cs with
        | nil=>intro f _;exact trivial
        | cons c cs ih=>
         intro f hf;rw [List.length_cons,List.range_succ_eq_map,List.map_cons,List.map_map];exact ⟨hf 0 (by simp),ih (f∘Nat.succ) (fun j hj=>hf (j+1) (by simpa using hj))⟩
       have:=gen rows[i] (u i) (fun j hj=>hr i hi j hj)
       rwa [hrl] at this
  . cases he
 cases c with
 | ints k l=>exact ints k l h he
 | sl n r=>exact rows n r h he
 | tok d c=>
  cases c with
  | ints k l=>exact ints k l h.2 he
  | sl n r=>exact rows n r h.2 he
  | _=>cases he
 | _=>cases he
theorem wqb {d : TypeDesc} (h : shOf P d = .slice e es eb ik) :
 d=.slice e/\∃ i z,P.info? e=some i/\i.zero=some z/\i.size=es/\i.bytes=eb/\es≠0/\z.cells.size=es/\ik=(match P.underlying e with | some (.int k)=>some k | _=>none):=by
 cases d with
 | slice e' =>
  unfold shOf at h;dsimp only at h;split at h
  . rename_i i hi;split at h
    . rename_i z hz;split at h
      . rename_i hc;simp only [Bool.and_eq_true,bne_iff_ne,beq_iff_eq] at hc
        cases h;exact ⟨rfl,i,z,hi,hz,rfl,rfl,hc.1,hc.2,rfl⟩
      . cases h
    . cases h
  . cases h
 | struct fl=>
  exfalso;revert h;unfold shOf;dsimp only;split<;>simp
 | _=>simp [shOf] at h
theorem w3p {d:TypeDesc} {n:Nat} (h:shOf P d=.array n e es):d=.array n e/\es=P.cellsOf e:=by
 cases d with
 | array n' e'=>simp [shOf] at h;obtain ⟨rfl,rfl,rfl⟩:=h;exact ⟨rfl,rfl⟩
 | slice e=>
  exfalso;revert h;unfold shOf;dsimp only
  split
  . split
    . split<;>simp
    . simp
  . simp
 | struct fl=>
  exfalso;revert h;unfold shOf;dsimp only;split<;>simp
 | _=>simp [shOf] at h
theorem run_indexAt_slice (hti:TIok P T ti) (hs:ti.sh=.slice e es eb ik) (w:World) (b off len cap:Nat) (k:IntKind) (n:Int) (h0:0<=n) (hn:n.toNat<len) :
 (Instr.indexAt T (.slice (some ⟨b,off,none⟩) len cap) (.int k n)).run P w=.ok (.pointer (some ⟨b,off+n.toNat*es,none⟩)) w:=by
 obtain ⟨d,i,z,hd,hi,hz,hsz',hby,hzs,hone,hzc,hsh⟩:=hti.ex;obtain ⟨rfl,j,z',hj,_,hjs,_⟩:=wqb (hsh.symm.trans hs)
 have hlt:n<(len:Int):=by omega
 unfold Instr.indexAt;simp [asIntOf,voj hd,h0,hlt,xvo hj,hjs,v1c]
theorem wkw {y:Operand} (ho:o.op=.indexAddr T x y) (hti:mkTI P T=some ti) (hfa:veh I ti x y=some (rd,av))
 (h:val I o rd av=some r):yh6 P o I r.1 [] r.2:=by
 obtain ⟨d,hdst,hn,rfl⟩:=xj7 h;have hok:=vnz hti
 have hnh:av.vy8=false/\(∀ t,¬av.vjg t)/\(∀ t∈orr x++orr y,t∈rd):=by
  unfold veh at hfa
  repeat' split at hfa
  all_goals first | (cases hfa;exact ⟨rfl,fun t h=>h,fun t h=>by simp at h ⊢;simp [h]⟩) | cases hfa
 refine yh6.val hdst (by simp) hn hnh.1 (fun E τ M I' a w hag hI=>?_);have hox:opd I' x=opd I x:=hag.opd (fun t ht=>List.mem_cons_of_mem _ (hnh.2.2 t (by simp [ht])));have hoy:opd I' y=opd I y:=hag.opd (fun t ht=>List.mem_cons_of_mem _ (hnh.2.2 t (by simp [ht])));have sx:=hI.opd x;have sy:=hI.opd y;rw [hox] at sx;rw [hoy] at sy;unfold veh at hfa;split at hfa
 case h_2=>cases hfa
 rename_i k n hyn;rw [hyn] at sy;have ey:a.eval y=.int k n:=RdC.zb5 sy;split at hfa
 case isFalse=>cases hfa
 rename_i h0;split at hfa
 . rename_i e es eb ik hsh;have fin:∀(b off len cap:Nat),a.eval x=.slice (some ⟨b,off,none⟩) len cap->n.toNat<len->vi6 M w τ a.tmps (.pointer (some ⟨b,off+n.toNat*es,none⟩)) av->
    (∀(s:Nat) (b:Bool),av.rf=some (s,b)->∃ hv:AV,I'[s]? = some hv/\hv.fits b=true)->
    ∃ v w',(execOp a.eval o).run P w=.ok (.value v) w'/\Below w.heap.size w w'/\vi6 M w' τ a.tmps v av/\(∀ t,av.vjg t->live I' t)/\
    (∀(s:Nat) (b:Bool),av.rf=some (s,b)->∃ hv:AV,I'[s]? = some hv/\hv.fits b=true):=fun b off len cap hx hlt hsl hrf=>
    ⟨_,w,by simp [execOp,ho,hx,ey,run_indexAt_slice hok hsh w b off len cap k n h0 hlt],zgs w,hsl,fun t ht=>absurd ht (hnh.2.1 t),hrf⟩
   split at hfa
   . rename_i c hxc;rw [hxc] at sx;split at hfa
     . rename_i m cs hel;split at hfa
       . rename_i hm
         cases hfa;subst hm;obtain ⟨b,off,len,cap,vs,e1,hlt,hcl,hr⟩:=zqb (show RdT M w τ _ c from sx) hel;exact fin b off len cap e1 hlt ⟨b,_,vs,rfl,hcl,hr⟩ (fun s b hr=>by cases hr)
       . cases hfa
     . cases hfa
   . rename_i pre c post hxa;split at hfa
     . rename_i t;split at hfa
       . rename_i hc;obtain ⟨rfl,hlt⟩:=hc
         cases hfa;rw [hxa] at sx;obtain ⟨b,Tb,vs,q,cap,e1,hb,_⟩:=sx;refine fin b pre.length c.cnt cap e1 hlt ?_ (fun s b' hr=>?_)
         . show _=Value.pointer (some ⟨blk (a.eval (.tmp t)),offV (a.eval (.tmp t))+n.toNat*c.esz+0,none⟩);rw [e1];simp [blk,offV]
         . simp only [AV.rf,Option.some.injEq,Prod.mk.injEq] at hr;obtain ⟨rfl,rfl⟩:=hr;exact ⟨_,vxi (hox.trans hxa) (by simp),rfl⟩
       . cases hfa
     . cases hfa
   . rename_i s hxa;split at hfa
     . rename_i pre c post hg0;split at hfa
       . rename_i hc;obtain ⟨rfl,hlt⟩:=hc
         cases hfa
         have hg:gt I' s=.arr pre c post:=by rw [hag.2 s (by simp)];exact hg0
         rw [hxa] at sx;have sx:a.eval x=a.tmps.getD s Go.undef:=sx;have hss:=hI.gt s;rw [hg] at hss;obtain ⟨b,Tb,vs,q,cap,e1,hb,_⟩:=hss;refine fin b pre.length c.cnt cap (sx.trans e1) hlt ?_ (fun s' b' hr=>?_)
         . show _=Value.pointer (some ⟨blk (a.tmps.getD s Go.undef),offV (a.tmps.getD s Go.undef)+n.toNat*c.esz+0,none⟩);rw [e1];simp [blk,offV]
         . simp only [AV.rf,Option.some.injEq,Prod.mk.injEq] at hr;obtain ⟨rfl,rfl⟩:=hr;exact ⟨_,vxi hg (by simp),rfl⟩
       . cases hfa
     . cases hfa
   . rename_i s m lo k' hxa;split at hfa
     . rename_i hc;obtain ⟨rfl,hlt⟩:=hc
       cases hfa;rw [hxa] at sx;obtain ⟨ad,cap,e1,had,hcap,_⟩:=sx;rw [had (.inl (by omega))] at e1;refine fin _ _ _ cap e1 hlt ?_ (fun s' b' hr'=>?_)
       . show _=Value.pointer (some ⟨_,offV (a.tmps.getD s Go.undef)+(lo+n.toNat)*es+0,none⟩);rw [Nat.add_mul,Nat.add_zero,Nat.add_assoc]
       . cases x with
         | tmp t=>exact hI.refs t _ s' b' (vxi (hox.trans hxa) (by simp)) (by simpa [AV.rf] using hr')
         | const v=>
          exfalso;simp only [opd,wx7] at hxa;split at hxa
          . split at hxa<;>cases hxa
          . cases hxa
          . cases hxa
         | func f=>cases hxa
         | global g=>cases hxa
     . cases hfa
   . cases hfa
 . rename_i m e es hsh;have fin:∀(b off:Nat),a.eval x=.pointer (some ⟨b,off,none⟩)->n.toNat<m->es≠0->vi6 M w τ a.tmps (.pointer (some ⟨b,off+n.toNat*es,none⟩)) av->
    (∀(s:Nat) (b:Bool),av.rf=some (s,b)->∃ hv:AV,I'[s]? = some hv/\hv.fits b=true)->
    ∃ v w',(execOp a.eval o).run P w=.ok (.value v) w'/\Below w.heap.size w w'/\vi6 M w' τ a.tmps v av/\(∀ t,av.vjg t->live I' t)/\
    (∀(s:Nat) (b:Bool),av.rf=some (s,b)->∃ hv:AV,I'[s]? = some hv/\hv.fits b=true):=fun b off hx hlt hes0 hsl hrf=>by
    refine ⟨_,w,?_,zgs w,hsl,fun t ht=>absurd ht (hnh.2.1 t),hrf⟩;obtain ⟨d,i,z,hd,hi,hz,hsz',hby,hzs,hone,hzc,hsh'⟩:=hok.ex;obtain ⟨rfl,hes⟩:=w3p (hsh'.symm.trans hsh)
    have hltm:n<(m:Int):=by omega
    obtain ⟨j,hj,hjs⟩:=zbv (P:=P) (t:=e) (by rw [<-hes];exact hes0);simp only [execOp,ho,hx,ey];unfold Instr.indexAt;simp [asIntOf,voj hd,h0,hltm,Instr.sureAddr,xvo hj,hjs,hes,v1c]
   split at hfa
   . rename_i cs hxa;split at hfa
     . rename_i t;split at hfa
       . rename_i hlt
         cases hfa;rw [hxa] at sx;obtain ⟨b,vs,Tb,e1,hb,hr⟩:=sx;refine fin b 0 e1 hlt.1 hlt.2 ?_ (fun s b' hr=>?_)
         . show _=Value.pointer (some ⟨blk (a.eval (.tmp t)),_,none⟩);rw [e1];simp [blk]
         . simp only [AV.rf,Option.some.injEq,Prod.mk.injEq] at hr;obtain ⟨rfl,rfl⟩:=hr;exact ⟨_,vxi (hox.trans hxa) (by simp),rfl⟩
       . cases hfa
     . cases hfa
   . rename_i cs hxa;split at hfa
     . rename_i t;split at hfa
       . rename_i hlt
         cases hfa;rw [hxa] at sx;obtain ⟨b,vs,Tb,e1,hb,hr⟩:=sx;refine fin b 0 e1 hlt.1 hlt.2 ?_ (fun s b' hr=>?_)
         . show _=Value.pointer (some ⟨blk (a.eval (.tmp t)),_,none⟩);rw [e1];simp [blk]
         . simp only [AV.rf,Option.some.injEq,Prod.mk.injEq] at hr;obtain ⟨rfl,rfl⟩:=hr;exact ⟨_,vxi (hox.trans hxa) (by simp),rfl⟩
       . cases hfa
     . cases hfa
   . rename_i s o' hxa;split at hfa
     . rename_i hlt
       cases hfa;rw [hxa] at sx;refine fin _ o' sx hlt.1 hlt.2 rfl (fun s' b' hr'=>?_)
       cases x with
       | tmp t=>exact hI.refs t _ s' b' (vxi (hox.trans hxa) (by simp)) (by simpa [AV.rf] using hr')
       | const v=>
        exfalso;simp only [opd,wx7] at hxa;split at hxa
        . split at hxa<;>cases hxa
        . cases hxa
        . cases hxa
       | func f=>cases hxa
       | global g=>cases hxa
     . cases hfa
   . rename_i s m' i f hxa;split at hfa
     . rename_i hlt
       cases hfa;rw [hxa] at sx;refine fin _ _ sx hlt.1 hlt.2 (by show _=Value.pointer _;rw [Nat.add_assoc]) (fun s' b' hr'=>?_)
       cases x with
       | tmp t=>exact hI.refs t _ s' b' (vxi (hox.trans hxa) (by simp)) (by simpa [AV.rf] using hr')
       | const v=>
        exfalso;simp only [opd,wx7] at hxa;split at hxa
        . split at hxa<;>cases hxa
        . cases hxa
        . cases hxa
       | func f=>cases hxa
       | global g=>cases hxa
     . cases hfa
   . rename_i cs hxa;split at hfa
     . rename_i hlt
       cases hfa;rw [hxa] at sx;obtain ⟨b,o',vs,e1,hc,hr⟩:=sx;refine fin b o' e1 hlt.1 hlt.2 ⟨b,_,vs.drop (n.toNat*es),rfl,fun j u hj=>?_,hr.drop _⟩ (fun s b hr=>by cases hr);rw [List.getElem?_drop] at hj
       have:=hc _ u hj
       rwa [<-Nat.add_assoc] at this
     . cases hfa
   . cases hfa
 . cases hfa
theorem yh6.pure (h:Slot.val I o rd av=some r) (hav:av.vy8=false) (hrf:av.rf=none)
 (hrun:∀(E:Env) (τ:Nat->TV) (M:Nat->Nat->Prop) (I':List AV) (a:Act) (w:World),(∀ x:Operand,(∀ t∈orr x,t∈rd)->opd I' x=opd I x)->(∀ s∈rd,gt I' s=gt I s)->RelI E τ M I' a w->
   ∃ v,(execOp a.eval o).run P w=.ok (.value v) w/\vi6 M w τ a.tmps v av/\(∀ t,av.vjg t->live I' t)):yh6 P o I r.1 [] r.2:=by
 obtain ⟨d,hdst,hn,rfl⟩:=xj7 h;refine yh6.val hdst (by simp) hn hav (fun E τ M I' a w hag hI=>?_);obtain ⟨v,h1,h2,h3⟩:=hrun E τ M I' a w (fun x hx=>hag.opd (fun t ht=>by simp [hx t ht])) (fun s hs=>hag.2 s (by simp [hs])) hI;exact ⟨v,w,h1,zgs w,h2,h3,fun s b hr=>by rw [hrf] at hr;cases hr⟩
def iand (k:IntKind) (a b:Int):Int:=k.wrap (BitVec.ofInt k.bits a &&&BitVec.ofInt k.bits b).toNat
def ior (k:IntKind) (a b:Int):Int:=k.wrap (BitVec.ofInt k.bits a |||BitVec.ofInt k.bits b).toNat
def ishl (k:IntKind) (a b:Int):Int:=k.wrap (a*2 ^ (min b.toNat k.bits))
def ishr (k:IntKind) (a b:Int):Int:=a.fdiv (2 ^ (min b.toNat k.bits))
def seq (a b:ByteArray):Bool:=a.toList==b.toList
def abin (op:BinOp) (x y:Value):Option Value:=
 match x,y with
 | .int k a,.int k' b=>match op with
  | .shl=>if 0<=b then some (.int k (ishl k a b)) else none
  | .shr=>if 0<=b then some (.int k (ishr k a b)) else none
  | .add=>if k=k' then some (.int k (k.wrap (a+b))) else none
  | .sub=>if k=k' then some (.int k (k.wrap (a-b))) else none
  | .mul=>if k=k' then some (.int k (k.wrap (a*b))) else none
  | .quo=>if k=k'/\b≠0 then some (.int k (k.wrap (a.tdiv b))) else none
  | .rem=>if k=k'/\b≠0 then some (.int k (a.tmod b)) else none
  | .and=>if k=k' then some (.int k (iand k a b)) else none
  | .or=>if k=k' then some (.int k (ior k a b)) else none
  | .eql=>if k=k' then some (.bool (a==b)) else none
  | .neq=>if k=k' then some (.bool (a != b)) else none
  | .lss=>if k=k' then some (.bool (decide (a<b))) else none
  | .leq=>if k=k' then some (.bool (decide (a<=b))) else none
  | .gtr=>if k=k' then some (.bool (decide (b<a))) else none
  | .geq=>if k=k' then some (.bool (decide (b<=a))) else none
  | _=>none
 | .string a,.string b=>match op with
  | .eql=>some (.bool (seq a b))
  | .neq=>some (.bool (!seq a b))
  | .add=>if a.size+b.size<=9223372036854775807 then some (.string (a++b)) else none
  | .lss=>some (.bool (Op.bytesLess a.toList b.toList))
  | .leq=>some (.bool (Op.bytesLess a.toList b.toList||seq a b))
  | .gtr=>some (.bool (!(Op.bytesLess a.toList b.toList||seq a b)))
  | .geq=>some (.bool (!Op.bytesLess a.toList b.toList))
  | _=>none
 | _,_=>none
theorem v4y {op:BinOp} {x:Value} (h:abin op x y=some v):v.oneCell'=true:=by
 unfold abin at h;split at h
 . split at h<;>first | (split at h<;>first | (cases h;rfl) | cases h) | cases h
 . split at h<;>first | (cases h;rfl) | (split at h<;>first | (cases h;rfl) | cases h) | cases h
 . cases h
theorem zn9 {op:BinOp} {x:Value} (h:abin op x y=some v) (T:TypeId) (w:World):(binOp op T x y).run P w=.ok v w:=by
 unfold abin at h;split at h
 . rename_i k a k' b;split at h
   all_goals first
    | (split at h
       . rename_i hc
         first
          | (obtain ⟨rfl,hb⟩:=hc;cases h;simp [binOp,Op.intDiv,hb])
          | (subst hc;cases h;simp [binOp,Op.intArith,Op.intBits,Op.intCmp,iand,ior])
          | (cases h;have hb:¬b<0:=by omega
             simp [binOp,Op.shift,hb,ishl,ishr])
       . cases h)
    | cases h
 . rename_i a b;split at h
   . cases h;simp [binOp,Op.stringOp,seq]
   . cases h;simp [binOp,Op.stringOp,seq]
   . split at h
     . rename_i hc
       cases h
       have:¬(IntKind.i64.max<((a.size+b.size:Nat):Int)):=by
        have:IntKind.i64.max=9223372036854775807:=by decide
        omega
       simp only [binOp,Op.stringOp];rw [if_neg this];rfl
     . cases h
   . cases h;simp [binOp,Op.stringOp]
   . cases h;simp [binOp,Op.stringOp,seq]
   . cases h;simp [binOp,Op.stringOp,seq]
   . cases h;simp [binOp,Op.stringOp]
   . cases h
 . cases h
theorem y46 {op:BinOp} {x:Value} (h:abin op x y=some v) (T:TypeId) (ox oy:Operand) (w:World):(eqGuard op T ox oy x y).run P w=.ok () w:=by
 unfold abin at h;unfold eqGuard;split at h
 . cases op<;>rfl
 . cases op<;>rfl
 . cases h
def binA (I:List AV) (op:BinOp) (x y:Operand):Option AV:=
 match opd I x,opd I y with
 | .one (.raw a),.one (.raw b)=>(abin op a b).map fun v=>.one (.raw v)
 | _,_=>none
theorem xbj {op:BinOp} {U:TypeId} {y:Operand} (ho:o.op=.binOp op T x y U) (hb:binA I op x y=some av)
 (h:val I o (orr x++orr y) av=some r):yh6 P o I r.1 [] r.2:=by
 have:∃ a b v,opd I x=.one (.raw a)/\opd I y=.one (.raw b)/\abin op a b=some v/\av=.one (.raw v):=by
  unfold binA at hb;split at hb
  . rename_i a b hx hy;simp only [Option.map_eq_some_iff] at hb;obtain ⟨v,h1,rfl⟩:=hb;exact ⟨a,b,v,hx,hy,h1,rfl⟩
  . cases hb
 obtain ⟨p,q,v,hx,hy,hab,rfl⟩:=this;refine yh6.pure h rfl rfl (fun E τ M I' a w hop _ hI=>⟨v,?_,RdC.raw (v4y hab),fun t ht=>ht.elim⟩);have sx:=hI.opd x;have sy:=hI.opd y;rw [hop x (fun t ht=>by simp [ht]),hx] at sx;rw [hop y (fun t ht=>by simp [ht]),hy] at sy;have ex:a.eval x=p:=RdC.zb5 sx;have ey:a.eval y=q:=RdC.zb5 sy;simp [execOp,ho,ex,ey,y46 hab,zn9 hab]
def nilC:Cell->Option Bool
 | .raw (.slice none 0 0)=>some true
 | .nn b=>some b
 | .ints _ l=>if 0<l.length then some false else none
 | .sl _ r=>if 0<r.length then some false else none
 | _=>none
def nilA (I:List AV) (ti:TI) (op:BinOp) (x:Operand):Option AV:=
 match ti.sh with
 | .slice _ _ _ _=>match opd I x with
  | .one c=>match nilC c.bare with
   | some b=>match op with
    | .eql=>some (.one (.raw (.bool b)))
    | .neq=>some (.one (.raw (.bool (!b))))
    | _=>none
   | none=>none
  | _=>none
 | _=>none
theorem RdC.isNil {b:Bool} (h:RdC M w v c) (hb:nilC c=some b):∃ a len cap,v=.slice a len cap/\a.isNone=b:=by
 cases h with
 | raw h=>unfold nilC at hb;split at hb<;>first | (rename_i heq;cases heq;cases hb;exact ⟨_,_,_,rfl,rfl⟩) | (rename_i heq;cases heq;done) | cases hb
 | zc=>cases hb
 | nn=>cases hb;exact ⟨_,_,_,rfl,rfl⟩
 | fnp=>cases hb
 | ints b' off hl hc ha h=>
  simp only [nilC] at hb;split at hb
  . rename_i hp;cases hb;rw [ha (List.length_pos_iff.1 hp)];exact ⟨_,_,_,rfl,rfl⟩
  . cases hb
 | sl b' off u hl hc ha hn hm hr=>
  simp only [nilC] at hb;split at hb
  . rename_i hp;cases hb;rw [ha (List.length_pos_iff.1 hp)];exact ⟨_,_,_,rfl,rfl⟩
  . cases hb
theorem xl6 {op:BinOp} {U:TypeId} (ho:o.op=.binOp op T x (.const (.slice none 0 0)) U) (hti:mkTI P T=some ti) (hb:nilA I ti op x=some av)
 (h:val I o (orr x) av=some r):yh6 P o I r.1 [] r.2:=by
 obtain ⟨ds,i,z,hd,hi,hz,_,_,_,_,_,hsh'⟩:=(vnz hti).ex;unfold nilA at hb;split at hb
 case h_2=>cases hb
 rename_i e es eb ik hsh;obtain ⟨rfl,_⟩:=wqb (hsh'.symm.trans hsh);split at hb
 case h_2=>cases hb
 rename_i c hx;split at hb
 case h_2=>cases hb
 rename_i b hnil
 have hav:∃ q,av=.one (.raw (.bool q))/\((op=.eql/\q=b)\/(op=.neq/\q = !b)):=by
  split at hb<;>cases hb
  . exact ⟨_,rfl,.inl ⟨rfl,rfl⟩⟩
  . exact ⟨_,rfl,.inr ⟨rfl,rfl⟩⟩
 obtain ⟨q,rfl,hq⟩:=hav;refine yh6.pure h rfl rfl (fun E τ M I' a w hop _ hI=>⟨.bool q,?_,RdC.raw rfl,fun t ht=>ht.elim⟩);have sx:=hI.opd x;rw [hop x (fun t ht=>ht),hx] at sx;obtain ⟨ad,len,cap,hv,hn⟩:=(RdT.bare sx).isNil hnil
 have hd':∀ d,(Op.equalIn (d+1) T (.slice ad len cap) (.slice none 0 0)).run P w=.ok b w:=fun d=>by
  unfold Op.equalIn
  cases ad with
  | none=>cases hn;simp [voj hd]
  | some ad=>cases hn;simp [voj hd]
 have he:(Op.equal T (.slice ad len cap) (.slice none 0 0)).run P w=.ok b w:=hd' 9999;have hc0:a.eval (.const (.slice none 0 0))=.slice none 0 0:=rfl
 rcases hq with ⟨rfl,rfl⟩ | ⟨rfl,rfl⟩
 . simp [execOp,ho,hv,eqGuard,binOp,he,hc0]
 . simp [execOp,ho,hv,eqGuard,binOp,he,hc0]
def aun (op:UnOp) (x:Value):Option Value:=
 match op,x with
 | .neg,.int k n=>some (.int k (k.wrap (0-n)))
 | .not,.bool b=>some (.bool (!b))
 | _,_=>none
def unA (I:List AV) (op:UnOp) (x:Operand):Option AV:=
 match opd I x with
 | .one (.raw a)=>(aun op a).map fun v=>.one (.raw v)
 | _=>none
theorem v7x {op:UnOp} (ho:o.op=.unOp op T x) (hb:unA I op x=some av)
 (h:val I o (orr x) av=some r):yh6 P o I r.1 [] r.2:=by
 have:∃ a v,opd I x=.one (.raw a)/\aun op a=some v/\av=.one (.raw v):=by
  unfold unA at hb;split at hb
  . rename_i a hx;simp only [Option.map_eq_some_iff] at hb;obtain ⟨v,h1,rfl⟩:=hb;exact ⟨a,v,hx,h1,rfl⟩
  . cases hb
 obtain ⟨p,v,hx,hab,rfl⟩:=this
 have hone:v.oneCell'=true:=by unfold aun at hab;split at hab<;>first | (cases hab;rfl) | cases hab
 refine yh6.pure h rfl rfl (fun E τ M I' a w hop _ hI=>⟨v,?_,RdC.raw hone,fun t ht=>ht.elim⟩);have sx:=hI.opd x;rw [hop x (fun t ht=>by simp [ht]),hx] at sx;have ex:a.eval x=p:=RdC.zb5 sx;unfold aun at hab;split at hab
 . cases hab;simp [execOp,ho,ex,Op.unary,Op.intArith]
 . cases hab;simp [execOp,ho,ex,Op.unary]
 . cases hab
def xck (I:List AV) (_ts td:TI) (x:Operand):Option AV:=
 match opd I x,td.sh with
 | .one (.raw (.int _ n)),.int k=>some (.one (.raw (.int k (k.wrap n))))
 | _,_=>none
theorem w4c {d:TypeDesc} {k:IntKind} (h:shOf P d=.int k):d=.int k:=by
 cases d with
 | int k'=>simp [shOf] at h;rw [h]
 | slice e=>
  exfalso;revert h;unfold shOf;dsimp only
  split
  . split
    . split<;>simp
    . simp
  . simp
 | struct fl=>
  exfalso;revert h;unfold shOf;dsimp only;split<;>simp
 | _=>simp [shOf] at h
theorem x3m {S D:TypeId} (ho:o.op=.convert S D x) {ts td:TI} (hts:mkTI P S=some ts) (htd:mkTI P D=some td) (hb:xck I ts td x=some av)
 (h:val I o (orr x) av=some r):yh6 P o I r.1 [] r.2:=by
 have:∃ k' k n,opd I x=.one (.raw (.int k' n))/\td.sh=.int k/\av=.one (.raw (.int k (k.wrap n))):=by
  unfold xck at hb;split at hb
  . rename_i k' n k hx hk;cases hb;exact ⟨k',k,n,hx,hk,rfl⟩
  . cases hb
 obtain ⟨k',k,n,hx,hk,rfl⟩:=this;obtain ⟨d,i,z,hd,hi,hz,_,_,_,_,_,hsh⟩:=(vnz htd).ex;obtain ⟨ds,_,_,hds,_⟩:=(vnz hts).ex;have hdk:=w4c (hsh.symm.trans hk);subst hdk;refine yh6.pure h rfl rfl (fun E τ M I' a w hop _ hI=>⟨_,?_,RdC.raw rfl,fun t ht=>ht.elim⟩);have sx:=hI.opd x;rw [hop x (fun t ht=>by simp [ht]),hx] at sx;have ex:a.eval x=.int k' n:=RdC.zb5 sx;simp [execOp,ho,ex,convert,voj hd,voj hds,Conv.intToInt]
def lenC:Cell->Option Nat
 | .ints _ l=>some l.length
 | .sl _ rows=>some rows.length
 | .zc=>some 0
 | .nn _=>some 0
 | .raw (.slice none 0 0)=>some 0
 | .raw (.string s)=>some s.size
 | .tok _ (.ints _ l)=>some l.length
 | .tok _ (.sl _ rows)=>some rows.length
 | _=>none
def lenA (I:List AV) (x:Operand):Option (List Nat×AV):=
 match opd I x with
 | .one c=>(lenC c).map fun (n:Nat)=>(orr x,.one (.raw (.int .i64 (n:Int))))
 | .arr _ c _=>some (orr x,.one (.raw (.int .i64 (c.cnt:Int))))
 | .asl s=>match gt I s with
  | .arr _ c _=>some (s::orr x,.one (.raw (.int .i64 (c.cnt:Int))))
  | _=>none
 | .awn _ _ _ (n:Nat)=>some (orr x,.one (.raw (.int .i64 (n:Int))))
 | _=>none
theorem run_len_slice (hti:TIok P T ti) (hs:ti.sh=.slice e es eb ik) (ty:TypeId) (ad:Option Addr) (len cap:Nat) (w:World) :
 (Builtin.len_ #[T] ty #[.slice ad len cap]).run P w=.ok (.int .i64 len) w:=by
 obtain ⟨d,i,z,hd,hi,hz,_,_,_,_,_,hsh⟩:=hti.ex;obtain ⟨rfl,_⟩:=wqb (hsh.symm.trans hs);simp [Builtin.len_,voj hd,goInt]
theorem zms {d:TypeDesc} (h:shOf P d=.string):d=.string:=by
 cases d with
 | string=>rfl
 | slice e=>
  exfalso;revert h;unfold shOf;dsimp only
  split
  . split
    . split<;>simp
    . simp
  . simp
 | struct fl=>
  exfalso;revert h;unfold shOf;dsimp only;split<;>simp
 | _=>simp [shOf] at h
def y3p (ti:TI):Cell->Bool
 | .raw (.string _)=>match ti.sh with
  | .string=>true
  | _=>false
 | _=>match ti.sh with
  | .slice _ _ _ _=>true
  | _=>false
def wlh (I:List AV) (ti:TI) (x:Operand):Bool:=
 match opd I x with
 | .one c=>y3p ti c
 | _=>match ti.sh with
  | .slice _ _ _ _=>true
  | _=>false
theorem RdT.len {τ:Nat->TV} {n:Nat} (h:RdT M w τ v c) (hl:lenC c=some n) :
 (∃ ad cap,v=.slice ad n cap/\∀ s,c≠.raw (.string s))\/∃ s,c=.raw (.string s)/\v=.string s/\n=s.size:=by
 have base:∀ c,RdC M w v c->lenC c=some n->(∃ ad cap,v=.slice ad n cap/\∀ s,c≠.raw (.string s))\/∃ s,c=.raw (.string s)/\v=.string s/\n=s.size:=fun c h hl=>by
  cases h with
  | raw h=>
   unfold lenC at hl;split at hl
   case h_5=>rename_i heq;cases heq;cases hl;exact .inl ⟨none,0,rfl,by simp⟩
   case h_6=>rename_i s heq;cases heq;cases hl;exact .inr ⟨s,rfl,rfl,rfl⟩
   all_goals first | (rename_i heq;cases heq;done) | cases hl
  | zc=>cases hl;exact .inl ⟨_,_,rfl,by simp⟩
  | nn=>cases hl;exact .inl ⟨_,_,rfl,by simp⟩
  | fnp=>cases hl
  | ints b off hl' hc ha h=>cases hl;subst hl';exact .inl ⟨_,_,rfl,by simp⟩
  | sl b off u hl' hc ha hn hm hr=>cases hl;subst hl';exact .inl ⟨_,_,rfl,by simp⟩
 cases c with
 | tok d c=>
  have h2:=h.2
  rcases base c h2 (by cases c<;>first | exact hl | cases hl) with ⟨ad,cap,hv,_⟩ | ⟨s,rfl,_⟩
  . exact .inl ⟨ad,cap,hv,by simp⟩
  . cases hl
 | _=>exact base _ h hl
theorem wqd (ho:o.op=.call { callee:=.builtin .len,args:=#[x],argTypes:=#[T] }) (hti:mkTI P T=some ti) (hfit:wlh I ti x=true)
 (hb:lenA I x=some (rd,av)) (h:val I o rd av=some r):yh6 P o I r.1 [] r.2:=by
 have hok:=vnz hti
 have hsub:(∀ t∈orr x,t∈rd)/\∃ n:Nat,av=.one (.raw (.int .i64 n)):=by
  unfold lenA at hb;split at hb
  . simp only [Option.map_eq_some_iff,Prod.mk.injEq] at hb;obtain ⟨n,_,rfl,rfl⟩:=hb;exact ⟨fun t ht=>ht,n,rfl⟩
  . cases hb;exact ⟨fun t ht=>ht,_,rfl⟩
  . split at hb
    . cases hb;exact ⟨fun t ht=>by simp [ht],_,rfl⟩
    . cases hb
  . cases hb;exact ⟨fun t ht=>ht,_,rfl⟩
  . cases hb
 obtain ⟨hsub,n,rfl⟩:=hsub;refine yh6.pure h rfl rfl (fun E τ M I' a w hop hgt hI=>⟨_,?_,RdC.raw rfl,fun t ht=>ht.elim⟩);have sx:=hI.opd x;rw [hop x hsub] at sx
 have key:(Builtin.len_ #[T] o.type #[a.eval x]).run P w=.ok (.int .i64 n) w:=by
  unfold wlh at hfit;unfold lenA at hb;split at hb
  . rename_i c hc;rw [hc] at sx;simp only [hc] at hfit;simp only [Option.map_eq_some_iff,Prod.mk.injEq,AV.one.injEq,Cell.raw.injEq,Value.int.injEq,true_and] at hb;obtain ⟨m,hm,rfl,hmn⟩:=hb
    have hmn':m=n:=by exact_mod_cast hmn
    subst hmn'
    rcases RdT.len (show RdT M w τ _ c from sx) hm with ⟨ad,cap,hv,hns⟩ | ⟨s,rfl,hv,rfl⟩
    . rw [hv]
      have:∃ e es eb ik,ti.sh=.slice e es eb ik:=by
       unfold y3p at hfit;split at hfit
       . exact absurd rfl (hns _)
       . split at hfit
         . rename_i h;exact ⟨_,_,_,_,h⟩
         . cases hfit
      obtain ⟨e,es,eb,ik,hsh⟩:=this;exact run_len_slice hok hsh _ _ _ _ w
    . rw [hv]
      have hsh:ti.sh=.string:=by
       simp only [y3p] at hfit;split at hfit
       . assumption
       . cases hfit
      obtain ⟨d,i,z,hd,hi,hz,_,_,_,_,_,hsh'⟩:=hok.ex
      have:=zms (hsh'.symm.trans hsh)
      subst this;simp [Builtin.len_,voj hd,goInt]
  . rename_i pre c post hl
    cases hb;rw [hl] at sx;obtain ⟨b,Tb,vs,q,cap,e1,_⟩:=sx;rw [e1];simp only [hl] at hfit;split at hfit
    . rename_i hsh;exact run_len_slice hok hsh _ _ _ _ w
    . cases hfit
  . rename_i s hs0;split at hb
    . rename_i pre c post hl
      cases hb;rw [hs0] at sx;have sx:a.eval x=a.tmps.getD s Go.undef:=sx;have hss:=hI.gt s;rw [hgt s (by simp),hl] at hss;obtain ⟨b,Tb,vs,q,cap,e1,_⟩:=hss;rw [sx,e1];simp only [hs0] at hfit;split at hfit
      . rename_i hsh;exact run_len_slice hok hsh _ _ _ _ w
      . cases hfit
    . cases hb
  . rename_i s m lo n' hs0
    cases hb;rw [hs0] at sx;obtain ⟨ad,cap,e1,_⟩:=sx;rw [e1];simp only [hs0] at hfit;split at hfit
    . rename_i hsh;exact run_len_slice hok hsh _ _ _ _ w
    . cases hfit
  . cases hb
 simp [execOp,ho,resolve,invoke,builtin,key]
end Go.Slot
