/- The proof, part P1: Mf, Mg, Mh, Mi, Mj. -/
import Derived.Test.YtmegdbbbllffkaaGreatP0
namespace Go.Slot
open Go Go.RowKit
variable {P:Program}
variable {M M':Nat->Nat->Prop} {w w':World} {τ:Nat->TV} {i:TypeInfo} {m e es eb l cap:Nat} {ik:Option IntKind} {T:TypeId} {ti te:TI} {I:List AV} {o:Oper} {x:Operand} {y:Value} {rd:List Nat} {av:AV} {r:List Nat×List (Nat×AV)} {k:IntKind} {lo hi:Option Operand} {parts:List (Nat×Operand)} {E:Env} {xs news:List Value}
def elemAt:Cell->Nat->Option (Nat×List Cell)
 | .ints k l,i=>if i<l.length then some (1,[.raw (.int k (l.getD i 0))]) else none
 | .sl n rows,i=>if i<rows.length then some (n,rows.getD i []) else none
 | .tok _ (.ints k l),i=>if i<l.length then some (1,[.raw (.int k (l.getD i 0))]) else none
 | .tok _ (.sl n rows),i=>if i<rows.length then some (n,rows.getD i []) else none
 | _,_=>none
def veh (I:List AV) (ti:TI) (x y:Operand):Option (List Nat×AV):=
 match opd I y with
 | .one (.raw (.int _ n)) =>
  if 0<=n then
   match ti.sh with
   | .slice _ es _ _=>match opd I x with
    | .one c=>match elemAt c n.toNat with
     | some (m,cs)=>if m=es then some (orr x++orr y,.elt cs) else none
     | none=>none
    | .arr _ c _=>match x with
     | .tmp t=>if es=c.esz/\n.toNat<c.cnt then some (orr x++orr y,.pel t es n.toNat 0) else none
     | _=>none
    | .asl s=>match gt I s with
     | .arr _ c _=>if es=c.esz/\n.toNat<c.cnt then some (s::(orr x++orr y),.pel s es n.toNat 0) else none
     | _=>none
    | .awn s m lo k=>if es=m/\n.toNat<k then some (orr x++orr y,.pel s es (lo+n.toNat) 0) else none
    | _=>none
   | .array m _ es=>match opd I x with
    | .box _=>match x with
     | .tmp t=>if n.toNat<m/\es≠0 then some (orr x++orr y,.ptr t (n.toNat*es)) else none
     | _=>none
    | .obx _=>match x with
     | .tmp t=>if n.toNat<m/\es≠0 then some (orr x++orr y,.ptr t (n.toNat*es)) else none
     | _=>none
    | .ptr s o=>if n.toNat<m/\es≠0 then some (orr x++orr y,.ptr s (o+n.toNat*es)) else none
    | .pel s m' i f=>if n.toNat<m/\es≠0 then some (orr x++orr y,.pel s m' i (f+n.toNat*es)) else none
    | .elt cs=>if n.toNat<m/\es≠0 then some (orr x++orr y,.elt (cs.drop (n.toNat*es))) else none
    | _=>none
   | _=>none
  else none
 | _=>none
def vfk (M:Nat->Nat->Prop) (w:World) (v:Value) (i m:Nat) (cs:List Cell):Prop:=
 ∃(b off len cap:Nat) (vs:List Value),v=.slice (some ⟨b,off,none⟩) len cap/\i<len/\(∀ j u,vs[j]? = some u->¬M b (off+i*m+j)/\w.cell? ⟨b,off+i*m+j,none⟩=some u)/\RdD M w vs cs
theorem zqb {M : Nat → Nat → Prop} {τ : Nat → TV} {v : Value} {c : Cell} (h : RdT M w τ v c) {i:Nat} {cs : List Cell} (he : elemAt c i = some (m, cs)) :
 vfk M w v i m cs:=by
 have ints:∀ k l,RdC M w v (.ints k l)->(if i<l.length then some (1,[Cell.raw (.int k (l.getD i 0))]) else none)=some (m,cs)->vfk M w v i m cs:=fun k l hr he=>by
  split at he
  . rename_i hi
    cases he
    cases hr with
    | ints b off hl hc ha hcell=>
     have hne:l≠[]:=fun e=>by rw [e] at hi;simp at hi
     rw [ha hne];refine ⟨b,off,_,_,[.int k (l.getD i 0)],rfl,by omega,fun j u hj=>?_,⟨RdC.raw rfl,trivial⟩⟩
     cases j with
     | zero=>
      simp at hj;subst hj
      have:=hcell i hi
      simpa [hi] using this
     | succ j=>simp at hj
  . cases he
 have rows:∀ n rows,RdC M w v (.sl n rows)->(if i<rows.length then some (n,rows.getD i []) else none)=some (m,cs)->vfk M w v i m cs:=fun n rows hr he=>by
  split at he
  . rename_i hi
    cases he
    cases hr with
    | sl b off u hl hc ha hn hm hr=>
     have hne:rows≠[]:=fun e=>by rw [e] at hi;simp at hi
     rw [ha hne];have hrl:rows[i].length=m:=hn _ (List.getElem_mem hi);refine ⟨b,off,_,_,(List.range m).map (u i),rfl,by omega,fun j x hj=>?_,?_⟩
     . simp only [List.getElem?_map] at hj;by_cases hjn:j<m
       . have:=hm i hi j hjn
         simp [hjn] at hj
         rwa [<-hj]
       . simp [hjn] at hj
     . have e:rows.getD i []=rows[i]:=by simp [hi]
       rw [e]
       have gen:∀(cs:List Cell) (f:Nat->Value),(∀ j (hj:j<cs.length),RdC M w (f j) cs[j])->RdD M w ((List.range cs.length).map f) cs:=by
        intro cs
        induction cs with
        | nil=>intro f _;exact trivial
        | cons c cs ih=>
         intro f hf;rw [List.length_cons,List.range_succ_eq_map,List.map_cons,List.map_map];exact ⟨hf 0 (by simp),ih (f∘Nat.succ) (fun j hj=>hf (j+1) (by simpa using hj))⟩
       have:=gen rows[i] (u i) (fun j hj=>hr i hi j hj)
       rwa [hrl] at this
  . cases he
 cases c with
 | ints k l=>exact ints k l h he
 | sl n r=>exact rows n r h he
 | tok d c=>
  cases c with
  | ints k l=>exact ints k l h.2 he
  | sl n r=>exact rows n r h.2 he
  | _=>cases he
 | _=>cases he
theorem wqb {d : TypeDesc} (h : shOf P d = .slice e es eb ik) :
 d=.slice e/\∃ i z,P.info? e=some i/\i.zero=some z/\i.size=es/\i.bytes=eb/\es≠0/\z.cells.size=es/\ik=(match P.underlying e with | some (.int k)=>some k | _=>none):=by
 cases d with
 | slice e' =>
  unfold shOf at h;dsimp only at h;split at h
  . rename_i i hi;split at h
    . rename_i z hz;split at h
      . rename_i hc;simp only [Bool.and_eq_true,bne_iff_ne,beq_iff_eq] at hc
        cases h;exact ⟨rfl,i,z,hi,hz,rfl,rfl,hc.1,hc.2,rfl⟩
      . cases h
    . cases h
  . cases h
 | struct fl=>
  exfalso;revert h;unfold shOf;dsimp only;split<;>simp
 | _=>simp [shOf] at h
theorem w3p {d:TypeDesc} {n:Nat} (h:shOf P d=.array n e es):d=.array n e/\es=P.cellsOf e:=by
 cases d with
 | array n' e'=>simp [shOf] at h;obtain ⟨rfl,rfl,rfl⟩:=h;exact ⟨rfl,rfl⟩
 | slice e=>
  exfalso;revert h;unfold shOf;dsimp only
  split
  . split
    . split<;>simp
    . simp
  . simp
 | struct fl=>
  exfalso;revert h;unfold shOf;dsimp only;split<;>simp
 | _=>simp [shOf] at h
theorem run_indexAt_slice (hti:TIok P T ti) (hs:ti.sh=.slice e es eb ik) (w:World) (b off len cap:Nat) (k:IntKind) (n:Int) (h0:0<=n) (hn:n.toNat<len) :
 (Instr.indexAt T (.slice (some ⟨b,off,none⟩) len cap) (.int k n)).run P w=.ok (.pointer (some ⟨b,off+n.toNat*es,none⟩)) w:=by
 obtain ⟨d,i,z,hd,hi,hz,hsz',hby,hzs,hone,hzc,hsh⟩:=hti.ex;obtain ⟨rfl,j,z',hj,_,hjs,_⟩:=wqb (hsh.symm.trans hs)
 have hlt:n<(len:Int):=by omega
 unfold Instr.indexAt;simp [asIntOf,voj hd,h0,hlt,xvp hj,hjs,v1c]
theorem wkw {y:Operand} (ho:o.op=.indexAddr T x y) (hti:mkTI P T=some ti) (hfa:veh I ti x y=some (rd,av))
 (h:val I o rd av=some r):yh6 P o I r.1 [] r.2:=by
 obtain ⟨d,hdst,hn,rfl⟩:=xj7 h;have hok:=vnz hti
 have hnh:av.vy8=false/\(∀ t,¬av.vjg t)/\(∀ t∈orr x++orr y,t∈rd):=by
  unfold veh at hfa
  repeat' split at hfa
  all_goals first | (cases hfa;exact ⟨rfl,fun t h=>h,fun t h=>by simp at h ⊢;simp [h]⟩) | cases hfa
 refine yh6.val hdst (by simp) hn hnh.1 (fun E τ M I' a w hag hI=>?_);have hox:opd I' x=opd I x:=hag.opd (fun t ht=>List.mem_cons_of_mem _ (hnh.2.2 t (by simp [ht])));have hoy:opd I' y=opd I y:=hag.opd (fun t ht=>List.mem_cons_of_mem _ (hnh.2.2 t (by simp [ht])));have sx:=hI.opd x;have sy:=hI.opd y;rw [hox] at sx;rw [hoy] at sy;unfold veh at hfa;split at hfa
 case h_2=>cases hfa
 rename_i k n hyn;rw [hyn] at sy;have ey:a.eval y=.int k n:=RdC.zb6 sy;split at hfa
 case isFalse=>cases hfa
 rename_i h0;split at hfa
 . rename_i e es eb ik hsh;have fin:∀(b off len cap:Nat),a.eval x=.slice (some ⟨b,off,none⟩) len cap->n.toNat<len->vi6 M w τ a.tmps (.pointer (some ⟨b,off+n.toNat*es,none⟩)) av->
    (∀(s:Nat) (b:Bool),av.rf=some (s,b)->∃ hv:AV,I'[s]? = some hv/\hv.fits b=true)->
    ∃ v w',(execOp a.eval o).run P w=.ok (.value v) w'/\Below w.heap.size w w'/\vi6 M w' τ a.tmps v av/\(∀ t,av.vjg t->live I' t)/\
    (∀(s:Nat) (b:Bool),av.rf=some (s,b)->∃ hv:AV,I'[s]? = some hv/\hv.fits b=true):=fun b off len cap hx hlt hsl hrf=>
    ⟨_,w,by simp [execOp,ho,hx,ey,run_indexAt_slice hok hsh w b off len cap k n h0 hlt],zgs w,hsl,fun t ht=>absurd ht (hnh.2.1 t),hrf⟩
   split at hfa
   . rename_i c hxc;rw [hxc] at sx;split at hfa
     . rename_i m cs hel;split at hfa
       . rename_i hm
         cases hfa;subst hm;obtain ⟨b,off,len,cap,vs,e1,hlt,hcl,hr⟩:=zqb (show RdT M w τ _ c from sx) hel;exact fin b off len cap e1 hlt ⟨b,_,vs,rfl,hcl,hr⟩ (fun s b hr=>by cases hr)
       . cases hfa
     . cases hfa
   . rename_i pre c post hxa;split at hfa
     . rename_i t;split at hfa
       . rename_i hc;obtain ⟨rfl,hlt⟩:=hc
         cases hfa;rw [hxa] at sx;obtain ⟨b,Tb,vs,q,cap,e1,hb,_⟩:=sx;refine fin b pre.length c.cnt cap e1 hlt ?_ (fun s b' hr=>?_)
         . show _=Value.pointer (some ⟨blk (a.eval (.tmp t)),offV (a.eval (.tmp t))+n.toNat*c.esz+0,none⟩);rw [e1];simp [blk,offV]
         . simp only [AV.rf,Option.some.injEq,Prod.mk.injEq] at hr;obtain ⟨rfl,rfl⟩:=hr;exact ⟨_,vxi (hox.trans hxa) (by simp),rfl⟩
       . cases hfa
     . cases hfa
   . rename_i s hxa;split at hfa
     . rename_i pre c post hg0;split at hfa
       . rename_i hc;obtain ⟨rfl,hlt⟩:=hc
         cases hfa
         have hg:gt I' s=.arr pre c post:=by rw [hag.2 s (by simp)];exact hg0
         rw [hxa] at sx;have sx:a.eval x=a.tmps.getD s Go.undef:=sx;have hss:=hI.gt s;rw [hg] at hss;obtain ⟨b,Tb,vs,q,cap,e1,hb,_⟩:=hss;refine fin b pre.length c.cnt cap (sx.trans e1) hlt ?_ (fun s' b' hr=>?_)
         . show _=Value.pointer (some ⟨blk (a.tmps.getD s Go.undef),offV (a.tmps.getD s Go.undef)+n.toNat*c.esz+0,none⟩);rw [e1];simp [blk,offV]
         . simp only [AV.rf,Option.some.injEq,Prod.mk.injEq] at hr;obtain ⟨rfl,rfl⟩:=hr;exact ⟨_,vxi hg (by simp),rfl⟩
       . cases hfa
     . cases hfa
   . rename_i s m lo k' hxa;split at hfa
     . rename_i hc;obtain ⟨rfl,hlt⟩:=hc
       cases hfa;rw [hxa] at sx;obtain ⟨ad,cap,e1,had,hcap,_⟩:=sx;rw [had (.inl (by omega))] at e1;refine fin _ _ _ cap e1 hlt ?_ (fun s' b' hr'=>?_)
       . show _=Value.pointer (some ⟨_,offV (a.tmps.getD s Go.undef)+(lo+n.toNat)*es+0,none⟩);rw [Nat.add_mul,Nat.add_zero,Nat.add_assoc]
       . cases x with
         | tmp t=>exact hI.refs t _ s' b' (vxi (hox.trans hxa) (by simp)) (by simpa [AV.rf] using hr')
         | const v=>
          exfalso;simp only [opd,wx7] at hxa;split at hxa
          . split at hxa<;>cases hxa
          . cases hxa
          . cases hxa
         | func f=>cases hxa
         | global g=>cases hxa
     . cases hfa
   . cases hfa
 . rename_i m e es hsh;have fin:∀(b off:Nat),a.eval x=.pointer (some ⟨b,off,none⟩)->n.toNat<m->es≠0->vi6 M w τ a.tmps (.pointer (some ⟨b,off+n.toNat*es,none⟩)) av->
    (∀(s:Nat) (b:Bool),av.rf=some (s,b)->∃ hv:AV,I'[s]? = some hv/\hv.fits b=true)->
    ∃ v w',(execOp a.eval o).run P w=.ok (.value v) w'/\Below w.heap.size w w'/\vi6 M w' τ a.tmps v av/\(∀ t,av.vjg t->live I' t)/\
    (∀(s:Nat) (b:Bool),av.rf=some (s,b)->∃ hv:AV,I'[s]? = some hv/\hv.fits b=true):=fun b off hx hlt hes0 hsl hrf=>by
    refine ⟨_,w,?_,zgs w,hsl,fun t ht=>absurd ht (hnh.2.1 t),hrf⟩;obtain ⟨d,i,z,hd,hi,hz,hsz',hby,hzs,hone,hzc,hsh'⟩:=hok.ex;obtain ⟨rfl,hes⟩:=w3p (hsh'.symm.trans hsh)
    have hltm:n<(m:Int):=by omega
    obtain ⟨j,hj,hjs⟩:=zbv (P:=P) (t:=e) (by rw [<-hes];exact hes0);simp only [execOp,ho,hx,ey];unfold Instr.indexAt;simp [asIntOf,voj hd,h0,hltm,Instr.sureAddr,xvp hj,hjs,hes,v1c]
   split at hfa
   . rename_i cs hxa;split at hfa
     . rename_i t;split at hfa
       . rename_i hlt
         cases hfa;rw [hxa] at sx;obtain ⟨b,vs,Tb,e1,hb,hr⟩:=sx;refine fin b 0 e1 hlt.1 hlt.2 ?_ (fun s b' hr=>?_)
         . show _=Value.pointer (some ⟨blk (a.eval (.tmp t)),_,none⟩);rw [e1];simp [blk]
         . simp only [AV.rf,Option.some.injEq,Prod.mk.injEq] at hr;obtain ⟨rfl,rfl⟩:=hr;exact ⟨_,vxi (hox.trans hxa) (by simp),rfl⟩
       . cases hfa
     . cases hfa
   . rename_i cs hxa;split at hfa
     . rename_i t;split at hfa
       . rename_i hlt
         cases hfa;rw [hxa] at sx;obtain ⟨b,vs,Tb,e1,hb,hr⟩:=sx;refine fin b 0 e1 hlt.1 hlt.2 ?_ (fun s b' hr=>?_)
         . show _=Value.pointer (some ⟨blk (a.eval (.tmp t)),_,none⟩);rw [e1];simp [blk]
         . simp only [AV.rf,Option.some.injEq,Prod.mk.injEq] at hr;obtain ⟨rfl,rfl⟩:=hr;exact ⟨_,vxi (hox.trans hxa) (by simp),rfl⟩
       . cases hfa
     . cases hfa
   . rename_i s o' hxa;split at hfa
     . rename_i hlt
       cases hfa;rw [hxa] at sx;refine fin _ o' sx hlt.1 hlt.2 rfl (fun s' b' hr'=>?_)
       cases x with
       | tmp t=>exact hI.refs t _ s' b' (vxi (hox.trans hxa) (by simp)) (by simpa [AV.rf] using hr')
       | const v=>
        exfalso;simp only [opd,wx7] at hxa;split at hxa
        . split at hxa<;>cases hxa
        . cases hxa
        . cases hxa
       | func f=>cases hxa
       | global g=>cases hxa
     . cases hfa
   . rename_i s m' i f hxa;split at hfa
     . rename_i hlt
       cases hfa;rw [hxa] at sx;refine fin _ _ sx hlt.1 hlt.2 (by show _=Value.pointer _;rw [Nat.add_assoc]) (fun s' b' hr'=>?_)
       cases x with
       | tmp t=>exact hI.refs t _ s' b' (vxi (hox.trans hxa) (by simp)) (by simpa [AV.rf] using hr')
       | const v=>
        exfalso;simp only [opd,wx7] at hxa;split at hxa
        . split at hxa<;>cases hxa
        . cases hxa
        . cases hxa
       | func f=>cases hxa
       | global g=>cases hxa
     . cases hfa
   . rename_i cs hxa;split at hfa
     . rename_i hlt
       cases hfa;rw [hxa] at sx;obtain ⟨b,o',vs,e1,hc,hr⟩:=sx;refine fin b o' e1 hlt.1 hlt.2 ⟨b,_,vs.drop (n.toNat*es),rfl,fun j u hj=>?_,hr.drop _⟩ (fun s b hr=>by cases hr);rw [List.getElem?_drop] at hj
       have:=hc _ u hj
       rwa [<-Nat.add_assoc] at this
     . cases hfa
   . cases hfa
 . cases hfa
theorem yh6.pure (h:Slot.val I o rd av=some r) (hav:av.vy8=false) (hrf:av.rf=none)
 (hrun:∀(E:Env) (τ:Nat->TV) (M:Nat->Nat->Prop) (I':List AV) (a:Act) (w:World),(∀ x:Operand,(∀ t∈orr x,t∈rd)->opd I' x=opd I x)->(∀ s∈rd,gt I' s=gt I s)->RelI E τ M I' a w->
   ∃ v,(execOp a.eval o).run P w=.ok (.value v) w/\vi6 M w τ a.tmps v av/\(∀ t,av.vjg t->live I' t)):yh6 P o I r.1 [] r.2:=by
 obtain ⟨d,hdst,hn,rfl⟩:=xj7 h;refine yh6.val hdst (by simp) hn hav (fun E τ M I' a w hag hI=>?_);obtain ⟨v,h1,h2,h3⟩:=hrun E τ M I' a w (fun x hx=>hag.opd (fun t ht=>by simp [hx t ht])) (fun s hs=>hag.2 s (by simp [hs])) hI;exact ⟨v,w,h1,zgs w,h2,h3,fun s b hr=>by rw [hrf] at hr;cases hr⟩
def iand (k:IntKind) (a b:Int):Int:=k.wrap (BitVec.ofInt k.bits a &&&BitVec.ofInt k.bits b).toNat
def ior (k:IntKind) (a b:Int):Int:=k.wrap (BitVec.ofInt k.bits a |||BitVec.ofInt k.bits b).toNat
def ishl (k:IntKind) (a b:Int):Int:=k.wrap (a*2 ^ (min b.toNat k.bits))
def ishr (k:IntKind) (a b:Int):Int:=a.fdiv (2 ^ (min b.toNat k.bits))
def seq (a b:ByteArray):Bool:=a.toList==b.toList
def abin (op:BinOp) (x y:Value):Option Value:=
 match x,y with
 | .int k a,.int k' b=>match op with
  | .shl=>if 0<=b then some (.int k (ishl k a b)) else none
  | .shr=>if 0<=b then some (.int k (ishr k a b)) else none
  | .add=>if k=k' then some (.int k (k.wrap (a+b))) else none
  | .sub=>if k=k' then some (.int k (k.wrap (a-b))) else none
  | .mul=>if k=k' then some (.int k (k.wrap (a*b))) else none
  | .quo=>if k=k'/\b≠0 then some (.int k (k.wrap (a.tdiv b))) else none
  | .rem=>if k=k'/\b≠0 then some (.int k (a.tmod b)) else none
  | .and=>if k=k' then some (.int k (iand k a b)) else none
  | .or=>if k=k' then some (.int k (ior k a b)) else none
  | .eql=>if k=k' then some (.bool (a==b)) else none
  | .neq=>if k=k' then some (.bool (a != b)) else none
  | .lss=>if k=k' then some (.bool (decide (a<b))) else none
  | .leq=>if k=k' then some (.bool (decide (a<=b))) else none
  | .gtr=>if k=k' then some (.bool (decide (b<a))) else none
  | .geq=>if k=k' then some (.bool (decide (b<=a))) else none
  | _=>none
 | .string a,.string b=>match op with
  | .eql=>some (.bool (seq a b))
  | .neq=>some (.bool (!seq a b))
  | .add=>if a.size+b.size<=9223372036854775807 then some (.string (a++b)) else none
  | .lss=>some (.bool (Op.bytesLess a.toList b.toList))
  | .leq=>some (.bool (Op.bytesLess a.toList b.toList||seq a b))
  | .gtr=>some (.bool (!(Op.bytesLess a.toList b.toList||seq a b)))
  | .geq=>some (.bool (!Op.bytesLess a.toList b.toList))
  | _=>none
 | _,_=>none
theorem v4y {op:BinOp} {x v:Value} (h:abin op x y=some v):v.oneCell'=true:=by
 unfold abin at h;split at h
 . split at h<;>first | (split at h<;>first | (cases h;rfl) | cases h) | cases h
 . split at h<;>first | (cases h;rfl) | (split at h<;>first | (cases h;rfl) | cases h) | cases h
 . cases h
theorem zn6 {op:BinOp} {x v:Value} (h:abin op x y=some v) (T:TypeId) (w:World):(binOp op T x y).run P w=.ok v w:=by
 unfold abin at h;split at h
 . rename_i k a k' b;split at h
   all_goals first
    | (split at h
       . rename_i hc
         first
          | (obtain ⟨rfl,hb⟩:=hc;cases h;simp [binOp,Op.intDiv,hb])
          | (subst hc;cases h;simp [binOp,Op.intArith,Op.intBits,Op.intCmp,iand,ior])
          | (cases h;have hb:¬b<0:=by omega
             simp [binOp,Op.shift,hb,ishl,ishr])
       . cases h)
    | cases h
 . rename_i a b;split at h
   . cases h;simp [binOp,Op.stringOp,seq]
   . cases h;simp [binOp,Op.stringOp,seq]
   . split at h
     . rename_i hc
       cases h
       have:¬(IntKind.i64.max<((a.size+b.size:Nat):Int)):=by
        have:IntKind.i64.max=9223372036854775807:=by decide
        omega
       simp only [binOp,Op.stringOp];rw [if_neg this];rfl
     . cases h
   . cases h;simp [binOp,Op.stringOp]
   . cases h;simp [binOp,Op.stringOp,seq]
   . cases h;simp [binOp,Op.stringOp,seq]
   . cases h;simp [binOp,Op.stringOp]
   . cases h
 . cases h
theorem y46 {op:BinOp} {x v:Value} (h:abin op x y=some v) (T:TypeId) (ox oy:Operand) (w:World):(eqGuard op T ox oy x y).run P w=.ok () w:=by
 unfold abin at h;unfold eqGuard;split at h
 . cases op<;>rfl
 . cases op<;>rfl
 . cases h
def binA (I:List AV) (op:BinOp) (x y:Operand):Option AV:=
 match opd I x,opd I y with
 | .one (.raw a),.one (.raw b)=>(abin op a b).map fun v=>.one (.raw v)
 | _,_=>none
theorem xbj {op:BinOp} {U:TypeId} {y:Operand} (ho:o.op=.binOp op T x y U) (hb:binA I op x y=some av)
 (h:val I o (orr x++orr y) av=some r):yh6 P o I r.1 [] r.2:=by
 have:∃ a b v,opd I x=.one (.raw a)/\opd I y=.one (.raw b)/\abin op a b=some v/\av=.one (.raw v):=by
  unfold binA at hb;split at hb
  . rename_i a b hx hy;simp only [Option.map_eq_some_iff] at hb;obtain ⟨v,h1,rfl⟩:=hb;exact ⟨a,b,v,hx,hy,h1,rfl⟩
  . cases hb
 obtain ⟨p,q,v,hx,hy,hab,rfl⟩:=this;refine yh6.pure h rfl rfl (fun E τ M I' a w hop _ hI=>⟨v,?_,RdC.raw (v4y hab),fun t ht=>ht.elim⟩);have sx:=hI.opd x;have sy:=hI.opd y;rw [hop x (fun t ht=>by simp [ht]),hx] at sx;rw [hop y (fun t ht=>by simp [ht]),hy] at sy;have ex:a.eval x=p:=RdC.zb6 sx;have ey:a.eval y=q:=RdC.zb6 sy;simp [execOp,ho,ex,ey,y46 hab,zn6 hab]
def nilC:Cell->Option Bool
 | .raw (.slice none 0 0)=>some true
 | .nn b=>some b
 | .ints _ l=>if 0<l.length then some false else none
 | .sl _ r=>if 0<r.length then some false else none
 | _=>none
def nilA (I:List AV) (ti:TI) (op:BinOp) (x:Operand):Option AV:=
 match ti.sh with
 | .slice _ _ _ _=>match opd I x with
  | .one c=>match nilC c.bare with
   | some b=>match op with
    | .eql=>some (.one (.raw (.bool b)))
    | .neq=>some (.one (.raw (.bool (!b))))
    | _=>none
   | none=>none
  | _=>none
 | _=>none
theorem RdC.isNil {v:Value} {c:Cell} {b:Bool} (h:RdC M w v c) (hb:nilC c=some b):∃ a len cap,v=.slice a len cap/\a.isNone=b:=by
 cases h with
 | raw h=>unfold nilC at hb;split at hb<;>first | (rename_i heq;cases heq;cases hb;exact ⟨_,_,_,rfl,rfl⟩) | (rename_i heq;cases heq;done) | cases hb
 | zc=>cases hb
 | nn=>cases hb;exact ⟨_,_,_,rfl,rfl⟩
 | fnp=>cases hb
 | ints b' off hl hc ha h=>
  simp only [nilC] at hb;split at hb
  . rename_i hp;cases hb;rw [ha (List.length_pos_iff.1 hp)];exact ⟨_,_,_,rfl,rfl⟩
  . cases hb
 | sl b' off u hl hc ha hn hm hr=>
  simp only [nilC] at hb;split at hb
  . rename_i hp;cases hb;rw [ha (List.length_pos_iff.1 hp)];exact ⟨_,_,_,rfl,rfl⟩
  . cases hb
theorem xl6 {op:BinOp} {U:TypeId} (ho:o.op=.binOp op T x (.const (.slice none 0 0)) U) (hti:mkTI P T=some ti) (hb:nilA I ti op x=some av)
 (h:val I o (orr x) av=some r):yh6 P o I r.1 [] r.2:=by
 obtain ⟨ds,i,z,hd,hi,hz,_,_,_,_,_,hsh'⟩:=(vnz hti).ex;unfold nilA at hb;split at hb
 case h_2=>cases hb
 rename_i e es eb ik hsh;obtain ⟨rfl,_⟩:=wqb (hsh'.symm.trans hsh);split at hb
 case h_2=>cases hb
 rename_i c hx;split at hb
 case h_2=>cases hb
 rename_i b hnil
 have hav:∃ q,av=.one (.raw (.bool q))/\((op=.eql/\q=b)\/(op=.neq/\q = !b)):=by
  split at hb<;>cases hb
  . exact ⟨_,rfl,.inl ⟨rfl,rfl⟩⟩
  . exact ⟨_,rfl,.inr ⟨rfl,rfl⟩⟩
 obtain ⟨q,rfl,hq⟩:=hav;refine yh6.pure h rfl rfl (fun E τ M I' a w hop _ hI=>⟨.bool q,?_,RdC.raw rfl,fun t ht=>ht.elim⟩);have sx:=hI.opd x;rw [hop x (fun t ht=>ht),hx] at sx;obtain ⟨ad,len,cap,hv,hn⟩:=(RdT.bare sx).isNil hnil
 have hd':∀ d,(Op.equalIn (d+1) T (.slice ad len cap) (.slice none 0 0)).run P w=.ok b w:=fun d=>by
  unfold Op.equalIn
  cases ad with
  | none=>cases hn;simp [voj hd]
  | some ad=>cases hn;simp [voj hd]
 have he:(Op.equal T (.slice ad len cap) (.slice none 0 0)).run P w=.ok b w:=hd' 9999;have hc0:a.eval (.const (.slice none 0 0))=.slice none 0 0:=rfl
 rcases hq with ⟨rfl,rfl⟩ | ⟨rfl,rfl⟩
 . simp [execOp,ho,hv,eqGuard,binOp,he,hc0]
 . simp [execOp,ho,hv,eqGuard,binOp,he,hc0]
def aun (op:UnOp) (x:Value):Option Value:=
 match op,x with
 | .neg,.int k n=>some (.int k (k.wrap (0-n)))
 | .not,.bool b=>some (.bool (!b))
 | _,_=>none
def unA (I:List AV) (op:UnOp) (x:Operand):Option AV:=
 match opd I x with
 | .one (.raw a)=>(aun op a).map fun v=>.one (.raw v)
 | _=>none
theorem v7x {op:UnOp} (ho:o.op=.unOp op T x) (hb:unA I op x=some av)
 (h:val I o (orr x) av=some r):yh6 P o I r.1 [] r.2:=by
 have:∃ a v,opd I x=.one (.raw a)/\aun op a=some v/\av=.one (.raw v):=by
  unfold unA at hb;split at hb
  . rename_i a hx;simp only [Option.map_eq_some_iff] at hb;obtain ⟨v,h1,rfl⟩:=hb;exact ⟨a,v,hx,h1,rfl⟩
  . cases hb
 obtain ⟨p,v,hx,hab,rfl⟩:=this
 have hone:v.oneCell'=true:=by unfold aun at hab;split at hab<;>first | (cases hab;rfl) | cases hab
 refine yh6.pure h rfl rfl (fun E τ M I' a w hop _ hI=>⟨v,?_,RdC.raw hone,fun t ht=>ht.elim⟩);have sx:=hI.opd x;rw [hop x (fun t ht=>by simp [ht]),hx] at sx;have ex:a.eval x=p:=RdC.zb6 sx;unfold aun at hab;split at hab
 . cases hab;simp [execOp,ho,ex,Op.unary,Op.intArith]
 . cases hab;simp [execOp,ho,ex,Op.unary]
 . cases hab
def xck (I:List AV) (_ts td:TI) (x:Operand):Option AV:=
 match opd I x,td.sh with
 | .one (.raw (.int _ n)),.int k=>some (.one (.raw (.int k (k.wrap n))))
 | _,_=>none
theorem w4c {d:TypeDesc} (h:shOf P d=.int k):d=.int k:=by
 cases d with
 | int k'=>simp [shOf] at h;rw [h]
 | slice e=>
  exfalso;revert h;unfold shOf;dsimp only
  split
  . split
    . split<;>simp
    . simp
  . simp
 | struct fl=>
  exfalso;revert h;unfold shOf;dsimp only;split<;>simp
 | _=>simp [shOf] at h
theorem x3m {S D:TypeId} (ho:o.op=.convert S D x) {ts td:TI} (hts:mkTI P S=some ts) (htd:mkTI P D=some td) (hb:xck I ts td x=some av)
 (h:val I o (orr x) av=some r):yh6 P o I r.1 [] r.2:=by
 have:∃ k' k n,opd I x=.one (.raw (.int k' n))/\td.sh=.int k/\av=.one (.raw (.int k (k.wrap n))):=by
  unfold xck at hb;split at hb
  . rename_i k' n k hx hk;cases hb;exact ⟨k',k,n,hx,hk,rfl⟩
  . cases hb
 obtain ⟨k',k,n,hx,hk,rfl⟩:=this;obtain ⟨d,i,z,hd,hi,hz,_,_,_,_,_,hsh⟩:=(vnz htd).ex;obtain ⟨ds,_,_,hds,_⟩:=(vnz hts).ex;have hdk:=w4c (hsh.symm.trans hk);subst hdk;refine yh6.pure h rfl rfl (fun E τ M I' a w hop _ hI=>⟨_,?_,RdC.raw rfl,fun t ht=>ht.elim⟩);have sx:=hI.opd x;rw [hop x (fun t ht=>by simp [ht]),hx] at sx;have ex:a.eval x=.int k' n:=RdC.zb6 sx;simp [execOp,ho,ex,convert,voj hd,voj hds,Conv.intToInt]
def lenC:Cell->Option Nat
 | .ints _ l=>some l.length
 | .sl _ rows=>some rows.length
 | .zc=>some 0
 | .nn _=>some 0
 | .raw (.slice none 0 0)=>some 0
 | .raw (.string s)=>some s.size
 | .tok _ (.ints _ l)=>some l.length
 | .tok _ (.sl _ rows)=>some rows.length
 | _=>none
def lenA (I:List AV) (x:Operand):Option (List Nat×AV):=
 match opd I x with
 | .one c=>(lenC c).map fun (n:Nat)=>(orr x,.one (.raw (.int .i64 (n:Int))))
 | .arr _ c _=>some (orr x,.one (.raw (.int .i64 (c.cnt:Int))))
 | .asl s=>match gt I s with
  | .arr _ c _=>some (s::orr x,.one (.raw (.int .i64 (c.cnt:Int))))
  | _=>none
 | .awn _ _ _ (n:Nat)=>some (orr x,.one (.raw (.int .i64 (n:Int))))
 | _=>none
theorem run_len_slice (hti:TIok P T ti) (hs:ti.sh=.slice e es eb ik) (ty:TypeId) (ad:Option Addr) (len cap:Nat) (w:World) :
 (Builtin.len_ #[T] ty #[.slice ad len cap]).run P w=.ok (.int .i64 len) w:=by
 obtain ⟨d,i,z,hd,hi,hz,_,_,_,_,_,hsh⟩:=hti.ex;obtain ⟨rfl,_⟩:=wqb (hsh.symm.trans hs);simp [Builtin.len_,voj hd,goInt]
theorem zms {d:TypeDesc} (h:shOf P d=.string):d=.string:=by
 cases d with
 | string=>rfl
 | slice e=>
  exfalso;revert h;unfold shOf;dsimp only
  split
  . split
    . split<;>simp
    . simp
  . simp
 | struct fl=>
  exfalso;revert h;unfold shOf;dsimp only;split<;>simp
 | _=>simp [shOf] at h
def y3p (ti:TI):Cell->Bool
 | .raw (.string _)=>match ti.sh with
  | .string=>true
  | _=>false
 | _=>match ti.sh with
  | .slice _ _ _ _=>true
  | _=>false
def wlh (I:List AV) (ti:TI) (x:Operand):Bool:=
 match opd I x with
 | .one c=>y3p ti c
 | _=>match ti.sh with
  | .slice _ _ _ _=>true
  | _=>false
theorem RdT.len {v:Value} {c:Cell} {n:Nat} (h:RdT M w τ v c) (hl:lenC c=some n) :
 (∃ ad cap,v=.slice ad n cap/\∀ s,c≠.raw (.string s))\/∃ s,c=.raw (.string s)/\v=.string s/\n=s.size:=by
 have base:∀ c,RdC M w v c->lenC c=some n->(∃ ad cap,v=.slice ad n cap/\∀ s,c≠.raw (.string s))\/∃ s,c=.raw (.string s)/\v=.string s/\n=s.size:=fun c h hl=>by
  cases h with
  | raw h=>
   unfold lenC at hl;split at hl
   case h_5=>rename_i heq;cases heq;cases hl;exact .inl ⟨none,0,rfl,by simp⟩
   case h_6=>rename_i s heq;cases heq;cases hl;exact .inr ⟨s,rfl,rfl,rfl⟩
   all_goals first | (rename_i heq;cases heq;done) | cases hl
  | zc=>cases hl;exact .inl ⟨_,_,rfl,by simp⟩
  | nn=>cases hl;exact .inl ⟨_,_,rfl,by simp⟩
  | fnp=>cases hl
  | ints b off hl' hc ha h=>cases hl;subst hl';exact .inl ⟨_,_,rfl,by simp⟩
  | sl b off u hl' hc ha hn hm hr=>cases hl;subst hl';exact .inl ⟨_,_,rfl,by simp⟩
 cases c with
 | tok d c=>
  have h2:=h.2
  rcases base c h2 (by cases c<;>first | exact hl | cases hl) with ⟨ad,cap,hv,_⟩ | ⟨s,rfl,_⟩
  . exact .inl ⟨ad,cap,hv,by simp⟩
  . cases hl
 | _=>exact base _ h hl
theorem wqd (ho:o.op=.call { callee:=.builtin .len,args:=#[x],argTypes:=#[T] }) (hti:mkTI P T=some ti) (hfit:wlh I ti x=true)
 (hb:lenA I x=some (rd,av)) (h:val I o rd av=some r):yh6 P o I r.1 [] r.2:=by
 have hok:=vnz hti
 have hsub:(∀ t∈orr x,t∈rd)/\∃ n:Nat,av=.one (.raw (.int .i64 n)):=by
  unfold lenA at hb;split at hb
  . simp only [Option.map_eq_some_iff,Prod.mk.injEq] at hb;obtain ⟨n,_,rfl,rfl⟩:=hb;exact ⟨fun t ht=>ht,n,rfl⟩
  . cases hb;exact ⟨fun t ht=>ht,_,rfl⟩
  . split at hb
    . cases hb;exact ⟨fun t ht=>by simp [ht],_,rfl⟩
    . cases hb
  . cases hb;exact ⟨fun t ht=>ht,_,rfl⟩
  . cases hb
 obtain ⟨hsub,n,rfl⟩:=hsub;refine yh6.pure h rfl rfl (fun E τ M I' a w hop hgt hI=>⟨_,?_,RdC.raw rfl,fun t ht=>ht.elim⟩);have sx:=hI.opd x;rw [hop x hsub] at sx
 have key:(Builtin.len_ #[T] o.type #[a.eval x]).run P w=.ok (.int .i64 n) w:=by
  unfold wlh at hfit;unfold lenA at hb;split at hb
  . rename_i c hc;rw [hc] at sx;simp only [hc] at hfit;simp only [Option.map_eq_some_iff,Prod.mk.injEq,AV.one.injEq,Cell.raw.injEq,Value.int.injEq,true_and] at hb;obtain ⟨m,hm,rfl,hmn⟩:=hb
    have hmn':m=n:=by exact_mod_cast hmn
    subst hmn'
    rcases RdT.len (show RdT M w τ _ c from sx) hm with ⟨ad,cap,hv,hns⟩ | ⟨s,rfl,hv,rfl⟩
    . rw [hv]
      have:∃ e es eb ik,ti.sh=.slice e es eb ik:=by
       unfold y3p at hfit;split at hfit
       . exact absurd rfl (hns _)
       . split at hfit
         . rename_i h;exact ⟨_,_,_,_,h⟩
         . cases hfit
      obtain ⟨e,es,eb,ik,hsh⟩:=this;exact run_len_slice hok hsh _ _ _ _ w
    . rw [hv]
      have hsh:ti.sh=.string:=by
       simp only [y3p] at hfit;split at hfit
       . assumption
       . cases hfit
      obtain ⟨d,i,z,hd,hi,hz,_,_,_,_,_,hsh'⟩:=hok.ex
      have:=zms (hsh'.symm.trans hsh)
      subst this;simp [Builtin.len_,voj hd,goInt]
  . rename_i pre c post hl
    cases hb;rw [hl] at sx;obtain ⟨b,Tb,vs,q,cap,e1,_⟩:=sx;rw [e1];simp only [hl] at hfit;split at hfit
    . rename_i hsh;exact run_len_slice hok hsh _ _ _ _ w
    . cases hfit
  . rename_i s hs0;split at hb
    . rename_i pre c post hl
      cases hb;rw [hs0] at sx;have sx:a.eval x=a.tmps.getD s Go.undef:=sx;have hss:=hI.gt s;rw [hgt s (by simp),hl] at hss;obtain ⟨b,Tb,vs,q,cap,e1,_⟩:=hss;rw [sx,e1];simp only [hs0] at hfit;split at hfit
      . rename_i hsh;exact run_len_slice hok hsh _ _ _ _ w
      . cases hfit
    . cases hb
  . rename_i s m lo n' hs0
    cases hb;rw [hs0] at sx;obtain ⟨ad,cap,e1,_⟩:=sx;rw [e1];simp only [hs0] at hfit;split at hfit
    . rename_i hsh;exact run_len_slice hok hsh _ _ _ _ w
    . cases hfit
  . cases hb
 simp [execOp,ho,resolve,invoke,builtin,key]
def Cell.isSl:Cell->Bool
 | .ints _ _ | .sl _ _ | .zc=>true
 | _=>false
def natA:AV->Option Nat
 | .one (.raw (.int _ n))=>if 0<=n then some n.toNat else none
 | _=>none
def ytz (I:List AV) (d:Nat):Option Operand->Option Nat
 | none=>some d
 | some x=>natA (opd I x)
def orrO:Option Operand->List Nat
 | none=>[]
 | some x=>orr x
def cutC (c:Cell) (lo:Nat) (hi:Option Nat):Option Cell:=
 match c with
 | .ints k l=>let h:=hi.getD l.length
  if lo<=h/\h<=l.length then some (.ints k ((l.drop lo).take (h-lo))) else none
 | .sl n rows=>let h:=hi.getD rows.length
  if lo<=h/\h<=rows.length then some (.sl n ((rows.drop lo).take (h-lo))) else none
 | _=>none
def w6c (I:List AV) (ti:TI) (x:Operand) (lo hi mx:Option Operand):Option AV:=
 match ytz I 0 lo,(match hi with | none=>some none | some h=>(natA (opd I h)).map some) with
 | some l,some h=>
  match mx with
  | none=>match opd I x with
   | .one (.raw (.string s))=>match ti.sh with
    | .string=>if l<=h.getD s.size/\h.getD s.size<=s.size then some (.one (.raw (.string (s.extract l (h.getD s.size))))) else none
    | _=>none
   | .one c=>match ti.sh with
    | .slice _ _ _ _=>(cutC c.bare l h).map .one
    | _=>none
   | _=>none
  | some m=>match ti.sh,opd I x with
   | .slice _ _ _ _,.one c=>if c.bare.isSl=true/\l=0/\h=some 0/\natA (opd I m)=some 0 then some (.one .zc) else none
   | _,_=>none
 | _,_=>none
theorem xnh {tm:Array Value} {v:Value} {n:Nat} (h:vi6 M w τ tm v av) (hn:natA av=some n):∃ k,v=.int k n:=by
 unfold natA at hn;split at hn
 . rename_i k m;split at hn
   . rename_i h0
     cases hn;have e:v=.int k m:=RdC.zb6 h;exact ⟨k,by rw [e];congr 1;omega⟩
   . cases hn
 . cases hn
theorem z2f {v:Value} {n y:Nat} (hv:v=.int k n) (h:n<=y) (code:BoundsCode) (w:World):(Instr.sliceBound v y code).run P w=.ok n w:=by
 subst hv
 have:(n:Int)<=(y:Int):=by omega
 simp [Instr.sliceBound,asIntOf,this]
theorem yqw (k:IntKind) (y:Nat) (code:BoundsCode) (w:World):(Instr.sliceBound (.int k 0) y code).run P w=.ok 0 w:=by
 simp [Instr.sliceBound,asIntOf]
theorem yip {lo hi:Option Value} {h len:Nat} {isS:Bool} (hl:match lo with | none=>l=0 | some v=>∃ k,v=.int k l) (hh:match hi with | none=>h=len | some v=>∃ k,v=.int k h)
 (h1:l<=h) (h2:h<=cap) (w:World):(Instr.sliceBounds isS len cap lo hi none).run P w=.ok (l,h,cap) w:=by
 unfold Instr.sliceBounds
 cases hi with
 | none=>
  simp only at hh;subst hh
  cases lo with
  | none=>simp only at hl;subst hl;simp
  | some v=>obtain ⟨k,hv⟩:=hl;simp [z2f hv h1]
 | some u=>
  obtain ⟨k',hu⟩:=hh
  cases lo with
  | none=>simp only at hl;subst hl;simp [z2f hu h2]
  | some v=>obtain ⟨k,hv⟩:=hl;simp [z2f hu h2,z2f hv h1]
theorem RdC.cut {ad:Option Addr} {len:Nat} {c c':Cell} {h:Option Nat} (hr:RdC M w (.slice ad len cap) c) (hc:cutC c l h=some c')
 (hes:∀ k L,c=.ints k L->es=1) (hes':∀ n rows,c=.sl n rows->es=n) :
 l<=h.getD len/\h.getD len<=len/\len<=cap/\RdC M w (.slice (if cap=l then ad else ad.map (·.add (l*es))) (h.getD len-l) (cap-l)) c':=by
 cases hr with
 | raw h=>cases hc
 | zc=>cases hc
 | nn=>cases hc
 | fnp=>cases hc
 | @ints _ _ _ k L b off hl hcap ha hcell=>
  simp only [cutC] at hc;split at hc
  . rename_i hb
    cases hc;subst hl;have he:=hes k L rfl;subst he;refine ⟨hb.1,hb.2,hcap,?_⟩;refine .ints b (off+l) (by simp;omega) (by omega) (fun hne=>?_) (fun i hi=>?_)
    . have:L≠[]:=fun e=>by subst e;simp at hne
      have hlt:¬cap=l:=fun e=>by
       apply hne
       have:h.getD L.length=l:=by omega
       simp [this]
      rw [if_neg hlt,ha this];simp [v1c]
    . simp only [List.length_take,List.length_drop] at hi
      have:=hcell (l+i) (by omega)
      rw [Nat.add_assoc];simpa using this
  . cases hc
 | @sl _ _ _ n rows b off u hl hcap ha hn hm hr=>
  simp only [cutC] at hc;split at hc
  . rename_i hb
    cases hc;subst hl;have he:=hes' n rows rfl;subst he;refine ⟨hb.1,hb.2,hcap,?_⟩;refine .sl b (off+l*es) (fun i j=>u (l+i) j) (by simp;omega) (by omega) (fun hne=>?_) (fun r hr'=>hn r (List.mem_of_mem_drop (List.mem_of_mem_take hr'))) (fun i hi j hj=>?_) (fun i hi j hj=>?_)
    . have:rows≠[]:=fun e=>by subst e;simp at hne
      have hlt:¬cap=l:=fun e=>by
       apply hne
       have:h.getD rows.length=l:=by omega
       simp [this]
      rw [if_neg hlt,ha this];simp [v1c]
    . simp only [List.length_take,List.length_drop] at hi
      have:=hm (l+i) (by omega) j hj
      rw [Nat.add_mul] at this
      have e:off+l*es+i*es+j=off+(l*es+i*es)+j:=by omega
      rw [e];exact this
    . simp only [List.length_take,List.length_drop] at hi
      have hlen:l+i<rows.length:=by omega
      have hj':j<rows[l+i].length:=by simpa using hj
      have:=hr (l+i) hlen j hj'
      simpa using this
  . cases hc
theorem RdC.wpt {v:Value} {c:Cell} (h:RdC M w v c) (hc:c.isSl=true):∃ ad len cap,v=.slice ad len cap:=by
 cases h with
 | raw _=>cases hc
 | fnp=>cases hc
 | _=>exact ⟨_,_,_,rfl⟩
theorem y8g {mx:Option Operand} (ho:o.op=.slice T x lo hi mx) (hti:mkTI P T=some ti)
 (hes:∀ e es eb ik,ti.sh=.slice e es eb ik->∀ c,opd I x=.one c->(∀ k L,c.bare=.ints k L->es=1)/\(∀ n rows,c.bare=.sl n rows->es=n))
 (hs:w6c I ti x lo hi mx=some av) (h:val I o (orr x++orrO lo++orrO hi++orrO mx) av=some r):yh6 P o I r.1 [] r.2:=by
 have hok:=vnz hti;obtain ⟨d,i,z,hd,hi',hz,_,_,_,_,_,hsh'⟩:=hok.ex
 have hprops:av.vy8=false/\av.rf=none:=by
  unfold w6c at hs
  repeat' split at hs
  all_goals first
   | (cases hs;exact ⟨rfl,rfl⟩)
   | (simp only [Option.map_eq_some_iff] at hs;obtain ⟨_,_,rfl⟩:=hs;exact ⟨rfl,rfl⟩)
   | cases hs
 refine yh6.pure h hprops.1 hprops.2 (fun E τ M I' a w hop hgt hI=>?_);have sx:=hI.opd x;rw [hop x (fun t ht=>by simp [ht])] at sx
 have bnd:∀(u:Option Operand) (dflt n:Nat),(∀ y,u=some y->opd I' y=opd I y)->ytz I dflt u=some n->match u.map a.eval with | none=>n=dflt | some v=>∃ k,v=.int k n:=fun u dflt n hu hb=>by
  cases u with
  | none=>simp [ytz] at hb;exact hb.symm
  | some y=>
   have sy:=hI.opd y;rw [hu y rfl] at sy;exact xnh sy hb
 have hlo:∀ y,lo=some y->opd I' y=opd I y:=fun y e=>hop y (fun t ht=>by subst e;simp [orrO,ht])
 have hhi:∀ y,hi=some y->opd I' y=opd I y:=fun y e=>hop y (fun t ht=>by subst e;simp [orrO,ht])
 have hmx:∀ y,mx=some y->opd I' y=opd I y:=fun y e=>hop y (fun t ht=>by subst e;simp [orrO,ht])
 unfold w6c at hs;split at hs
 case h_2=>cases hs
 rename_i l hh hl hhb;have bl:=bnd lo 0 l hlo hl
 have bh:∀ len:Nat,match hi.map a.eval with | none=>hh.getD len=len | some v=>∃ k,v=.int k (hh.getD len):=fun len=>by
  cases hi with
  | none=>simp at hhb;subst hhb;rfl
  | some y=>
   simp only [Option.map_eq_some_iff] at hhb;obtain ⟨n,hn,rfl⟩:=hhb;have sy:=hI.opd y;rw [hhi y rfl] at sy;exact xnh sy hn
 split at hs
 ·
  split at hs
  . rename_i s hxs;rw [hxs] at sx;have ex:a.eval x=.string s:=RdC.zb6 sx;split at hs
    . rename_i hsh;split at hs
      . rename_i hb
        cases hs;have hds:=zms (hsh'.symm.trans hsh);subst hds;refine ⟨.string (s.extract l (hh.getD s.size)),?_,RdC.raw rfl,fun t ht=>ht.elim⟩;have hrb:=yip (P:=P) (isS:=false) (len:=s.size) (cap:=s.size) bl (bh s.size) hb.1 hb.2 w;simp [execOp,ho,ex,Instr.sliceAt,voj hd,Instr.slice,hrb]
      . cases hs
    . cases hs
  . rename_i c hnot hxc;rw [hxc] at sx;split at hs
    . rename_i e es eb ik hsh;simp only [Option.map_eq_some_iff] at hs;obtain ⟨c',hc',rfl⟩:=hs;obtain ⟨rfl,j,z',hj,hz',hjs,_⟩:=wqb (hsh'.symm.trans hsh);have hrb:=RdT.bare (show RdT M w τ _ c from sx)
      have hsv:∃ ad len cap,a.eval x=.slice ad len cap:=hrb.wpt (by
       generalize c.bare=cb at hc'
       cases cb<;>first | rfl | cases hc')
      obtain ⟨ad,len,cap,ex⟩:=hsv;rw [ex] at hrb;have hcut:=hrb.cut hc' (hes e es eb ik hsh c hxc).1 (hes e es eb ik hsh c hxc).2;refine ⟨_,?_,RdT.of hcut.2.2.2,fun t ht=>?_⟩
      . have hrbs:=yip (P:=P) (isS:=true) (len:=len) (cap:=cap) bl (bh len) hcut.1 (by omega) w;simp [execOp,ho,ex,Instr.sliceAt,voj hd,Instr.slice,hrbs,xvp hj,hjs]
      . have hnt:∀ t,¬c'.vjg t:=fun t ht=>by
         cases c' with
         | tok d' c''=>exact hcut.2.2.2.z3m
         | _=>exact ht
        exact absurd ht (hnt t)
    . cases hs
  . cases hs
 . rename_i m;split at hs
   . rename_i e es eb ik c hsh hxc;rw [hxc] at sx;split at hs
     . rename_i hb;obtain ⟨hsl,rfl,rfl,hm⟩:=hb
       cases hs;obtain ⟨rfl,j,z',hj,hz',hjs,_⟩:=wqb (hsh'.symm.trans hsh);have hrb:=RdT.bare (show RdT M w τ _ c from sx);have sm:=hI.opd m;rw [hmx m rfl] at sm;obtain ⟨km,em⟩:=xnh sm hm;obtain ⟨ad,len,cap,ex⟩:=hrb.wpt hsl;have hhv:=bh 0;have hlv:∀(lv:Option Value),(match lv with | none=>0=0 | some v=>∃ k,v=.int k (0:Nat))->∀ hv:Value,(∃ k,hv=.int k (0:Nat))->
        (Instr.sliceBounds true len cap lv (some hv) (some (.int km (0:Nat)))).run P w=.ok (0,0,0) w:=fun lv h1 hv ⟨k2,h2⟩=>by
        unfold Instr.sliceBounds
        cases lv with
        | none=>subst h2;simp [yqw]
        | some v=>obtain ⟨k3,h3⟩:=h1;subst h2;subst h3;simp [yqw]
       cases hi with
       | none=>simp at hhb
       | some hy=>
        have hres:=hlv (lo.map a.eval) bl (a.eval hy) hhv;have hmv:a.eval m=.int km (0:Nat):=em;refine ⟨.slice ad 0 0,?_,RdC.zc,fun t ht=>ht.elim⟩;simp only [execOp,ho,ex,Instr.sliceAt,Option.map_some,hmv,Sem.run_bind,voj hd,Result.andThen_ok,Instr.slice,hres,xvp hj];simp
     . cases hs
   . cases hs
def yla (I:List AV) (ti:TI) (x:Operand) (lo hi:Option Operand):Option (List Nat×AV):=
 match ytz I 0 lo,(match hi with | none=>some none | some h=>(natA (opd I h)).map some) with
 | some l,some h=>match ti.sh,x with
  | .slice _ es _ _,.tmp t=>match gt I t with
   | .arr _ c _=>if es=c.esz/\l<=h.getD c.cnt/\h.getD c.cnt<=c.cnt then some (t::(orrO lo++orrO hi),.awn t es l (h.getD c.cnt-l)) else none
   | .asl s=>match gt I s with
    | .arr _ c _=>if es=c.esz/\l<=h.getD c.cnt/\h.getD c.cnt<=c.cnt then some (t::s::(orrO lo++orrO hi),.awn s es l (h.getD c.cnt-l)) else none
    | _=>none
   | .awn s m lo' n=>if es=m/\l<=h.getD n/\h.getD n<=n then some (t::(orrO lo++orrO hi),.awn s m (lo'+l) (h.getD n-l)) else none
   | _=>none
  | _,_=>none
 | _,_=>none
theorem vyc (ho:o.op=.slice T x lo hi none) (hti:mkTI P T=some ti)
 (hs:yla I ti x lo hi=some (rd,av)) (h:val I o rd av=some r):yh6 P o I r.1 [] r.2:=by
 obtain ⟨d,hdst,hn,rfl⟩:=xj7 h;have hok:=vnz hti;obtain ⟨ds,i,z,hd,hi',hz,_,_,_,_,_,hsh'⟩:=hok.ex;unfold yla at hs;split at hs
 case h_2=>cases hs
 rename_i l hh hl hhb;split at hs
 case h_2=>cases hs
 rename_i e es eb ik t hsh;obtain ⟨rfl,j,z',hj,hz',hjs,_⟩:=wqb (hsh'.symm.trans hsh)
 have hrd:(∀ u∈orrO lo,u∈rd)/\(∀ u∈orrO hi,u∈rd)/\t∈rd/\av.vy8=false/\(∀ u,¬av.vjg u):=by
  repeat' split at hs
  all_goals first
   | (cases hs;exact ⟨fun u hu=>by simp [hu],fun u hu=>by simp [hu],by simp,rfl,fun u h=>h⟩)
   | cases hs
 refine yh6.val hdst (by simp) hn hrd.2.2.2.1 (fun E τ M I' a w hag hI=>?_)
 have bnd:∀(u:Option Operand) (dflt n:Nat),(∀ y,u=some y->opd I' y=opd I y)->ytz I dflt u=some n->match u.map a.eval with | none=>n=dflt | some v=>∃ k,v=.int k n:=fun u dflt n hu hb=>by
  cases u with
  | none=>simp [ytz] at hb;exact hb.symm
  | some y=>
   have sy:=hI.opd y;rw [hu y rfl] at sy;exact xnh sy hb
 have hlo:∀ y,lo=some y->opd I' y=opd I y:=fun y e=>hag.opd (fun t ht=>by subst e;exact List.mem_cons_of_mem _ (hrd.1 t (by simpa [orrO] using ht)))
 have hhi:∀ y,hi=some y->opd I' y=opd I y:=fun y e=>hag.opd (fun t ht=>by subst e;exact List.mem_cons_of_mem _ (hrd.2.1 t (by simpa [orrO] using ht)))
 have bl:=bnd lo 0 l hlo hl
 have bh:∀ len:Nat,match hi.map a.eval with | none=>hh.getD len=len | some v=>∃ k,v=.int k (hh.getD len):=fun len=>by
  cases hi with
  | none=>simp at hhb;subst hhb;rfl
  | some y=>
   simp only [Option.map_eq_some_iff] at hhb;obtain ⟨n,hn,rfl⟩:=hhb;have sy:=hI.opd y;rw [hhi y rfl] at sy;exact xnh sy hn
 have hgt:gt I' t=gt I t:=hag.2 t (List.mem_cons_of_mem _ hrd.2.2.1);have fin:∀(ad:Option Addr) (len cap:Nat),a.tmps.getD t Go.undef=.slice ad len cap->l<=hh.getD len->hh.getD len<=len->len<=cap->
  vi6 M w τ a.tmps (.slice (if cap=l then ad else ad.map (·.add (l*es))) (hh.getD len-l) (cap-l)) av->
  (∀(s:Nat) (b:Bool),av.rf=some (s,b)->∃ hv:AV,I'[s]? = some hv/\hv.fits b=true)->
  ∃ v w',(execOp a.eval o).run P w=.ok (.value v) w'/\Below w.heap.size w w'/\vi6 M w' τ a.tmps v av/\(∀ t,av.vjg t->live I' t)/\
   (∀(s:Nat) (b:Bool),av.rf=some (s,b)->∃ hv:AV,I'[s]? = some hv/\hv.fits b=true):=fun ad len cap ex h1 h2 h3 hsl hrf=>by
  refine ⟨_,w,?_,zgs w,hsl,fun u hu=>absurd hu (hrd.2.2.2.2 u),hrf⟩;have hrbs:=yip (P:=P) (isS:=true) (len:=len) (cap:=cap) bl (bh len) h1 (by omega) w;have ex':a.eval (.tmp t)=.slice ad len cap:=ex;simp [execOp,ho,ex',Instr.sliceAt,voj hd,Instr.slice,hrbs,xvp hj,hjs]
 split at hs
 . rename_i pre c post hg;split at hs
   . rename_i hc
     cases hs;obtain ⟨rfl,h1,h2⟩:=hc;have hss:=hI.gt t;rw [hgt,hg] at hss;obtain ⟨b,Tb,vs,q,cap,e1,hb,_,_,_,hcap,_⟩:=hss;refine fin _ _ _ e1 h1 h2 hcap ⟨_,_,rfl,fun hne=>?_,by omega,by rw [e1];simp only [capV];omega⟩ (fun s' b' hr=>?_)
     . by_cases hcl:cap=l
       . have:l=0:=by omega
         subst this;subst hcl;rw [if_pos rfl,e1];simp [blk,offV]
       . rw [if_neg hcl,e1];simp [blk,offV,v1c]
     . simp only [AV.rf,Option.some.injEq,Prod.mk.injEq] at hr;obtain ⟨rfl,rfl⟩:=hr;exact ⟨_,vxi (hgt.trans hg) (by simp),rfl⟩
   . cases hs
 . rename_i s hg;split at hs
   . rename_i pre c post hg2;split at hs
     . rename_i hc
       cases hs;obtain ⟨rfl,h1,h2⟩:=hc;have hs1:=hI.gt t;rw [hgt,hg] at hs1;have hs1:a.tmps.getD t Go.undef=a.tmps.getD s Go.undef:=hs1;have hss:=hI.gt s
       have hgs:gt I' s=.arr pre c post:=by rw [hag.2 s (by simp)];exact hg2
       rw [hgs] at hss;obtain ⟨b,Tb,vs,q,cap,e1,hb,_,_,_,hcap,_⟩:=hss;refine fin _ _ _ (hs1.trans e1) h1 h2 hcap ⟨_,_,rfl,fun hne=>?_,by omega,by rw [e1];simp only [capV];omega⟩ (fun s' b' hr=>?_)
       . by_cases hcl:cap=l
         . have:l=0:=by omega
           subst this;subst hcl;rw [if_pos rfl,e1];simp [blk,offV]
         . rw [if_neg hcl,e1];simp [blk,offV,v1c]
       . simp only [AV.rf,Option.some.injEq,Prod.mk.injEq] at hr;obtain ⟨rfl,rfl⟩:=hr;exact ⟨_,vxi hgs (by simp),rfl⟩
     . cases hs
   . cases hs
 . rename_i s m lo' n hg;split at hs
   . rename_i hc
     cases hs;obtain ⟨rfl,h1,h2⟩:=hc;have hs1:=hI.gt t;rw [hgt,hg] at hs1;obtain ⟨ad,cap,e1,had,hcap,hcap'⟩:=hs1;refine fin _ _ _ e1 h1 h2 hcap ⟨_,_,rfl,fun hne=>?_,by omega,by omega⟩ (fun s' b' hr=>hI.refs t _ s' b' (vxi (hgt.trans hg) (by simp)) (by simpa [AV.rf] using hr));by_cases hcl:cap=l
     . have:l=0:=by omega
       subst this;subst hcl;rw [if_pos rfl,had (.inr (by omega))];simp
     . rw [if_neg hcl,had (.inl (by omega))];simp only [Option.map_some,v1c,Option.some.injEq,Addr.mk.injEq,and_true,true_and];rw [Nat.add_mul,Nat.add_assoc]
   . cases hs
 . cases hs
def vzm (I:List AV) (ti te:TI) (x y:Operand):Option AV:=
 match ti.sh,opd I x,opd I y with
 | .slice _ es eb ik,.one (.raw (.int _ n)),.one (.raw (.int _ m))=>
  if 0<=n/\n<=m/\(eb:Int)*m<=281474976710656/\m<=9223372036854775807 then match ik with
   | some k=>match te.zc with
    | [.raw (.int k' z)]=>if es=1/\k=k'/\z=0 then some (.arr [] (.ints k (List.replicate n.toNat 0)) none) else none
    | _=>none
   | none=>some (.arr [] (.sl es (List.replicate n.toNat te.zc)) none)
  else none
 | _,_,_=>none
theorem xbi (z:Array Value) (n:Nat):(madeCells z (n*z.size)).toList=(List.replicate n z.toList).flatten:=by
 induction n with
 | zero=>simp [madeCells]
 | succ n ih=>
  rw [List.replicate_succ',List.flatten_append,<-ih];simp only [madeCells,List.flatten_cons,List.flatten_nil,List.append_nil,Nat.succ_mul];apply List.ext_getElem
  . simp
  . intro i h1 h2;simp only [Array.toList_map,Array.toList_range,List.getElem_map,List.getElem_range];by_cases hi:i<n*z.size
    . rw [List.getElem_append_left (by simpa using hi)];simp
    . rw [List.getElem_append_right (by simpa using hi)];simp only [List.length_map,List.length_range,Array.getElem_toList]
      have hlt:i-n*z.size<z.size:=by simp at h1;omega
      have:i % z.size=i-n*z.size:=by
       rw [show i=(i-n*z.size)+z.size*n by rw [Nat.mul_comm z.size n];omega,Nat.add_mul_mod_self_left,Nat.mod_eq_of_lt hlt];rw [Nat.mul_comm z.size n];omega
      rw [this];rw [getElem!_pos z _ hlt]
theorem RdD.w1e {M:Nat->Nat->Prop} {w:World} {vs:List Value} {cs:List Cell} (h:RdD M w vs cs):∀ n:Nat,RdD M w (List.replicate n vs).flatten (List.replicate n cs).flatten
 | 0=>trivial
 | n+1=>by rw [List.replicate_succ,List.replicate_succ,List.flatten_cons,List.flatten_cons];exact h.append (h.w1e n)
theorem wjy {M:Nat->Nat->Prop} {w:World}:∀{l:List Value},(∀ v∈l,v.oneCell'=true)->RdD M w l (l.map wqc)
 | [],_=>trivial
 | v::l,h=>⟨yb5 (h v (by simp)),wjy (fun u hu=>h u (by simp [hu]))⟩
theorem yws {y:Operand} (ho:o.op=.makeSlice T x y) (hti:mkTI P T=some ti) (hte:∀ e es eb ik,ti.sh=.slice e es eb ik->mkTI P e=some te) (hb:vzm I ti te x y=some av)
 (h:val I o (orr x++orr y) av=some r):yh6 P o I r.1 [] r.2:=by
 obtain ⟨d,hdst,hn,rfl⟩:=xj7 h;have hok:=vnz hti;unfold vzm at hb;split at hb
 case h_2=>cases hb
 rename_i e es eb ik kx n ky m hsh hx hy;split at hb
 case isFalse=>cases hb
 rename_i hc;obtain ⟨h0,hnm,hby,h63⟩:=hc;obtain ⟨ds,i,z,hd,hi,hz,_,_,_,_,_,hsh'⟩:=hok.ex;obtain ⟨rfl,j,z',hj,hz',hjs,hjb,hes0,hzs,hik⟩:=wqb (hsh'.symm.trans hsh);obtain ⟨de,je,ze,hde,hje,hze,_,_,_,hone,hzce,_⟩:=(vnz (hte _ _ _ _ hsh)).ex;rw [hj] at hje;cases hje;rw [hz'] at hze;cases hze
 have key:∀ c:Cell,c.uni->c.cnt=n.toNat->c.esz=es->c.flat=(List.replicate n.toNat (z'.cells.toList.map wqc)).flatten->yh6 P o I (d::(orr x++orr y)) [] [(d,.arr [] c none)]:=fun c hu hcnt hesz hflat=>by
  refine yh6.new hdst (by simp) hn rfl rfl (fun E τ M I' a w hag hI=>?_);have sx:=hI.opd x;have sy:=hI.opd y;rw [hag.opd (fun t ht=>by simp [ht]),hx] at sx;rw [hag.opd (fun t ht=>by simp [ht]),hy] at sy;have ex:a.eval x=.int kx n:=RdC.zb6 sx;have ey:a.eval y=.int ky m:=RdC.zb6 sy;have hrun:=run_make (P:=P) w T e j z' hd hj hz' kx ky n m h0 hnm (by rw [hjb];exact hby) h63;refine ⟨.slice (some ⟨w.heap.size,0,none⟩) n.toNat m.toNat,.cells (madeCells z'.cells (m.toNat*j.size)) e,by simp [execOp,ho,ex,ey,hrun],rfl,?_,fun t ht=>ht.elim⟩
  have hcells:madeCells z'.cells (m.toNat*j.size)=([]++((List.replicate n.toNat z'.cells.toList).flatten++(List.replicate (m.toNat-n.toNat) z'.cells.toList).flatten)).toArray:=by
   rw [hjs,<-hzs,<-Array.toArray_toList (xs:=madeCells _ _),xbi,List.nil_append,<-List.flatten_append,List.replicate_append_replicate]
   congr 3;omega
  refine ⟨w.heap.size,e,(List.replicate n.toNat z'.cells.toList).flatten,(List.replicate (m.toNat-n.toNat) z'.cells.toList).flatten,m.toNat,by rw [hcnt];rfl,by rw [zuf,hcells],?_,(by intro p hp;cases hp),hu,by rw [hcnt];omega,?_⟩
  . rw [hflat];exact (wjy hone).w1e _
  . rw [hesz,w2q (m:=es) _ (fun r hr=>by rw [List.eq_of_mem_replicate hr];simpa using hzs),w2q (m:=es) _ (fun r hr=>by rw [List.eq_of_mem_replicate hr];simpa using hzs)];simp only [List.length_replicate,<-Nat.add_mul];exact Nat.mul_le_mul_right _ (by omega)
 split at hb
 . rename_i k _;split at hb
   . rename_i k' z0 hzc;split at hb
     . rename_i hc;obtain ⟨rfl,rfl,rfl⟩:=hc
       cases hb;refine key _ trivial (by simp [Cell.cnt]) rfl ?_;rw [<-hzce,hzc]
       have:∀(kk:IntKind) (n:Nat),(List.replicate n ([.raw (.int kk 0)]:List Cell)).flatten=List.replicate n (.raw (.int kk 0)):=fun kk n=>by
        induction n with
        | zero=>rfl
        | succ n ih=>rw [List.replicate_succ,List.flatten_cons,ih];rfl
       rw [this];simp [Cell.flat]
     . cases hb
   . cases hb
 . cases hb;refine key _ (fun r hr=>by rw [List.eq_of_mem_replicate hr,hzce];simpa using hzs) (by simp [Cell.cnt]) rfl ?_;rw [hzce];rfl
def wiu (place:Nat->Option (Nat×Nat)) (cs:List Cell):List (Nat×AV)->Option (List Cell)
 | []=>some cs
 | (i,av)::r=>match place i,zj8 av with
  | some (off,size),some us=>if us.length=size/\off+size<=cs.length then wiu place (cs.take off++us++cs.drop (off+size)) r else none
  | _,_=>none
def vn5 (I:List AV):List (Nat×Operand)->List (Nat×AV)
 | []=>[]
 | (i,x)::r=>(i,opd I x)::vn5 I r
def orrs:List (Nat×Operand)->List Nat
 | []=>[]
 | (_,x)::r=>orr x++orrs r
theorem z01 (off:Nat):∀(vs:List Value) (k:Nat) (cells:Array Value),off+k+vs.length<=cells.size->
 ((vs.zipIdx k).foldl (fun (cs:Array Value) (p:Value×Nat)=>cs.setIfInBounds (off+p.2) p.1) cells).toList=cells.toList.take (off+k)++vs++cells.toList.drop (off+k+vs.length)
 | [],k,cells,h=>by simp
 | v::vs,k,cells,h=>by
  simp only [List.zipIdx_cons,List.foldl_cons]
  have hlen:off+k<cells.size:=by simp at h;omega
  rw [z01 off vs (k+1) _ (by simp at h ⊢;omega)];simp only [Array.toList_setIfInBounds];rw [xwq _ _ _ (by simpa using hlen)]
  have h1:off+(k+1)=(cells.toList.take (off+k)++[v]).length:=by simp;omega
  rw [h1,List.take_left];have h2:(cells.toList.take (off+k)++[v]).length+vs.length=(cells.toList.take (off+k)++[v]).length+vs.length:=rfl;rw [List.drop_append];simp only [List.drop_drop]
  have h3:(cells.toList.take (off+k)++[v]).drop ((cells.toList.take (off+k)++[v]).length+vs.length)=[]:=by
   apply List.drop_eq_nil_of_le;omega
  rw [h3];simp only [List.nil_append,List.append_assoc,List.cons_append,List.length_cons]
  congr 3
  congr 1
  simp;omega
theorem y9v {E:Env} {τ:Nat->TV} {M:Nat->Nat->Prop} {I:List AV} {a:Act} {w:World} (hI:RelI E τ M I a w) (place:Nat->Option (Nat×Nat)):∀(ps:List (Nat×Operand)) (cells:Array Value) (cs cs':List Cell),
 RdL M w τ cells.toList cs->wiu place cs (vn5 I ps)=some cs'->∃ cells',Instr.fill place cells (ps.map fun p=>(p.1,a.eval p.2))=some cells'/\RdL M w τ cells'.toList cs'
 | [],cells,cs,cs',hr,h=>by
  simp only [vn5,wiu,Option.some.injEq] at h;subst h;exact ⟨cells,rfl,hr⟩
 | (i, x) :: ps, cells, cs, cs', hr, h => by
  simp only [vn5,wiu] at h;split at h
  . rename_i off size us hp hu;split at h
    . rename_i hc;obtain ⟨h1,h2⟩:=hc;have hv:=v3g hu (hI.opd x)
      have hvl:(a.eval x).cells.size=size:=by rw [<-h1,<-hv.length];simp
      have hcl:cells.size=cs.length:=by rw [<-hr.length];simp
      have hfold:((a.eval x).cells.zipIdx.foldl (fun cs (p:Value×Nat)=>cs.setIfInBounds (off+p.2) p.1) cells).toList=cells.toList.take off++(a.eval x).cells.toList++cells.toList.drop (off+size):=by
       have:=z01 off (a.eval x).cells.toList 0 cells (by simp [hvl];omega)
       rw [<-Array.foldl_toList];simpa [hvl] using this
      obtain ⟨cells',hf,hr'⟩:=y9v hI place ps ((a.eval x).cells.zipIdx.foldl (fun cs (p:Value×Nat)=>cs.setIfInBounds (off+p.2) p.1) cells) _ cs' (by
       rw [hfold]
       exact ((hr.take off).append hv).append (hr.drop _)) h
      refine ⟨cells',?_,hr'⟩;simp only [List.map_cons,Instr.fill,hp];rw [if_neg]
      . exact hf
      . simp only [hvl,ne_eq,not_true_eq_false,decide_false,Bool.false_or,decide_eq_true_eq];omega
    . cases h
  . cases h
theorem xs2 {place:Nat->Option (Nat×Nat)} {I:List AV} {t:Nat}:∀(ps:List (Nat×Operand)) (cs cs':List Cell),wiu place cs (vn5 I ps)=some cs'->vxx t cs'->vxx t cs\/live I t
 | [],cs,cs',h,ht=>by
  simp only [vn5,wiu,Option.some.injEq] at h;subst h;exact .inl ht
 | (i, x) :: ps, cs, cs', h, ht => by
  simp only [vn5,wiu] at h;split at h
  . rename_i off size us hp hu;split at h
    . rcases xs2 ps _ cs' h ht with h' | h'
      . rcases yzb h' with h' | h'
        . rcases yzb h' with h' | h'
          . exact .inl (vc9 h')
          . exact .inr (y1e (xni hu h'))
        . exact .inl (v6v h')
      . exact .inr h'
    . cases h
  . cases h
def placeOf (sh:Sh):Nat->Option (Nat×Nat):=match sh with
 | .struct fs=>fun i=>(fs[i]?).map fun f=>(f.1,f.2.1)
 | .array _ _ es=>fun i=>some (i*es,es)
 | _=>fun _=>none
def yzs (I:List AV) (ti:TI) (parts:List (Nat×Operand)):Option AV:=
 (wiu (placeOf ti.sh) ti.zc (vn5 I parts)).map .agg
theorem mapM_some {α β:Type} (f:α->Option β) (g:α->β):∀(l:List α),(∀ x∈l,f x=some (g x))->l.mapM f=some (l.map g)
 | [],_=>rfl
 | x::l,h=>by simp [List.mapM_cons,h x (by simp),mapM_some f g l (fun y hy=>h y (by simp [hy]))]
theorem xax {I I':List AV}:∀(ps:List (Nat×Operand)),(∀ x:Operand,(∀ t∈orr x,t∈orrs ps)->opd I' x=opd I x)->vn5 I' ps=vn5 I ps
 | [],_=>rfl
 | (i,x)::ps,h=>by
  simp only [vn5];rw [h x (fun t ht=>by simp [orrs,ht]),xax ps (fun y hy=>h y (fun t ht=>by simp [orrs,hy t ht]))]
theorem zii (ho:o.op=.build T parts.toArray) (hti:mkTI P T=some ti)
 (harr:∀ n e es,ti.sh=.array n e es->es≠0) (hb:yzs I ti parts=some av) (hagg:ti.sh.agg=true)
 (h:val I o (orrs parts) av=some r):yh6 P o I r.1 [] r.2:=by
 have hok:=vnz hti;obtain ⟨d,i,z,hd,hi,hz,hsz,_,hzs,hone,hzc,hsh⟩:=hok.ex;unfold yzs at hb;simp only [Option.map_eq_some_iff] at hb;obtain ⟨cs',hf,rfl⟩:=hb;refine yh6.pure h rfl rfl (fun E τ M I' a w hop hgt hI=>?_);have hav:vn5 I' parts=vn5 I parts:=xax parts hop
 have hz0:RdL M w τ z.cells.toList ti.zc:=by rw [hzc];exact zal hone
 obtain ⟨cells',hfill,hrd⟩:=y9v hI (placeOf ti.sh) parts z.cells ti.zc cs' hz0 (by rw [hav];exact hf)
 have hbuilt:P.built T (parts.map fun p=>(p.1,a.eval p.2))=some cells':=by
  unfold Program.built;rw [hi,hd];rw [hsh] at hagg
  rcases wdi hagg with ⟨fl,rfl⟩ | ⟨n,e,rfl⟩
  . have hst:∃ fs,ti.sh=.struct fs:=by
     rw [hsh];unfold shOf at hagg ⊢;dsimp only at hagg ⊢;split at hagg
     . exact ⟨_,by rename_i hc;rw [if_pos hc]⟩
     . cases hagg
    obtain ⟨fs,hfs⟩:=hst;obtain ⟨fl',e1,rfl,hne⟩:=zhd (hsh.symm.trans hfs)
    cases e1;have hpl:fl.toList.mapM (fun f=>(P.info? f.type).map fun i=>(f.offset,i.size))=some (fl.toList.map fun f=>(f.offset,P.cellsOf f.type)):=
     mapM_some _ _ _ (fun f hf=>by
      obtain ⟨j,hj,hjs⟩:=zbv (hne f hf)
      simp [hj,hjs])
    simp only [hz,hpl];rw [hfs] at hfill;rw [<-hfill]
    congr 1
    funext x
    simp [placeOf];rfl
  . have har:ti.sh=.array n e (P.cellsOf e):=hsh;obtain ⟨j,hj,hjs⟩:=zbv (harr _ _ _ har);simp only [hz,hj];rw [har] at hfill;rw [<-hfill,hjs];rfl
 refine ⟨.agg cells',?_,⟨cells'.toList,by simp,hrd⟩,fun t ht=>?_⟩
 . have hrun:=run_build (P:=P) w T (parts.map fun p=>(p.1,a.eval p.2)).toArray cells' (by simpa using hbuilt);simp only [execOp,ho]
   have he:(parts.toArray.map fun (p:Nat×Operand)=>(p.1,a.eval p.2))=(parts.map fun p=>(p.1,a.eval p.2)).toArray:=by simp
   have:(Array.map (fun x=>match x with | (i,x)=>(i,a.eval x)) parts.toArray)=(parts.map fun p=>(p.1,a.eval p.2)).toArray:=by rw [<-he]
   rw [this];simp [hrun]
 . rcases xs2 (I:=I') parts ti.zc cs' (by rw [hav];exact hf) ht with h' | h'
   . rw [hzc] at h';exact absurd h' (y72 _)
   . exact h'
def xdp (k:IntKind):List Cell->Option (List Int)
 | []=>some []
 | .raw (.int k' n)::r=>if k'=k then (xdp k r).map (n::·) else none
 | _::_=>none
def chunk (es:Nat):Nat->List Cell->List (List Cell)
 | 0,_=>[]
 | n+1,cs=>cs.take es::chunk es n (cs.drop es)
def v8c {α:Type} (l:List α):Nat->List α
 | 0=>[]
 | n+1=>l++v8c l n
def zi5 (I:List AV) (ti te:TI) (n:Nat) (parts:List (Nat×Operand)):Option AV:=
 match ti.sh with
 | .slice _ es _ ik=>
  if n*es<=16777216/\n≠0 then
   match wiu (fun i=>some (i*es,es)) (v8c te.zc n) (vn5 I parts) with
   | none=>none
   | some cs=>match ik with
    | some k=>if es=1 then (xdp k (zcr cs)).map fun l=>.one (.ints k l) else none
    | none=>some (.one (.sl es (chunk es n (zcr cs))))
  else none
 | _=>none
theorem zpu {M:Nat->Nat->Prop} {w:World} {τ:Nat->TV} {vs:List Value} {cs:List Cell} (h:RdL M w τ vs cs):∀ n,RdL M w τ (v8c vs n) (v8c cs n)
 | 0=>trivial
 | n+1=>h.append (zpu h n)
theorem y3g {α:Type} (l:List α):∀ n,(v8c l n).length=n*l.length
 | 0=>by simp [v8c]
 | n+1=>by simp [v8c,y3g l n,Nat.add_mul];omega
theorem vfz {α:Type} (l:List α):∀(n i:Nat),i<n*l.length->(v8c l n)[i]? = l[i % l.length]?
 | 0,i,h=>by simp at h
 | n+1,i,h=>by
  simp only [v8c];by_cases hi:i<l.length
  . rw [List.getElem?_append_left hi,Nat.mod_eq_of_lt hi]
  . rw [List.getElem?_append_right (by omega),vfz l n (i-l.length) (by rw [Nat.add_mul] at h;omega)]
    congr 1
    rw [<-Nat.mod_eq_sub_mod (by omega)]
theorem xe3 {M:Nat->Nat->Prop} {w:World} {k:IntKind}:∀{vs:List Value} {cs:List Cell} {l:List Int},RdD M w vs cs->xdp k cs=some l->vs=l.map (Value.int k)
 | [],[],l,_,h=>by simp [xdp] at h;simp [h]
 | v::vs,c::cs,l,hr,h=>by
  unfold xdp at h;split at h
  . rename_i heq;cases heq
  . rename_i k' n r heq;simp only [List.cons.injEq] at heq;obtain ⟨rfl,rfl⟩:=heq;split at h
    . rename_i hk;subst hk;simp only [Option.map_eq_some_iff] at h;obtain ⟨l',h1,rfl⟩:=h;rw [RdC.zb6 hr.1,xe3 hr.2 h1];rfl
    . cases h
  . cases h
theorem w0y (es:Nat):∀(n:Nat) (cs:List Cell),(chunk es n cs).length=n
 | 0,_=>rfl
 | n+1,cs=>by simp [chunk,w0y es n]
theorem ztr (es:Nat):∀(n:Nat) (cs:List Cell) (i:Nat) (h:i<(chunk es n cs).length),(chunk es n cs)[i]=(cs.drop (i*es)).take es
 | 0,cs,i,h=>by simp [chunk] at h
 | n+1,cs,0,h=>by simp [chunk]
 | n+1,cs,i+1,h=>by
  simp only [chunk,List.getElem_cons_succ];rw [ztr es n];rw [List.drop_drop,Nat.add_mul,Nat.one_mul,Nat.add_comm]
theorem y0w {b len:Nat} {vs:List Value} {cs:List Cell} {n:Nat} (hr:RdD M w vs cs) (hk:ya3 M M' w w') (hb:w'.heap[b]? = some (.cells vs.toArray T (0,0)))
 (hM:∀ o,¬M' b o) (hlen:cs.length=n*es) (hn:len=n) (hcap:len<=cap):RdC M' w' (.slice (some ⟨b,0,none⟩) len cap) (.sl es (chunk es n cs)):=by
 have hvl:vs.length=n*es:=by rw [hr.length,hlen]
 have hin:∀ i,i<n->∀ j,j<es->i*es+j<n*es:=fun i hi j hj=>by
  calc i*es+j<i*es+es:=by omega
   _=(i+1)*es:=by rw [Nat.add_mul,Nat.one_mul]
   _<=n*es:=Nat.mul_le_mul_right _ hi
 refine .sl b 0 (fun i j=>vs.getD (i*es+j) Go.undef) (by rw [w0y,hn]) hcap (fun _=>rfl) (fun r hr'=>?_) (fun i hi j hj=>?_) (fun i hi j hj=>?_)
 . obtain ⟨i,hi,rfl⟩:=List.getElem_of_mem hr';rw [ztr];rw [w0y] at hi;simp only [List.length_take,List.length_drop,hlen];have h1:(i+1)*es<=n*es:=Nat.mul_le_mul_right _ hi;rw [Nat.add_mul,Nat.one_mul] at h1;omega
 . rw [w0y] at hi
   have:=hin i hi j hj
   refine ⟨hM _,?_⟩;simp only [World.cell?,hb,Nat.zero_add];simp [hvl,this]
 . have hi':=hi;rw [w0y] at hi';simp only [ztr] at hj ⊢;simp only [List.length_take,List.length_drop,hlen] at hj;have hlt:=hin i hi' j (by omega)
   have gen:∀(vs:List Value) (cs:List Cell),RdD M w vs cs->∀ q (hq:q<cs.length),RdC M w (vs.getD q Go.undef) cs[q]:=by
    intro vs
    induction vs with
    | nil=>intro cs h q hq;cases cs with
     | nil=>simp at hq
     | cons _ _=>exact h.elim
    | cons v vs ih=>intro cs h q hq;cases cs with
     | nil=>exact h.elim
     | cons c cs=>cases q with
      | zero=>exact h.1
      | succ q=>simpa using ih cs h.2 q (by simpa using hq)
   have:=(gen vs cs hr (i*es+j) (by omega)).keep hk
   simpa using this
theorem vkx:∀ cs:List Cell,(zcr cs).length=cs.length
 | []=>rfl
 | c::cs=>by simp [zcr,vkx cs]
theorem w8b {place : Nat → Option (Nat × Nat)} : ∀ (ps : List (Nat × AV)) (cs cs' : List Cell), wiu place cs ps = some cs' → cs'.length = cs.length
 | [],cs,cs',h=>by simp only [wiu,Option.some.injEq] at h;rw [h]
 | (i, av) :: ps, cs, cs', h => by
  simp only [wiu] at h;split at h
  . rename_i off size us hp hu;split at h
    . rename_i hc;rw [w8b ps _ _ h];simp;omega
    . cases h
  . cases h
theorem zry {n:Nat} (ho:o.op=.buildSlice T n parts.toArray) (hti:mkTI P T=some ti)
 (hte:∀ e es eb ik,ti.sh=.slice e es eb ik->mkTI P e=some te) (hb:zi5 I ti te n parts=some av)
 (h:val I o (orrs parts) av=some r):yh6 P o I r.1 [] r.2:=by
 obtain ⟨d,hdst,hn,rfl⟩:=xj7 h;have hok:=vnz hti;obtain ⟨ds,i,z,hd,hi,hz,_,_,_,_,_,hsh'⟩:=hok.ex;unfold zi5 at hb;split at hb
 case h_2=>cases hb
 rename_i e es eb ik hsh;split at hb
 case isFalse=>cases hb
 rename_i hsmall;split at hb
 . cases hb
 rename_i cs hfill;obtain ⟨rfl,j,z',hj,hz',hjs,hjb,hes0,hzs,hik⟩:=wqb (hsh'.symm.trans hsh);obtain ⟨de,je,ze,hde,hje,hze,_,_,_,hone,hzce,_⟩:=(vnz (hte _ _ _ _ hsh)).ex;rw [hj] at hje;cases hje;rw [hz'] at hze;cases hze
 have hnh:av.vy8=false/\av.rf=none/\∀ t,¬av.vjg t:=by
  repeat' split at hb
  all_goals first
   | (simp only [Option.map_eq_some_iff] at hb;obtain ⟨_,_,rfl⟩:=hb;exact ⟨rfl,rfl,fun t h=>h⟩)
   | (cases hb;exact ⟨rfl,rfl,fun t h=>h⟩)
   | cases hb
 refine yh6.val hdst (by simp) hn hnh.1 (fun E τ M I' a w hag hI=>?_);have hav:vn5 I' parts=vn5 I parts:=xax parts (fun x hx=>hag.opd (fun t ht=>by simp [hx t ht]));have hz0:RdL M w τ (v8c z'.cells.toList n) (v8c te.zc n):=zpu (by rw [hzce];exact zal hone) n
 have hinit:(Array.range (n*es)).map (z'.cells[· % z'.cells.size]!)=(v8c z'.cells.toList n).toArray:=by
  apply Array.ext
  . simp [y3g,hzs]
  . intro q h1 h2;simp only [Array.size_map,Array.size_range] at h1;have hq:=vfz z'.cells.toList n q (by simpa [hzs] using h1);have hlt:q % z'.cells.size<z'.cells.size:=Nat.mod_lt _ (by rw [hzs];omega);simp only [Array.getElem_map,Array.getElem_range,List.getElem_toArray];simp only [Array.length_toList,Array.getElem?_toList] at hq;rw [Array.getElem?_eq_getElem hlt,List.getElem?_eq_getElem (by simpa using h2)] at hq;simp at hq;rw [hq];simp [hlt]
 obtain ⟨cells',hf,hrd⟩:=y9v hI (fun i=>some (i*es,es)) parts (v8c z'.cells.toList n).toArray _ cs (by simpa using hz0) (by rw [hav];exact hfill)
 have hrun:(execOp a.eval o).run P w=.ok (.value (.slice (some ⟨w.heap.size,0,none⟩) n n)) (w.alloc (.cells cells' e)):=by
  have hpe:(Array.map (fun x=>match x with | (i,x)=>(i,a.eval x)) parts.toArray).toList=parts.map fun p=>(p.1,a.eval p.2):=by simp
  have h24:¬(16777216<n*es):=by omega
  have hne:¬(n*es=0):=by
   intro h0
   rcases Nat.mul_eq_zero.1 h0 with h0 | h0
   . exact hsmall.2 h0
   . exact hes0 h0
  simp only [execOp,ho,Instr.buildSlice,Sem.run_bind,voj hd,Result.andThen_ok,xvp hj,hjs];rw [if_neg (by simpa using h24),if_neg hne];simp only [Sem.run_bind,xt1 hj hz',Result.andThen_ok,Sem.run_pure,hinit];rw [hpe,hf];simp [newRow]
 have hk:ya3 M M w (w.alloc (.cells cells' e)):=ya3.below ((Below.refl _ _).alloc (Nat.le_refl _) _)
 have hM:∀ o,¬M w.heap.size o:=fun o hm=>by have:=hI.mb _ _ hm;omega
 have hheap:(w.alloc (.cells cells' e)).heap[w.heap.size]? = some (.cells cells'.toList.toArray e (0,0)):=by rw [Array.toArray_toList];exact zuf w _
 have hcl:(zcr cs).length=n*es:=by
  rw [vkx,w8b _ _ _ hfill,y3g,hzce];simp [hzs]
 refine ⟨_,_,hrun,(Below.refl _ _).alloc (Nat.le_refl _) _,?_,fun t ht=>absurd ht (hnh.2.2 t),fun s b hr=>by rw [hnh.2.1] at hr;cases hr⟩;split at hb
 . rename_i k;split at hb
   . rename_i he1;subst he1;simp only [Option.map_eq_some_iff] at hb;obtain ⟨l,hl,rfl⟩:=hb;have hvs:=xe3 hrd.bare hl
     have hll:l.length=n:=by
      have h1:=congrArg List.length hvs;have h2:=hrd.bare.length;simp only [List.length_map] at h1;omega
     refine RdC.ints w.heap.size 0 hll.symm (Nat.le_refl _) (fun _=>rfl) (fun q hq=>⟨hM _,?_⟩);rw [hvs] at hheap;simp only [World.cell?,hheap,Nat.zero_add];simp [hq]
   . cases hb
 . cases hb;exact y0w (n:=n) hrd.bare hk hheap hM hcl rfl (Nat.le_refl _)
def xd4 (ti:TI) (parts:List (Nat×Operand)):Option AV:=match ti.sh,parts with
 | .slice _ _ _ _,[]=>some (.one .zc)
 | _,_=>none
theorem wdl {n:Nat} (ho:o.op=.buildSlice T n parts.toArray) (hn0:n=0) (hti:mkTI P T=some ti) (hb:xd4 ti parts=some av)
 (h:val I o [] av=some r):yh6 P o I r.1 [] r.2:=by
 obtain ⟨d,hdst,hn,rfl⟩:=xj7 h;obtain ⟨ds,i,z,hd,hi,hz,_,_,_,_,_,hsh'⟩:=(vnz hti).ex;unfold xd4 at hb;split at hb
 case h_2=>cases hb
 rename_i e es eb ik hsh
 cases hb;obtain ⟨rfl,j,z',hj,hz',hjs,hjb,hes0,hzs,hik⟩:=wqb (hsh'.symm.trans hsh);refine yh6.val hdst (by simp) hn rfl (fun E τ M I' a w hag hI=>?_)
 have hrun:(execOp a.eval o).run P w=.ok (.value (.slice (some ⟨w.heap.size,0,none⟩) 0 0)) (w.alloc (.cells #[] e)):=by
  simp [execOp,ho,Instr.buildSlice,voj hd,xvp hj,hn0,Instr.fill,newRow]
  congr 2
  exact Array.ext (by simp) (fun q h1 h2=>absurd h2 (Nat.not_lt_zero q))
 exact ⟨_,_,hrun,(Below.refl _ _).alloc (Nat.le_refl _) _,RdC.zc,fun t ht=>ht.elim,fun s b hr=>by cases hr⟩
section
variable {E:Env} {τ:Nat->TV} {M:Nat->Nat->Prop} {I:List AV} {a:Act}
theorem RelI.grow (h:RelI E τ M I a w) {d:Nat} {old:AV} (hd:I[d]? = some old) (hnh:old.vy8=false) (hnl:¬live I d)
 (hk:ya3 M M' w w') (hm0:∀ b o,E.M b o->M' b o) (hmb:∀ b o,M' b o->b<w'.heap.size) (hsize:w.heap.size<=w'.heap.size) (hos:w'.os=w.os) (htape:w'.tape=w.tape) (hout:w'.output=w.output)
 (hfr:∀ k,k<E.N->w'.heap[k]? = w.heap[k]?)
 (hhold:∀ i av,I[i]? = some av->av.vy8=true->w'.heap[blk (a.tmps.getD i Go.undef)]? = w.heap[blk (a.tmps.getD i Go.undef)]?/\∀ o,M' (blk (a.tmps.getD i Go.undef)) o)
 (htoks:∀ t,live I t->xec E M' w' (τ t)) (v:Value) (c:Cell) (hv:xec E M' w' ⟨v,c.esz⟩) (hvh:∀ i av,I[i]? = some av->av.vy8=true->tokB v≠some (blk (a.tmps.getD i Go.undef)))
 (hvt:∀ t g,live I t->tokB (τ t).v=some g->tokB v≠some g) (hr:RdC M' w' v c) :
 RelI E (fun t=>if t=d then ⟨v,c.esz⟩ else τ t) M' (I.set d (.one (.tok d c))) (a.put (some d) v) w':=by
 have hlt:d<a.tmps.size:=h.lt hd
 have hns:∀(s:Nat) (b:Bool) (hv:AV),I[s]? = some hv->hv.fits b=true->d≠s:=fun s b hv hs hf e=>by
  subst e;rw [hd] at hs;cases hs;have:=AV.wht hf;rw [hnh] at this;cases this
 have hself:(a.tmps.setIfInBounds d v).getD d Go.undef=v:=by simp [hlt]
 have hne:∀ t,live I t->(if t=d then (⟨v,c.esz⟩:TV) else τ t)=τ t:=fun t ht=>if_neg (fun e=>hnl (by rw [<-e];exact ht))
 have hlive:∀ t,live (I.set d (.one (.tok d c))) t->t=d\/(t≠d/\live I t):=fun t ⟨i,x,hi,hx⟩=>by
  rcases getElem?_set_cases hi with ⟨_,rfl⟩ | ⟨_,hi⟩
  . rcases hx with hx | hx
    . exact .inl hx.symm
    . have:∀ c:Cell,RdC M' w' v c->¬c.vjg t:=fun c hc ht=>by
       cases c with
       | tok _ _=>exact hc.z3m
       | _=>exact ht
      exact absurd hx (this c hr)
  . by_cases e:t=d
    . exact .inl e
    . exact .inr ⟨e,i,x,hi,hx⟩
 refine RelI.mk h.hd (by simpa [Act.put] using h.hs) ?_ hm0 hmb ?_ ?_ ?_ ?_ ?_ ?_ (Nat.le_trans h.size hsize) (hos.trans h.os) (htape.trans h.tape) (hout.trans h.output) (fun k hk' hx=>(hfr k hk').trans (h.frame k hk' hx))
 . intro i x hi;show vi6 M' w' _ (a.tmps.setIfInBounds d v) ((a.tmps.setIfInBounds d v).getD i Go.undef) x
   rcases getElem?_set_cases hi with ⟨rfl,rfl⟩ | ⟨hne',hi⟩
   . rw [hself];exact ⟨⟨by simp,by simp⟩,hr⟩
   . rw [getD_set_ne (Ne.symm hne')];exact (h.slot i x hi).keep hk (fun t ht=>hne t ⟨i,x,hi,ht⟩) (fun s b hr=>by obtain ⟨hv,h1,h2⟩:=h.refs i x s b hi hr;exact getD_set_ne (hns s b hv h1 h2) v) (fun hh=>(hhold i x hi hh).1)
 . intro i x hi hh;show (∀ o',M' (blk ((a.tmps.setIfInBounds d v).getD i Go.undef)) o')/\(_<=blk ((a.tmps.setIfInBounds d v).getD i Go.undef)\/E.X (blk ((a.tmps.setIfInBounds d v).getD i Go.undef)))/\(_->_<=blk ((a.tmps.setIfInBounds d v).getD i Go.undef))/\(_->(a.tmps.setIfInBounds d v).getD i Go.undef=_)
   rcases getElem?_set_cases hi with ⟨rfl,rfl⟩ | ⟨hne',hi⟩
   . cases hh
   . rw [getD_set_ne (Ne.symm hne')];exact ⟨(hhold i x hi hh).2,(h.hold i x hi hh).2⟩
 . intro i j x y hi hj hx hy;show blk ((a.tmps.setIfInBounds d v).getD i Go.undef)=blk ((a.tmps.setIfInBounds d v).getD j Go.undef)->_
   rcases getElem?_set_cases hi with ⟨rfl,rfl⟩ | ⟨hne1,hi'⟩
   . cases hx
   . rcases getElem?_set_cases hj with ⟨rfl,rfl⟩ | ⟨hne2,hj'⟩
     . cases hy
     . rw [getD_set_ne (Ne.symm hne1),getD_set_ne (Ne.symm hne2)];exact h.inj i j x y hi' hj' hx hy
 . intro i x s b hi hr'
   have:∃ hv:AV,I[s]? = some hv/\hv.fits b=true:=by
    rcases getElem?_set_cases hi with ⟨rfl,rfl⟩ | ⟨hne',hi⟩
    . cases hr'
    . exact h.refs i x s b hi hr'
   obtain ⟨hv,h1,h2⟩:=this;exact ⟨hv,by rw [List.getElem?_set_ne (hns s b hv h1 h2)];exact h1,h2⟩
 . intro t ht
   rcases hlive t ht with rfl | ⟨hne',hl⟩
   . simpa using hv
   . rw [hne t hl];exact htoks t hl
 . intro t t' g ht ht' htt hg
   rcases hlive t ht with rfl | ⟨hne1,hl⟩
   . rcases hlive t' ht' with rfl | ⟨hne2,hl'⟩
     . exact absurd rfl htt
     . rw [hne t' hl'];simp only [if_true] at hg
       exact fun hg'=>hvt t' g hl' hg' hg
   . rw [hne t hl] at hg
     rcases hlive t' ht' with rfl | ⟨hne2,hl'⟩
     . simp only [if_true];exact hvt t g hl hg
     . rw [hne t' hl'];exact h.tinj t t' g hl hl' htt hg
 . intro t i x ht hi hx;show _≠some (blk ((a.tmps.setIfInBounds d v).getD i Go.undef))
   rcases getElem?_set_cases hi with ⟨rfl,rfl⟩ | ⟨hne',hi'⟩
   . cases hx
   . rw [getD_set_ne (Ne.symm hne')]
     rcases hlive t ht with rfl | ⟨hne1,hl⟩
     . simp only [if_true];exact hvh i x hi' hx
     . rw [hne t hl];exact h.tbox t i x hl hi' hx
end
structure Grew (E:Env) (M:Nat->Nat->Prop) (w w':World) (M':Nat->Nat->Prop) (v v':Value) (es n:Nat) (all:List Value):Prop where
 keeps:ya3 M M' w w'
 size:w.heap.size<=w'.heap.size
 os:w'.os=w.os
 tape:w'.tape=w.tape
 output:w'.output=w.output
 block:∀ k,k<w.heap.size->tokB v≠some k->w'.heap[k]? = w.heap[k]?
 mem:∀ b o,M b o->tokB v≠some b->M' b o
 mb:∀ b o,M' b o->b<w'.heap.size
 tok:xec E M' w' ⟨v',es⟩
 blk':∀ g,tokB v'=some g->tokB v=some g\/w.heap.size<=g
 cells:all=[]\/∃ g cap,v'=.slice (some ⟨g,0,none⟩) n cap/\n<=cap/\∀ j u,all[j]? = some u->¬M' g j/\w'.cell? ⟨g,j,none⟩=some u
 len:∃ ad cap,v'=.slice ad n cap/\n<=cap
theorem xd9 (hN:E.N<=w.heap.size) (hmb:∀ b o,M b o->b<w.heap.size) (v:Value) (e:TypeId) (es n cap:Nat) (all:List Value) (rest:Array Value)
 (_hes:0<es) (hall:all.length=n*es) (hcap:n<=cap) (hcm:cap<=maxLen) (hrest:rest.size=(cap-n)*es) :
 Grew E M w (w.drew.alloc (.cells (all.toArray++rest) e)) (fun b o=>M b o\/(b=w.heap.size/\n*es<=o)) v (.slice (some ⟨w.heap.size,0,none⟩) n cap) es n all:=by
 have hb:Below w.heap.size w (w.drew.alloc (.cells (all.toArray++rest) e)):=((Below.refl _ _).drew).alloc (Nat.le_refl _) _;have hheap:(w.drew.alloc (.cells (all.toArray++rest) e)).heap[w.heap.size]? = some (.cells (all.toArray++rest) e (0,0)):=zuf w.drew _;refine { keeps:=?_,size:=hb.size,os:=rfl,tape:=rfl,output:=rfl,block:=fun k hk _=>hb.block k hk,mem:=fun b o hm _=>.inl hm,mb:=?_,tok:=?_,blk':=?_,cells:=?_,len:=⟨_,_,rfl,hcap⟩ }
 . intro b o u hm hc;have hl:=World.block_lt_of_cell? w _ hc;exact ⟨fun hh=>hh.elim hm (fun hh=>by have:=hh.1;simp only at hl;omega),(ya3.below hb b o u hm hc).2⟩
 . rintro b o (hm | ⟨rfl,_⟩)
   . exact Nat.lt_of_lt_of_le (hmb b o hm) hb.size
   . simp
 . refine .inr ⟨e,n,all,⟨hall,.inr ⟨w.heap.size,cap,_,rfl,hN,hheap,hcap,hcm,?_,?_⟩⟩,fun g hg o ho=>?_⟩
   . simp only [Array.size_append,List.size_toArray,hall,hrest,<-Nat.add_mul]
     congr 1;omega
   . simp [<-hall]
   . simp [Value.ownBlock] at hg;exact .inr ⟨hg.symm,ho⟩
 . intro g hg
   cases cap with
   | zero=>simp [tokB] at hg
   | succ cap=>simp [tokB] at hg;exact .inr (by omega)
 . by_cases h0:all=[]
   . exact .inl h0
   . refine .inr ⟨w.heap.size,cap,rfl,hcap,fun j u hj=>⟨?_,?_⟩⟩
     . have hjl:j<all.length:=(List.getElem?_eq_some_iff.1 hj).1;rintro (hm | ⟨_,ho⟩)
       . have:=hmb _ _ hm;omega
       . omega
     . simp only [World.cell?,hheap];have hjl:j<all.length:=(List.getElem?_eq_some_iff.1 hj).1;simp [Array.getElem?_append,hjl];simpa [hjl] using hj
theorem zl6 {e:TypeId} (ht:P.underlying T=some (.slice e)) (hi:P.info? e=some i) (w:World) (ty:TypeId)
 (g Tb n cap:Nat) (cur:Array Value) (hg:w.heap[g]? = some (.cells cur Tb (0,0))) (m:Nat) (y:Value) (news:List Value) (hyv:∃ ad c,y=.slice ad m c) (_hl:news.length=m*i.size)
 (hf:(Builtin.firstCells i.size m y).run P w=.ok news.toArray w) (h1:∀ u∈news,u.oneCell'=true)
 (hroom:n+m<=cap) (hfit:n*i.size+news.length<=cur.size) :
 (Builtin.append_ #[T,T] ty #[.slice (some ⟨g,0,none⟩) n cap,y]).run P w =
   .ok (.slice (some ⟨g,0,none⟩) (n+m) cap) (w.setRow g (cur.toList.take (n*i.size)++news++cur.toList.drop (n*i.size+news.length)).toArray):=by
 obtain ⟨ad,c,rfl⟩:=hyv;have hst:=run_storeCells_at P g (n*i.size) Tb news 0 cur w hg (by simpa using hfit) h1;simp only [Nat.add_zero] at hst;simp [Builtin.append_,run_underlying ht,sizeOf,typeInfo,hi,Builtin.lenOf,hroom,hf,Addr.add_lit,hst]
theorem vfb (w:World) (m:Nat) (y:Value) (news:List Value) (hy:∃ ad cap,y=.slice ad m cap) (hnl:news.length=m*i.size)
 (hnews:news=[]\/∃ b off cap,y=.slice (some ⟨b,off,none⟩) m cap/\∀ j u,news[j]? = some u->w.cell? ⟨b,off+j,none⟩=some u) :
 (Builtin.firstCells i.size m y).run P w=.ok news.toArray w:=by
 rcases hnews with rfl | ⟨b,off,cap,rfl,hc⟩
 . obtain ⟨ad,cap,rfl⟩:=hy
   cases ad with
   | none=>simp [Builtin.firstCells]
   | some b=>
    simp only [List.length_nil] at hnl;simp [Builtin.firstCells,<-hnl,loadCells,loadCellsFrom]
 . exact run_firstCells_some w i.size m _ m cap news hnl (fun j v hj=>by rw [v1c];exact hc j v hj)
theorem vik (hmb:∀ b o,M b o->b<w.heap.size) {g Tb n:Nat} {cur:Array Value} (hbg:E.N<=g)
 (hg:w.heap[g]? = some (.cells cur Tb (0,0))) (hMg:∀ o,n*es<=o->M g o) (hxs:xs.length=n*es) (hxs':∀(j:Nat) (u:Value),xs[j]? = some u->cur[j]? = some u) (hnl:news.length=m*es) (hcs:cur.size=cap*es)
 (hroom:n+m<=cap) (hcap0:cap≠0) (hcm:cap<=maxLen) :
 Grew E M w (w.setRow g (cur.toList.take (n*es)++news++cur.toList.drop (n*es+news.length)).toArray) (fun b o=>M b o/\¬(b=g/\o<(n+m)*es)) (.slice (some ⟨g,0,none⟩) n cap)
  (.slice (some ⟨g,0,none⟩) (n+m) cap) es (n+m) (xs++news):=by
 have hall:(xs++news).length=(n+m)*es:=by rw [List.length_append,hxs,hnl,Nat.add_mul]
 have hfit:n*es+news.length<=cur.size:=by rw [hnl,hcs,<-Nat.add_mul];exact Nat.mul_le_mul_right _ hroom
 obtain ⟨cap,rfl⟩:∃ c,cap=c+1:=⟨cap-1,by omega⟩;generalize hnew:(cur.toList.take (n*es)++news++cur.toList.drop (n*es+news.length)).toArray=new;have hheap:(w.setRow g new).heap[g]? = some (.cells new Tb (0,0)):=setRow_heap w g cur new Tb (0,0) hg
 have hget1:∀ j,j<n*es->new[j]? = cur[j]?:=fun j hj=>by
  rw [<-hnew];simp only [List.getElem?_toArray,List.append_assoc];rw [List.getElem?_append_left (by simp;omega),List.getElem?_take,if_pos hj];simp
 have hsize:new.size=(cap+1)*es:=by
  rw [<-hnew];simp only [List.size_toArray,List.length_append,List.length_take,List.length_drop,Array.length_toList];omega
 have hget2:∀ j,j<news.length->new[n*es+j]? = news[j]?:=fun j hj=>by
  rw [<-hnew];simp only [List.getElem?_toArray,List.append_assoc];rw [List.getElem?_append_right (by simp;omega)]
  have e1:n*es+j-(List.take (n*es) cur.toList).length=j:=by
   simp only [List.length_take,Array.length_toList];omega
  rw [e1,List.getElem?_append_left hj]
 have hcells:∀(j:Nat) (u:Value),(xs++news)[j]? = some u->new[j]? = some u:=fun j u hj=>by
  by_cases hjx:j<xs.length
  . rw [hget1 j (by omega)];rw [List.getElem?_append_left hjx] at hj;exact hxs' j u hj
  . have hjl:=(List.getElem?_eq_some_iff.1 hj).1;rw [List.getElem?_append_right (by omega)] at hj
    have:=hget2 (j-xs.length) (by simp at hjl;omega)
    rw [hj] at this
    rwa [show n*es+(j-xs.length)=j by omega] at this
 refine { keeps := ?_, size := by simp, os := rfl, tape := rfl, output := rfl, block := fun k _ hk => setRow_other w g k _ (fun e' => hk (by simp [tokB, e'])), mem := fun b o hm hb => ⟨hm, fun h => hb (by rw [h.1]; rfl)⟩, mb := fun b o h => by simpa using hmb b o h.1,
          tok:=?_,blk':=fun g' hg'=>.inl (by simpa [tokB] using hg'),cells:=.inr ⟨g,cap+1,rfl,hroom,fun j u hj=>?_⟩,len:=⟨_,_,rfl,hroom⟩ }
 . intro b o u hm hc;refine ⟨fun h=>hm h.1,?_⟩;by_cases hbg':b=g
   . subst hbg';have ho:o<n*es:=Nat.lt_of_not_le (fun h=>hm (hMg o h));simp only [World.cell?,hheap];simp only [World.cell?,hg] at hc;rw [hget1 o ho];exact hc
   . rw [cell_setRow_other _ _ _ _ hbg'];exact hc
 . refine .inr ⟨Tb,n+m,xs++news,⟨hall,.inr ⟨g,cap+1,new,rfl,hbg,hheap,hroom,hcm,hsize,?_⟩⟩,fun g' hg' o ho=>?_⟩
   . apply List.ext_getElem?;intro j;rw [List.getElem?_take];by_cases hj:j<(n+m)*es
     . rw [if_pos hj]
       have hjx:j<(xs++news).length:=by omega
       rw [Array.getElem?_toList,hcells j _ (List.getElem?_eq_getElem hjx),List.getElem?_eq_getElem hjx]
     . rw [if_neg hj,List.getElem?_eq_none (by omega)]
   . simp [Value.ownBlock] at hg';subst hg';have ho2:(n+m)*es<=o:=ho;refine ⟨hMg o ?_,fun h=>by omega⟩;have ho:(n+m)*es<=o:=ho;rw [Nat.add_mul] at ho;omega
 . have hjl:j<(xs++news).length:=(List.getElem?_eq_some_iff.1 hj).1;rw [hall] at hjl;refine ⟨fun h=>h.2 ⟨rfl,hjl⟩,?_⟩;simp only [World.cell?,hheap];exact hcells j u hj
theorem vky {e:TypeId} {z:Value} (ht:P.underlying T=some (.slice e)) (hi:P.info? e=some i) (hz:i.zero=some z) (hsz:i.size=es) (hby:i.bytes=eb) (hzs:z.cells.size=es) (hes:0<es)
 (hN:E.N<=w.heap.size) (hmb:∀ b o,M b o->b<w.heap.size) (ty:TypeId) {v:Value} (hv:xec E M w ⟨v,es⟩) {n:Nat} (hlen:∃ ad cap,v=.slice ad n cap)
 (hxs:xs.length=n*es) (hx:xs=[]\/∃ g cap,v=.slice (some ⟨g,0,none⟩) n cap/\∀ j u,xs[j]? = some u->¬M g j/\w.cell? ⟨g,j,none⟩=some u)
 (hy:∃ ad cap,y=.slice ad m cap) (hnl:news.length=m*es) (hn1:∀ u∈news,u.oneCell'=true)
 (hnews:news=[]\/∃ b off cap,y=.slice (some ⟨b,off,none⟩) m cap/\∀ j u,news[j]? = some u->¬M b (off+j)/\w.cell? ⟨b,off+j,none⟩=some u)
 (hbound:(n+m)*eb<=140737488355328) (h63:n+m<=9223372036854775807) :
 ∃ v' w' M',(Builtin.append_ #[T,T] ty #[v,y]).run P w=.ok v' w'/\Grew E M w w' M' v v' es (n+m) (xs++news):=by
 subst hsz;subst hby
 have hall:(xs++news).length=(n+m)*i.size:=by rw [List.length_append,hxs,hnl,Nat.add_mul]
 have hf:(Builtin.firstCells i.size m y).run P w=.ok news.toArray w:=vfb w m y news hy hnl (hnews.imp id fun ⟨b,off,cap,e,h⟩=>⟨b,off,cap,e,fun j u hj=>(h j u hj).2⟩);have hfd:(Builtin.firstCells i.size m y).run P w.drew=.ok news.toArray w.drew:=vfb w.drew m y news hy hnl (hnews.imp id fun ⟨b,off,cap,e,h⟩=>⟨b,off,cap,e,fun j u hj=>(h j u hj).2⟩);obtain ⟨ad0,cap0,hv0⟩:=hlen;have hfo:(Builtin.firstCells i.size n v).run P w.drew=.ok xs.toArray w.drew:=vfb w.drew n v xs ⟨_,_,hv0⟩ hxs (hx.imp id fun ⟨g,cap,e,h⟩=>⟨g,0,cap,e,fun j u hj=>by rw [Nat.zero_add];exact (h j u hj).2⟩);obtain ⟨yad,ycap,rfl⟩:=hy;have growth:∀ old,v=.slice ad0 n old->old<n+m->
  ∃ v' w' M',(Builtin.append_ #[T,T] ty #[v,.slice yad m ycap]).run P w=.ok v' w'/\Grew E M w w' M' v v' i.size (n+m) (xs++news):=fun old hvo ho=>by
  have hge:=grownCap_ge w (n+m) old e;have hcm:grownCap w (n+m) old e<=maxLen:=grownCap_le_maxLen w (n+m) old e (by unfold maxLen;omega);refine ⟨.slice (some ⟨w.heap.size,0,none⟩) (n+m) (grownCap w (n+m) old e),_,_,?_,xd9 hN hmb v e i.size (n+m) (grownCap w (n+m) old e) (xs++news) (Builtin.zeroCells z.cells (grownCap w (n+m) old e-(n+m))) hes hall hge hcm (by rw [size_zeroCells,hzs])⟩
  have hn:¬(n+m<=old):=by omega
  have h63':¬(9223372036854775807<((n:Int)+(m:Int))):=by omega
  have hfit:=growslice_fits (need:=n+m) (old:=old) (bytes:=i.bytes) ho hbound
  have h48':¬(281474976710656<Builtin.nextslicecap (n+m) old*i.bytes):=by omega
  rw [hvo] at hfo ⊢;simp [Builtin.append_,run_underlying ht,sizeOf,typeInfo,zeroValue,hi,hz,Builtin.lenOf,hn,h63',h48',Question.forced,hfd,hfo,newRow,grownCap]
  congr 2
  apply Array.ext';simp [List.append_assoc]
 by_cases hzero:∃ ad,v=.slice ad 0 0
 ·
  obtain ⟨ad,hva⟩:=hzero
  have hn00:n=0:=by rw [hva] at hv0;cases hv0;rfl
  subst hn00;by_cases hm:m=0
  . subst hm;have hx0:xs=[]:=List.eq_nil_of_length_eq_zero (by simpa using hxs);have hn0:news=[]:=List.eq_nil_of_length_eq_zero (by simpa using hnl);subst hx0;subst hn0;refine ⟨.slice ad 0 0,w,M,?_,?_⟩
    . rw [hva]
      cases ad with
      | none=>simp [Builtin.append_,run_underlying ht,sizeOf,typeInfo,hi,Builtin.lenOf,hf]
      | some b=>simp [Builtin.append_,run_underlying ht,sizeOf,typeInfo,hi,Builtin.lenOf,hf,storeCells]
    . exact { keeps := fun _ _ _ h1 h2 => ⟨h1, h2⟩, size := Nat.le_refl _, os := rfl, tape := rfl, output := rfl, block := fun _ _ _ => rfl, mem := fun _ _ h _ => h, mb := hmb, tok := .inl ⟨ad, rfl⟩,
              blk':=fun g hg=>by cases ad<;>simp [tokB] at hg,cells:=.inl rfl,len:=⟨_,_,rfl,Nat.le_refl _⟩ }
  . have:ad0=ad:=by rw [hva] at hv0;cases hv0;rfl
    exact growth 0 (by rw [this];exact hva) (by omega)
 . rcases hv with hv | ⟨Tb,n',xs',hown,hMg⟩
   . exact absurd hv hzero
   have hown:w.ownsRow E.N Tb i.size v n' xs':=hown;have hMg:∀ g,v.ownBlock=some g->∀ o,n'*i.size<=o->M g o:=hMg
   rcases hown.2 with ⟨hva,hn'⟩ | ⟨g,cap,cur,hva,hbg,hg,hnc,hcm,hcs,htake⟩
   . exact absurd ⟨none,hva⟩ hzero
   . have hnn:n'=n:=by rw [hva] at hv0;cases hv0;rfl
     subst hnn
     have had:ad0=some ⟨g,0,none⟩:=by rw [hva] at hv0;cases hv0;rfl
     by_cases hroom:n'+m<=cap
     . have hfit:n'*i.size+news.length<=cur.size:=by rw [hnl,hcs,<-Nat.add_mul];exact Nat.mul_le_mul_right _ hroom
       have hrun:=zl6 (P:=P) ht hi w ty g Tb n' cap cur hg m _ news ⟨_,_,rfl⟩ hnl hf hn1 hroom hfit
       have hcap0:cap≠0:=fun h0=>hzero ⟨_,by rw [hva,h0,show n'=0 by omega]⟩
       have hxs':∀(j:Nat) (u:Value),xs[j]? = some u->cur[j]? = some u:=fun j u hj=>by
        rcases hx with rfl | ⟨g',cap',e1,hc⟩
        . simp at hj
        . rw [hva] at e1
          cases e1
          have:=(hc j u hj).2
          simpa [World.cell?,hg] using this
       have hgrew:=vik (E:=E) hmb hbg hg (hMg g (by rw [hva];rfl)) hxs hxs' hnl hcs hroom hcap0 hcm;rw [hva];exact ⟨_,_,_,hrun,hgrew⟩
     . exact growth cap (by rw [had];exact hva) (by omega)
end Go.Slot
