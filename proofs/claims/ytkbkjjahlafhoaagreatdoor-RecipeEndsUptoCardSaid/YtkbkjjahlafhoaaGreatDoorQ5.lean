/- The proof, part Q5: Hb, Hc, Hd. -/
import Derived.Test.YtkbkjjahlafhoaaGreatDoorQ4
namespace Go.Hp
open Go Go.RowKit Go.Slot
variable {J:List SV} {P:Program} {w w':World}
structure HEnv where
 w0:World
 Mo:Nat->Nat->Prop
 ρ0:Nat->Value
 η0:List SB
 ds:List Deferred
def gtS (J:List SV) (i:Nat):SV:=(J[i]?).getD .any
def gB (η:List SB) (b:Nat):SB:=(η[b]?).getD .dead
structure RI (Γ:List (Nat×List Cell)) (E:HEnv) (ρ:Nat->Value) (J:List SV) (η:List SB) (a:Act) (w:World):Prop where
 hd:a.defers=E.ds
 hs:a.tmps.size=J.length
 slot:∀(i:Nat) (x:SV),J[i]? = some x->SVR η ρ (MX E.Mo ρ η) w (a.tmps.getD i Go.undef) x
 went:Went Γ E.Mo E.ρ0 E.η0 E.w0 ρ η w
section
variable {Γ:List (Nat×List Cell)} {E:HEnv} {ρ ρ':Nat->Value} {J:List SV} {η η':List SB} {a:Act} {w w':World}
theorem RI.inv (h:RI Γ E ρ J η a w):HInv Γ E.Mo ρ η w:=h.went.inv
theorem RI.go (h:RI Γ E ρ J η a w) (k:Went Γ E.Mo ρ η w ρ' η' w'):RI Γ E ρ' J η' a w':=
 ⟨h.hd,h.hs,fun i x hi=>(h.slot i x hi).mv k.mv,h.went.trans k⟩
theorem RI.put (h:RI Γ E ρ J η a w) {d:Nat} {x:SV} {v:Value} (hx:SVR η ρ (MX E.Mo ρ η) w v x):RI Γ E ρ (J.set d x) η (a.put (some d) v) w:=by
 refine ⟨h.hd,by simpa [Act.put] using h.hs,fun i y hi=>?_,h.went⟩;show SVR η ρ (MX E.Mo ρ η) w ((a.tmps.setIfInBounds d v).getD i Go.undef) y
 have hlen:i<J.length:=by simpa using (List.getElem?_eq_some_iff.1 hi).1
 rcases wn4 hi with ⟨rfl,rfl⟩ | ⟨hn,hi⟩
 . have:i<a.tmps.size:=by rw [h.hs];exact hlen
   rw [show (a.tmps.setIfInBounds i v).getD i Go.undef=v by simp [this]];exact hx
 . rw [Slot.getD_set_ne (Ne.symm hn)];exact h.slot i y hi
theorem RI.gt (h:RI Γ E ρ J η a w) (t:Nat):SVR η ρ (MX E.Mo ρ η) w (a.tmps.getD t Go.undef) (gtS J t):=by
 unfold gtS
 cases ht:J[t]? with
 | none=>exact trivial
 | some x=>exact h.slot t x ht
def yhg (v:Value):SV:=match zfo v with
 | .one c=>.one (.dat c)
 | .agg cs=>.agg (cs.map .dat)
 | _=>.any
def vjd:List (Nat×List Cell)->Nat->SV
 | [],_=>.any
 | (g,cs)::r,i=>if g=i then .elt cs else vjd r i
def opdS (Γ:List (Nat×List Cell)) (J:List SV):Operand->SV
 | .tmp t=>gtS J t
 | .const v=>yhg v
 | .func f=>.one (.dat (.raw (.func (.func f) #[] #[])))
 | .global g=>vjd Γ g
theorem zdv:∀(Γ:List (Nat×List Cell)) (i:Nat),vjd Γ i=.any\/∃ cs,vjd Γ i=.elt cs/\(i,cs)∈Γ
 | [],_=>.inl rfl
 | (g,cs)::r,i=>by
  unfold vjd
  split
  . rename_i e;subst e;exact .inr ⟨cs,rfl,by simp⟩
  . rcases zdv r i with h | ⟨cs',h,hm⟩
    . exact .inl h
    . exact .inr ⟨cs',h,by simp [hm]⟩
theorem x0b {M:Nat->Nat->Prop} (v:Value):SVR η ρ M w v (yhg v):=by
 have h:=yhd (M:=M) (w:=w) (τ:=fun _=>⟨Go.undef,0⟩) v;unfold yhg
 cases hc:zfo v with
 | one c=>
  rw [hc] at h;have hb:RdC M w v c.bare:=RdT.bare h
  have hnt:c.bare=c:=by
   unfold zfo at hc;split at hc
   . split at hc<;>cases hc
   . cases hc
   . cases hc;rfl
  rw [hnt] at hb;exact hb
 | agg cs =>
  rw [hc] at h;obtain ⟨vs,e,hr⟩:=h;refine ⟨vs,e,?_⟩
  have hraw:∃ us:List Value,cs=us.map .raw:=by
   unfold zfo at hc;split at hc
   . split at hc
     . cases hc;exact ⟨_,rfl⟩
     . cases hc
   . cases hc
   . cases hc
  obtain ⟨us,rfl⟩:=hraw
  have:∀(vs us:List Value),RdL M w (fun _=>⟨Go.undef,0⟩) vs (us.map .raw)->HRL η ρ M w vs ((us.map Cell.raw).map .dat):=by
   intro vs
   induction vs with
   | nil=>intro us h;cases us with
    | nil=>trivial
    | cons _ _=>exact h.elim
   | cons v vs ih=>intro us h;cases us with
    | nil=>exact h.elim
    | cons u us=>exact ⟨h.1,ih us h.2⟩
  exact this vs us hr
 | _=>exact trivial
theorem RI.opd (h:RI Γ E ρ J η a w) (x:Operand):SVR η ρ (MX E.Mo ρ η) w (a.eval x) (opdS Γ J x):=by
 cases x with
 | tmp t=>exact h.gt t
 | const v=>exact x0b v
 | func f=>exact RdC.raw rfl
 | global g=>
  show SVR η ρ (MX E.Mo ρ η) w (a.eval (.global g)) (vjd Γ g)
  rcases zdv Γ g with e | ⟨cs,e,hm⟩
  . rw [e];exact trivial
  . rw [e];obtain ⟨vs,h1,h2⟩:=h.inv.glob g cs hm;exact ⟨g,0,vs,rfl,fun j u hj=>by rw [Nat.zero_add];exact h1 j u hj,h2⟩
end
def appL {α:Type}:List (Nat×α)->List α->List α
 | [],l=>l
 | (i,x)::r,l=>appL r (l.set i x)
def agS (rd:List Nat) (J J':List SV):Prop:=J'.length=J.length/\∀ r∈rd,gtS J' r=gtS J r
def agB (rh:List Nat) (η η':List SB):Prop:=η'.length=η.length/\∀ r∈rh,η'[r]? = η[r]?
def x6g (Γ:List (Nat×List Cell)) (P:Program) (o:Oper) (J:List SV) (η:List SB) (rd rh:List Nat) (eff:List (Nat×SV)) (heff:List (Nat×SB)):Prop:=
 ∀(E:HEnv) (ρ:Nat->Value) (J':List SV) (η':List SB) (a:Act) (w:World),agS rd J J'->agB rh η η'->RI Γ E ρ J' η' a w->∀(K:Act->World->Prop) (Q:Exit->Act->World->Prop),
  (∀ a' w' ρ',RI Γ E ρ' (appL eff J') (appL heff η') a' w'->K a' w')->o.wp P a w K Q
theorem agS.opd {Γ:List (Nat×List Cell)} {rd:List Nat} {J':List SV} (h:agS rd J J') {x:Operand} (hx:∀ t∈orr x,t∈rd):opdS Γ J' x=opdS Γ J x:=by
 cases x with
 | tmp t=>exact h.2 t (hx t (by simp [orr]))
 | _=>rfl
theorem agB.gB {rh:List Nat} {η η':List SB} (h:agB rh η η') {b:Nat} (hb:b∈rh):gB η' b=gB η b:=by
 unfold Hp.gB;rw [h.2 b hb]
def datH:HC->Option Cell
 | .dat c=>some c
 | _=>none
def datL:List HC->Option (List Cell)
 | []=>some []
 | .dat c::r=>(datL r).map (c::·)
 | _::_=>none
def vwO:HC->AV
 | .dat c=>.one c
 | _=>.any
def vwG:Option (List Cell)->AV
 | some cs=>.agg cs
 | none=>.any
def vw:SV->AV
 | .one h=>vwO h
 | .agg hs=>vwG (datL hs)
 | .elt cs=>.elt cs
 | .undef=>.undef
 | _=>.any
theorem zqq (i:Nat):gt (J.map vw) i=vw (gtS J i):=by
 unfold gt gtS;rw [List.getElem?_map]
 cases J[i]?<;>rfl
theorem xuc (x:SV):(vw x).v43=false:=by
 unfold vw
 cases x with
 | one h=>cases h<;>rfl
 | agg hs=>simp only;cases datL hs<;>rfl
 | _=>rfl
theorem xyj (x:SV):(vw x).rf=none:=by
 unfold vw
 cases x with
 | one h=>cases h<;>rfl
 | agg hs=>simp only;cases datL hs<;>rfl
 | _=>rfl
section
variable {Γ:List (Nat×List Cell)} {E:HEnv} {ρ ρ':Nat->Value} {J:List SV} {η η':List SB} {a:Act} {w w':World} {M:Nat->Nat->Prop}
theorem HRL.dat:∀{vs:List Value} {hs:List HC} {cs:List Cell},HRL η ρ M w vs hs->datL hs=some cs->RdD M w vs cs
 | [],[],cs,_,hd=>by simp [datL] at hd;subst hd;trivial
 | v::vs,h::hs,cs,hr,hd=>by
  cases h with
  | dat c=>
   simp only [datL,Option.map_eq_some_iff] at hd;obtain ⟨l,hl,rfl⟩:=hd;exact ⟨hr.1,HRL.dat hr.2 hl⟩
  | _=>simp [datL] at hd
theorem RdD.rdl {τ:Nat->TV}:∀{vs:List Value} {cs:List Cell},RdD M w vs cs->RdL M w τ vs cs
 | [],[],_=>trivial
 | _::_,_::_,h=>⟨RdT.of h.1,RdD.rdl h.2⟩
theorem v77 {τ:Nat->TV} {tm:Array Value} {v:Value} {x:SV} (h:SVR η ρ M w v x):yos M w τ tm v (vw x)/\∀ d,¬(vw x).zkp d:=by
 cases x with
 | one c=>
  cases c with
  | dat c=>exact ⟨RdT.of h,fun d hd=>(RdC.xqu h d) hd⟩
  | _=>exact ⟨trivial,fun d hd=>hd⟩
 | agg hs=>
  obtain ⟨vs,rfl,hr⟩:=h;show yos M w τ tm _ (vwG (datL hs))/\∀ d,¬(vwG (datL hs)).zkp d
  cases hd:datL hs with
  | none=>exact ⟨trivial,fun d hd=>hd⟩
  | some cs=>
   have hrd:=HRL.dat hr hd;exact ⟨⟨vs,rfl,RdD.rdl hrd⟩,fun d hd=>hrd.xqu hd⟩
 | elt cs=>exact ⟨h,fun d hd=>hd⟩
 | undef=>exact ⟨h,fun d hd=>hd⟩
 | any=>exact ⟨trivial,fun d hd=>hd⟩
 | tup l=>exact ⟨trivial,fun d hd=>hd⟩
def w5q (h:RI Γ E ρ J η a w):Env:=⟨w,MX E.Mo ρ η,fun _=>False,#[],E.ds,fun _ _ hm=>x6h h.inv hm⟩
theorem RI.old (h:RI Γ E ρ J η a w):RelI (w5q h) (fun _=>⟨Go.undef,0⟩) (MX E.Mo ρ η) (J.map vw) a w:=by
 have hget:∀(i:Nat) (av:AV),(J.map vw)[i]? = some av->∃ x,J[i]? = some x/\av=vw x:=fun i av hi=>by
  rw [List.getElem?_map] at hi;obtain ⟨x,hx,rfl⟩:=Option.map_eq_some_iff.1 hi;exact ⟨x,hx,rfl⟩
 have hlive:∀ d,¬live (J.map vw) d:=fun d ⟨i,av,hi,ht⟩=>by
  obtain ⟨x,hx,rfl⟩:=hget i av hi;exact (v77 (τ:=fun _=>⟨Go.undef,0⟩) (tm:=a.tmps) (h.slot i x hx)).2 d ht
 refine ⟨h.hd,by simpa using h.hs,?_,fun _ _ hm=>hm,fun _ _ hm=>x6h h.inv hm,?_,?_,?_,fun d hd=>absurd hd (hlive d),fun d _ _ hd=>absurd hd (hlive d),fun d _ _ hd=>absurd hd (hlive d),Nat.le_refl _,rfl,rfl,rfl,fun _ _ _=>rfl⟩
 . intro i av hi;obtain ⟨x,hx,rfl⟩:=hget i av hi;exact (v77 (h.slot i x hx)).1
 . intro i av hi hh;obtain ⟨x,hx,rfl⟩:=hget i av hi;rw [xuc] at hh;cases hh
 . intro i j x y hi hj hx;obtain ⟨x',_,rfl⟩:=hget i x hi;rw [xuc] at hx;cases hx
 . intro i av s b hi hr;obtain ⟨x,hx,rfl⟩:=hget i av hi;rw [xyj] at hr;cases hr
end
def valB:Builtin->Bool
 | .len | .cap | .append | .max | .min | .copy | .unsafeSliceData | .unsafeString=>true
 | _=>false
def xei:Op->Bool
 | .move _ | .assign _ | .pick _ _ _ | .alloc _ | .box _ _ | .build _ _ | .buildSlice _ _ _ | .load _ _ | .binOp _ _ _ _ _ | .unOp _ _ _ | .convert _ _ _ | .makeSlice _ _ _ | .slice _ _ _ _ _ | .fieldAddr _ _ _ | .field _ _ _ | .indexAddr _ _ _
 | .index _ _ _ | .extract _ _=>true
 | .call { callee:=.builtin b,.. }=>valB b
 | _=>false
theorem yiy {α:Type} {f:α->Value} {s:Sem α} {n:Next} (h:(s.bind (fun v=>.pure (.value (f v))):Sem Next).run P w=.ok n w'):∃ v,n=.value v:=by
 induction s generalizing w with
 | pure a=>simp only [Sem.bind,Sem.run,Result.ok.injEq] at h;exact ⟨f a,h.1.symm⟩
 | load m ad k ih=>
  simp only [Sem.bind,Sem.run] at h;split at h
  . exact ih _ h
  . split at h
    . exact ih _ h
    . cases h
 | store m ad v k ih=>
  cases v<;>simp only [Sem.bind,Sem.run] at h<;>first | (cases h;done) | skip
  all_goals
   split at h
   . split at h
     . cases h
     . exact ih h
   . split at h
     . exact ih h
     . cases h
 | new ob k ih=>exact ih _ h
 | shape r k ih=>exact ih _ h
 | freeze ad n k ih=>exact ih h
 | frozen ad k ih=>exact ih _ h
 | getObj r k ih=>
  simp only [Sem.bind,Sem.run] at h;split at h
  . cases h
  . exact ih _ h
  . cases h
 | setObj r ob k ih=>
  simp only [Sem.bind,Sem.run] at h;split at h
  . cases h
  . exact ih h
  . cases h
 | choose q k ih=>
  simp only [Sem.bind,Sem.run] at h;split at h
  . exact ih _ h
  . exact ih _ h
 | sys c k ih=>exact ih _ h
 | program k ih=>exact ih _ h
 | mark m k ih=>exact ih h
 | halt hh=>cases h
theorem vef {s:Sem Value} {n:Next} (h:(do pure (.value (<-s)):Sem Next).run P w=.ok n w'):∃ v,n=.value v:=
 yiy (f:=id) h
theorem vlf {o:Oper} (hv:xei o.op=true) {ρ:Operand->Value} {n:Next} (h:(execOp ρ o).run P w=.ok n w'):∃ v,n=.value v:=by
 unfold execOp at h;unfold xei at hv
 split at hv<;>first | (cases hv;done) | skip
 all_goals (rename_i heq;rw [heq] at h)
 case h_19 b xs ts=>
  have h:(builtin b ts o.type _ (xs.map ρ)).run P w=.ok n w':=h;unfold valB at hv
  split at hv<;>first | (cases hv;done) | skip
  all_goals exact vef h
 all_goals first
  | exact vef h
  | exact yiy (f:=fun b=>if b=true then ρ _ else ρ _) h
  | (simp only [Sem.run_pure,Result.ok.injEq] at h;exact ⟨_,h.1.symm⟩)
end Go.Hp
namespace Go.Hp
open Go Go.RowKit Go.Slot
variable {P:Program} {Γ:List (Nat×List Cell)}
variable {o:Oper} {J:List SV} {η η':List SB} {rd rh:List Nat} {d nb b off:Nat} {x y:Operand} {E:HEnv} {ρ:Nat->Value} {a:Act} {w:World} {av:AV} {v:SV} {M:Nat->Nat->Prop} {hs us:List HC} {T:TypeId} {ti:TI} {vs:List Value}
theorem x6g.val {x:SV} {heff:List (Nat×SB)} (hdst:o.dst=some d)
 (hrun:∀(E:HEnv) (ρ:Nat->Value) (J':List SV) (η':List SB) (a:Act) (w:World),agS rd J J'->agB rh η η'->RI Γ E ρ J' η' a w->
   ∃ v w' ρ',(execOp a.eval o).run P w=.ok (.value v) w'/\Went Γ E.Mo ρ η' w ρ' (appL heff η') w'/\SVR (appL heff η') ρ' (MX E.Mo ρ' (appL heff η')) w' v x):x6g Γ P o J η rd rh [(d,x)] heff:=by
 intro E ρ J' η' a w hag hah hI K Q hK;obtain ⟨v,w',ρ',hr,hw,hx⟩:=hrun E ρ J' η' a w hag hah hI;unfold Oper.wp;rw [hr];show K (a.put o.dst v) w';rw [hdst];exact hK _ _ ρ' ((hI.go hw).put hx)
theorem x6g.pure {x:SV} (hdst:o.dst=some d)
 (hrun:∀(E:HEnv) (ρ:Nat->Value) (J':List SV) (η':List SB) (a:Act) (w:World),agS rd J J'->agB rh η η'->RI Γ E ρ J' η' a w->
   ∃ v,(execOp a.eval o).run P w=.ok (.value v) w/\SVR η' ρ (MX E.Mo ρ η') w v x):x6g Γ P o J η rd rh [(d,x)] []:=
 x6g.val hdst (fun E ρ J' η' a w hag hah hI=>by
  obtain ⟨v,h1,h2⟩:=hrun E ρ J' η' a w hag hah hI
  exact ⟨v,w,ρ,h1,Went.refl hI.inv,h2⟩)
theorem x6g.skip {o:Oper} {J:List SV} {η:List SB} {rd rh:List Nat} {heff:List (Nat×SB)} (hdst:o.dst=none)
 (hrun:∀(E:HEnv) (ρ:Nat->Value) (J':List SV) (η':List SB) (a:Act) (w:World),agS rd J J'->agB rh η η'->RI Γ E ρ J' η' a w->
   ∃ w' ρ',(execOp a.eval o).run P w=.ok .skip w'/\Went Γ E.Mo ρ η' w ρ' (appL heff η') w'):x6g Γ P o J η rd rh [] heff:=by
 intro E ρ J' η' a w hag hah hI K Q hK;obtain ⟨w',ρ',hr,hw⟩:=hrun E ρ J' η' a w hag hah hI;unfold Oper.wp;rw [hr];show K (a.put o.dst Go.undef) w';rw [hdst];exact hK _ _ ρ' (hI.go hw)
theorem agS.view {J':List SV} (h:agS rd J J'):zb8 rd (J.map vw) (J'.map vw):=
 ⟨by simp [h.1],fun r hr=>by rw [zqq,zqq,h.2 r hr]⟩
theorem RI.take {σv:List AV} (h:RI Γ E ρ J η a w) (hvo:xei o.op=true) (hdst:o.dst=some d) (hlt:d<J.length)
 (hst:z7c P o σv rd [] [(d,av)]) (hag:zb8 rd σv (J.map vw)) :
 ∃ v w' M' τ tm,(execOp a.eval o).run P w=.ok (.value v) w'/\Below w.heap.size w w'/\(∀ b o,MX E.Mo ρ η b o->M' b o)/\yos M' w' τ tm v av/\(av.v43=true->av.fresh=true->w.heap.size<=blk v/\∀ o,M' (blk v) o):=by
 have hA:=hst (w5q h) (J.map vw) a w hag (by intro t ht;cases ht) ⟨_,_,h.old⟩ (fun a' w'=>Rel (w5q h) ((J.map vw).set d av) a' w') (fun _ _ _=>False) (fun a' w' hR=>hR);unfold Oper.wp at hA
 cases hr:(execOp a.eval o).run P w with
 | halt hh w'=>
  rw [hr] at hA
  cases hh<;>exact hA.elim
 | ok n w'=>
  obtain ⟨v,rfl⟩:=vlf hvo hr;rw [hr] at hA;rw [Oper.upon_value,hdst] at hA;obtain ⟨τ,M',hI⟩:=hA
  have hd:((J.map vw).set d av)[d]? = some av:=by simp [hlt]
  have hs:=hI.slot d av hd
  have hlt':d<a.tmps.size:=by rw [h.hs];exact hlt
  have hself:(a.put (some d) v).tmps.getD d Go.undef=v:=by simp [Act.put,hlt']
  rw [hself] at hs;refine ⟨v,w',M',τ,_,rfl,⟨hI.os,hI.tape,hI.output,hI.size,fun k hk=>hI.frame k hk (fun hx=>hx)⟩,hI.m0,hs,fun hh hf=>?_⟩;have h1:=(hI.hold d av hd hh).2.2.1 hf;have h2:=(hI.hold d av hd hh).1;rw [hself] at h1 h2;exact ⟨h1,h2⟩
def av2 (nb:Nat):AV->Option (SV×Option SB)
 | .one c=>some (.one (.dat c.bare),none)
 | .agg cs=>some (.agg ((vw7 cs).map .dat),none)
 | .elt cs=>some (.elt cs,none)
 | .any=>some (.any,none)
 | .arr [] c none=>some (.one (.sl nb c.esz 0 c.cnt),some (.arr c 0 none))
 | _=>none
theorem RdL.hrl {η:List SB} {ρ:Nat->Value} {M M':Nat->Nat->Prop} {w:World} {τ:Nat->TV} (hM:∀ b o,M b o->M' b o):∀{vs:List Value} {cs:List Cell},RdL M' w τ vs cs->HRL η ρ M w vs ((vw7 cs).map .dat)
 | [],[],_=>trivial
 | _::_,_::_,h=>⟨(RdT.bare h.1).keep (ydx.shrink w hM),RdL.hrl hM h.2⟩
def oB (nb:Nat):Option SB->List (Nat×SB)
 | none=>[]
 | some x=>[(nb,x)]
def oN (nb:Nat):Option SB->List Nat
 | none=>[]
 | some _=>[nb]
def y6w (η:List SB) (nb:Nat):Bool:=match η[nb]? with
 | some .fresh=>true
 | _=>false
theorem zeg (h:y6w η nb=true):η[nb]? = some .fresh:=by
 unfold y6w at h;split at h
 . assumption
 . cases h
theorem agB.room (h:agB rh η η') (hb:nb∈rh) (hr:y6w η nb=true):η'[nb]? = some .fresh:=by
 rw [h.2 nb hb];exact zeg hr
def zrs (η:List SB) (nb:Nat):Option SB->Bool
 | none=>true
 | some _=>y6w η nb
theorem vfo {x:SV} {ob:Option SB} (hvo:xei o.op=true) (hdst:o.dst=some d) (hst:z7c P o (J.map vw) rd [] [(d,av)])
 (hd:d<J.length) (h2:av2 nb av=some (x,ob)) (hroom:zrs η nb ob=true):x6g Γ P o J η rd (oN nb ob) [(d,x)] (oB nb ob):=by
 refine x6g.val hdst (fun E ρ J' η' a w hag hah hI=>?_);obtain ⟨v,w',M',τ,tm,hrun,hb,hM,hs,hf⟩:=hI.take hvo hdst (by rw [hag.1];exact hd) hst hag.view
 have plain:ob=none->SVR η' ρ (MX E.Mo ρ η') w' v x->∃ v w' ρ',(execOp a.eval o).run P w=.ok (.value v) w'/\Went Γ E.Mo ρ η' w ρ' (appL (oB nb ob) η') w'/\SVR (appL (oB nb ob) η') ρ' (MX E.Mo ρ' (appL (oB nb ob) η')) w' v x:=fun e hx=>by
  subst e;exact ⟨v,w',ρ,hrun,Went.below hI.inv hb,hx⟩
 unfold av2 at h2;split at h2
 . rename_i c
   cases h2;exact plain rfl ((RdT.bare hs).keep (ydx.shrink w' hM))
 . rename_i cs
   cases h2;obtain ⟨vs,e,hr⟩:=hs;exact plain rfl ⟨vs,e,RdL.hrl hM hr⟩
 . rename_i cs
   cases h2;obtain ⟨b,off,vs,e,hc,hr⟩:=hs;exact plain rfl ⟨b,off,vs,e,fun j u hj=>⟨fun hm=>(hc j u hj).1 (hM _ _ hm),(hc j u hj).2⟩,hr.keep (ydx.shrink w' hM)⟩
 . cases h2;exact plain rfl trivial
 . rename_i c
   cases h2;obtain ⟨b,T,vs,q,cap,rfl,hbk,hr,_,hu,hcap,hsz⟩:=hs;have hfr:=hah.room (show nb∈oN nb (some (SB.arr c 0 none)) by simp [oN]) hroom;have hge:w.heap.size<=b:=(hf rfl rfl).1;have hlt:nb<η'.length:=(List.getElem?_eq_some_iff.1 hfr).1;have hok:okB (η'.set nb (.arr c 0 none)) nb:=⟨_,by simp [hlt];rfl,by simp⟩;refine ⟨_,w',upd ρ nb (.pointer (some ⟨b,0,none⟩)),hrun,Went.new hI.inv hb hfr (by simp) (fun _ _=>hge) (fun _=>⟨⟨hu,Nat.zero_le _⟩,.inr ⟨b,vs,q,T,rfl,by simpa using hbk,hr.keep (ydx.shrink w' ?_),by simp⟩⟩),?_⟩
   . intro b' o' hm
     rcases hm with hm | ⟨i,y,hi,hy,hre,e⟩
     . exact hM _ _ (.inl hm)
     . rcases wn4 hi with ⟨rfl,rfl⟩ | ⟨hn,hi⟩
       . rw [wty] at e;subst e;exact (hf rfl rfl).2 o'
       . rw [yml hn] at hre e;exact hM _ _ (.inr ⟨i,y,hi,hy,hre,e⟩)
   . refine ⟨hok,_,cap,rfl,hcap,fun _=>⟨by rw [wty];simp [real],by rw [wty];simp [bk,blk],_,T,_,by rw [wty];exact hbk,?_⟩⟩;simpa using hsz
 . cases h2
theorem zyi (ho:o.op=.move x\/o.op=.assign x) (hdst:o.dst=some d):x6g Γ P o J η (d::orr x) [] [(d,opdS Γ J x)] []:=by
 refine x6g.pure hdst (fun E ρ J' η' a w hag hah hI=>⟨a.eval x,?_,?_⟩)
 . rcases ho with ho | ho<;>simp [execOp,ho]
 . have:=hI.opd x
   rw [hag.opd (fun t ht=>by simp [ht])] at this;exact this
def z0q (c x y:SV):Option SV:=match c with
 | .one (.dat (.raw (.bool true)))=>some x
 | .one (.dat (.raw (.bool false)))=>some y
 | _=>none
theorem z7t {c:Operand} (ho:o.op=.pick c x y) (hdst:o.dst=some d) (h:z0q (opdS Γ J c) (opdS Γ J x) (opdS Γ J y)=some v) :
 x6g Γ P o J η (d::(orr c++orr x++orr y)) [] [(d,v)] []:=by
 refine x6g.pure hdst (fun E ρ J' η' a w hag hah hI=>?_);have hc:=hI.opd c;have hx:=hI.opd x;have hy:=hI.opd y;rw [hag.opd (fun t ht=>by simp [ht])] at hc hx hy;unfold z0q at h;split at h
 . rename_i e;rw [e] at hc;have ec:a.eval c=.bool true:=RdC.v7q hc
   cases h;exact ⟨a.eval x,by simp [execOp,ho,ec,asBool],hx⟩
 . rename_i e;rw [e] at hc;have ec:a.eval c=.bool false:=RdC.v7q hc
   cases h;exact ⟨a.eval y,by simp [execOp,ho,ec,asBool],hy⟩
 . cases h
def xb6:SV->Option (List HC)
 | .one h=>some [h]
 | .agg hs=>some hs
 | _=>none
theorem wxo {v:Value} {x:SV} (hc:xb6 x=some hs) (h:SVR η ρ M w v x):HRL η ρ M w v.cells.toList hs:=by
 cases x with
 | one c=>
  cases hc
  have h1:v.cells=#[v]:=by
   have:=HRd.one h
   cases v<;>first | rfl | cases this
  rw [h1];exact ⟨h,trivial⟩
 | agg cs=>cases hc;obtain ⟨vs,rfl,h⟩:=h;simpa [Value.cells] using h
 | _=>cases hc
theorem ygg (hdst:o.dst=some d) (hroom:y6w η nb=true)
 (hrun:∀(E:HEnv) (ρ:Nat->Value) (J':List SV) (η':List SB) (a:Act) (w:World),agS rd J J'->agB (nb::rh) η η'->RI Γ E ρ J' η' a w->
   ∃ vs:List Value,(execOp a.eval o).run P w=.ok (.value (.pointer (some ⟨w.heap.size,0,none⟩))) (w.alloc (.cells vs.toArray T))/\HRL η' ρ (MX E.Mo ρ η') w vs hs) :
 x6g Γ P o J η rd (nb::rh) [(d,.one (.ptr nb 0))] [(nb,.box hs (some T))]:=by
 refine x6g.val hdst (fun E ρ J' η' a w hag hah hI=>?_);obtain ⟨vs,h1,h2⟩:=hrun E ρ J' η' a w hag hah hI;have hfr:=hah.room (by simp) hroom;have hlt:nb<η'.length:=(List.getElem?_eq_some_iff.1 hfr).1;have hb:Below w.heap.size w (w.alloc (.cells vs.toArray T)):=(Below.refl _ _).alloc (Nat.le_refl _) _;refine ⟨_,_,upd ρ nb (.pointer (some ⟨w.heap.size,0,none⟩)),h1,Went.new hI.inv hb hfr (by simp) (fun _ _=>Nat.le_refl _) (fun m=>⟨w.heap.size,vs,T,rfl,ylf w _,h2.mv m,fun t' ht=>by cases ht;rfl⟩),?_⟩;exact ⟨⟨_,by simp [appL,hlt];rfl,by simp⟩,by rw [wty];rfl⟩
theorem vg3 {η:List SB} {ρ:Nat->Value} {M:Nat->Nat->Prop} {w:World}:∀{l:List Value},(∀ v∈l,v.oneCell'=true)->HRL η ρ M w l ((l.map zyj).map .dat)
 | [],_=>trivial
 | v::l,h=>⟨vwb (h v (by simp)),vg3 (fun u hu=>h u (by simp [hu]))⟩
theorem v0u (ho:o.op=.alloc T) (hdst:o.dst=some d) (hti:mkTI P T=some ti) (hroom:y6w η nb=true) :
 x6g Γ P o J η [d] [nb] [(d,.one (.ptr nb 0))] [(nb,.box (ti.zc.map .dat) (some T))]:=by
 refine ygg hdst hroom (fun E ρ J' η' a w hag hah hI=>?_);obtain ⟨ds,i,z,hd,hi,hz,hsz,hby,hzs,hone,hzc,hsh⟩:=(xat hti).ex;refine ⟨z.cells.toList,?_,?_⟩
 . simp [execOp,ho,Instr.alloc,zao hi hz,newVar,newRow]
 . rw [hzc];exact vg3 hone
theorem yit (ho:o.op=.box T x) (hdst:o.dst=some d) (hcs:xb6 (opdS Γ J x)=some hs) (hroom:y6w η nb=true) :
 x6g Γ P o J η (d::orr x) [nb] [(d,.one (.ptr nb 0))] [(nb,.box hs (some T))]:=by
 refine ygg hdst hroom (fun E ρ J' η' a w hag hah hI=>?_);have h:=hI.opd x;rw [hag.opd (fun t ht=>by simp [ht])] at h;refine ⟨(a.eval x).cells.toList,?_,wxo hcs h⟩;simp [execOp,ho,Instr.box,newVar,newRow]
def wc3 (ti:TI) (hs:List HC):Option SV:=
 match ti.many with
 | some true=>if ti.size<=hs.length then some (.agg (hs.take ti.size)) else none
 | some false=>match hs with
  | h::_=>some (.one h)
  | []=>none
 | none=>none
def seeH (η:List SB):SV->Option (List Nat×List HC)
 | .one (.ptr b off)=>match gB η b with
  | .box hs _=>some ([b],hs.drop off)
  | _=>none
 | .one (.pel b es i f)=>match gB η b with
  | .arr c _ _=>if c.esz=es then (c.at i f).map fun cs=>([b],cs.map .dat) else none
  | _=>none
 | .elt cs=>some ([],cs.map .dat)
 | _=>none
theorem w5n {x:SB} (h:gB η b=x) (hx:x≠.dead):η[b]? = some x:=by
 unfold gB at h
 cases hb:η[b]? with
 | none=>rw [hb] at h;exact absurd h.symm hx
 | some y=>rw [hb] at h;exact congrArg some h
theorem RI.sbr (h:RI Γ E ρ J η a w) {x:SB} (hx:gB η b=x) (hd:x≠.dead):SBR η ρ (MX E.Mo ρ η) w (ρ b) x:=
 h.inv.blk b x (w5n hx hd)
theorem x55 {q:List Value} (h:w.heap[b]? = some (.cells (vs++q).toArray T (0,0))) {j:Nat} {u:Value} (hj:vs[j]? = some u):w.cell? ⟨b,j,none⟩=some u:=by
 have hlt:=(List.getElem?_eq_some_iff.1 hj).1;simp only [World.cell?,h,Option.isSome_none,Bool.false_eq_true,if_false,List.getElem?_toArray];rw [List.getElem?_append_left hlt];exact hj
theorem vz8 (hI:RI Γ E ρ J η a w) {v:Value} {x:SV} (hx:SVR η ρ (MX E.Mo ρ η) w v x) (h:seeH η x=some (rh,hs)) :
 ∃(b off:Nat) (vs:List Value),v=.pointer (some ⟨b,off,none⟩)/\(∀ j u,vs[j]? = some u->w.cell? ⟨b,off+j,none⟩=some u)/\HRL η ρ (MX E.Mo ρ η) w vs hs:=by
 unfold seeH at h;split at h
 . rename_i b off;split at h
   . rename_i hs' T hb
     cases h;obtain ⟨b',vs,T',e,hh,hr,_⟩:=hI.sbr hb (by simp);obtain ⟨_,rfl⟩:=hx;rw [e];exact ⟨b',off,vs.drop off,rfl,wls hh off,hr.drop off⟩
   . cases h
 . rename_i b es i f;split at h
   . rename_i c k T hb;split at h
     . rename_i hes;obtain ⟨cs,hat,e⟩:=Option.map_eq_some_iff.1 h
       cases e;obtain ⟨⟨hu,_⟩,h0⟩:=hI.sbr hb (by simp);obtain ⟨hi,r,hfl⟩:=Cell.zfn hu hat
       rcases h0 with ⟨h0,_⟩ | ⟨b',vs,q,T',e,hh,hr,_⟩
       . omega
       . obtain ⟨_,rfl⟩:=hx;rw [e];have hr':=hr.drop (i*c.esz+f);rw [hfl] at hr';have ht:=hr'.take cs.length;rw [List.take_left] at ht;refine ⟨b',i*es+f,(vs.drop (i*c.esz+f)).take cs.length,rfl,fun j u hj=>?_,RdD.hrl ht⟩;rw [List.getElem?_take] at hj;split at hj
         . rw [List.getElem?_drop] at hj;rw [<-hes];exact x55 hh hj
         . cases hj
     . cases h
   . cases h
 . rename_i cs
   cases h;obtain ⟨b,off,vs,rfl,hc,hr⟩:=hx;exact ⟨b,off,vs,rfl,fun j u hj=>(hc j u hj).2,RdD.hrl hr⟩
 . cases h
theorem run_load (hti:TIok P T ti) {x:SV}
 (hc:∀ j u,vs[j]? = some u->w.cell? ⟨b,off+j,none⟩=some u) (hr:HRL η ρ M w vs hs) (hl:wc3 ti hs=some x) :
 ∃ v,(loadVar T ⟨b,off,none⟩).run P w=.ok v w/\SVR η ρ M w v x:=by
 unfold wc3 at hl
 have hadd:∀ j,(⟨b,off,none⟩:Addr).add j=⟨b,off+j,none⟩:=fun j=>by unfold Addr.add;split<;>simp_all
 split at hl
 . rename_i hm;split at hl
   . rename_i hle
     cases hl;obtain ⟨d,i,z,hd,hi,hz,hsz,hby,hzs,hone,hzc,hsh⟩:=hti.ex;have hlen:=hr.length;refine ⟨.agg (vs.take ti.size).toArray,?_,⟨vs.take ti.size,rfl,hr.take _⟩⟩
     have hld:=run_loadCells_list (P:=P) w ⟨b,off,none⟩ (vs.take ti.size) (fun j u hj=>by
      rw [hadd];refine hc j u ?_;rw [List.getElem?_take] at hj;split at hj
      . exact hj
      . cases hj)
     have hlt:(vs.take ti.size).length=ti.size:=by rw [List.length_take];omega
     rw [hlt] at hld;unfold loadVar;simp only [Sem.run_bind,hti.xil hm,Result.andThen_ok,if_true,ynn hi,hsz,hld,Sem.run_pure]
   . cases hl
 . rename_i hm;split at hl
   . rename_i c cs'
     cases hl
     cases vs with
     | nil=>exact hr.elim
     | cons v vs=>
      refine ⟨v,?_,hr.1⟩
      have:=hc 0 v rfl
      unfold loadVar;simp only [Sem.run_bind,hti.xil hm,Result.andThen_ok,Bool.false_eq_true,if_false];simp only [Nat.add_zero] at this;simp [load,Sem.run,this]
   . cases hl
 . cases hl
theorem y1g {x:SV} (h:seeH η x=some (rh,hs)) (ha:∀ b∈rh,gB η' b=gB η b):seeH η' x=some (rh,hs):=by
 unfold seeH at h ⊢;split at h
 . rename_i b off
   have e:gB η' b=gB η b:=by
    split at h
    . cases h;exact ha b (by simp)
    . cases h
   simp only [e];exact h
 . rename_i b es i f
   have e:gB η' b=gB η b:=by
    split at h
    . split at h
      . obtain ⟨cs,hat,e⟩:=Option.map_eq_some_iff.1 h
        cases e;exact ha b (by simp)
      . cases h
    . cases h
   simp only [e];exact h
 . exact h
 . cases h
theorem xa3 (ho:o.op=.load T x) (hdst:o.dst=some d) (hti:mkTI P T=some ti)
 (hs':seeH η (opdS Γ J x)=some (rh,hs)) (hl:wc3 ti hs=some v):x6g Γ P o J η (d::orr x) rh [(d,v)] []:=by
 refine x6g.pure hdst (fun E ρ J' η' a w hag hah hI=>?_);have hx:=hI.opd x;rw [hag.opd (fun t ht=>by simp [ht])] at hx;obtain ⟨b,off,vs,e,hc,hr⟩:=vz8 hI hx (y1g hs' (fun b hb=>hah.gB hb));obtain ⟨u,h1,h2⟩:=run_load (xat hti) hc hr hl;refine ⟨u,?_,h2⟩;simp [execOp,ho,Instr.loadAt,e,Instr.sureAddr,h1]
def zj0 (η:List SB) (n:Nat) (x:SV) (us:List HC):Option (Nat×SB):=match x with
 | .one (.ptr b off)=>match gB η b with
  | .box hs T=>if off+n<=hs.length then some (b,.box (hs.take off++us++hs.drop (off+n)) T) else none
  | _=>none
 | .one (.pel b es i f)=>match gB η b with
  | .arr c 0 T=>if c.esz=es then match datL us with
   | some cs=>(c.upd i f cs).map fun c'=>(b,.arr c' 0 T)
   | none=>none
   else none
  | _=>none
 | _=>none
theorem vm2 {n:Nat} {x:SV} {y:SB} (h:zj0 η n x us=some (b,y)) (ha:gB η' b=gB η b):zj0 η' n x us=some (b,y):=by
 unfold zj0 at h ⊢;split at h
 . rename_i b' off
   have e:b'=b:=by
    split at h
    . split at h<;>cases h;rfl
    . cases h
   subst e;simp only [ha];exact h
 . rename_i b' es i f
   have e:b'=b:=by
    split at h
    . split at h
      . split at h
        . obtain ⟨c',_,e⟩:=Option.map_eq_some_iff.1 h
          cases e;rfl
        . cases h
      . cases h
    . cases h
   subst e;simp only [ha];exact h
 . cases h
theorem wqu {old cs:Array Value} {fz:Nat×Nat} (hb:w.heap[b]? = some (.cells old T fz)) (hsz:old.size<=cs.size):Grow w (w.setRow b cs):=fun i arr T' fz' hi=>by
 by_cases e:i=b
 . subst e;rw [hb] at hi;cases hi;exact ⟨cs,T,fz,setRow_heap w i _ cs T fz hb,hsz⟩
 . exact ⟨arr,T',fz',by rw [setRow_other w b i cs e];exact hi,Nat.le_refl _⟩
theorem v1m (ho:o.op=.store T x y) (hdst:o.dst=none) (hti:mkTI P T=some ti) {z:SB}
 (hu:xb6 (opdS Γ J y)=some us) (hlen:us.length=ti.size) (hst:zj0 η ti.size (opdS Γ J x) us=some (b,z)):x6g Γ P o J η (orr x++orr y) [b] [] [(b,z)]:=by
 refine x6g.skip hdst (fun E ρ J' η' a w hag hah hI=>?_);have hx:=hI.opd x;have hy:=hI.opd y;rw [hag.opd (fun t ht=>by simp [ht])] at hx hy;have hst:=vm2 hst (hah.gB (by simp));have hr:=wxo hu hy
 have hsz:(a.eval y).cells.size=ti.size:=by rw [<-hlen,<-hr.length];simp
 unfold zj0 at hst;split at hst
 . rename_i b' off hxe;split at hst
   . rename_i hs T' hb;split at hst
     . rename_i hfit
       cases hst;rw [hxe] at hx;obtain ⟨bb,vs,Tb,e,hh,hrb,hT⟩:=hI.sbr hb (by simp);have hvl:=hrb.length;have hrun:=xsg (P:=P) (xat hti) hh hsz hr.ones (off:=off) (by omega);obtain ⟨_,hx⟩:=hx
       have hbk:bk (ρ b)=bb:=by rw [e];rfl
       rw [hbk] at hx;refine ⟨w.setRow bb (vs.take off++(a.eval y).cells.toList++vs.drop (off+ti.size)).toArray,ρ,?_,Went.write hI.inv (w5n hb (by simp)) rfl (by rw [e];simp [real]) rfl (fun o=>Iff.rfl) (by simp [World.setRow]) rfl rfl rfl (fun k hk=>setRow_other w bb k _ (by rw [<-hbk];exact hk)) (wqu hh ?_) (fun o u hm=>absurd trivial hm) (fun m=>?_)⟩
       . simp [execOp,ho,Instr.storeAt,hx,Instr.sureAddr,hrun]
       . simp only [List.size_toArray,List.length_append,List.length_take,List.length_drop,Array.length_toList];omega
       . refine ⟨bb,_,Tb,e,setRow_heap w bb _ _ Tb (0,0) hh,?_,hT⟩;exact (((hrb.take off).append hr).append (hrb.drop (off+ti.size))).mv m
     . cases hst
   . cases hst
 . rename_i b' es i f hxe;split at hst
   . rename_i c T' hb;split at hst
     . rename_i hes;subst hes;split at hst
       . rename_i cs hcs;obtain ⟨c',hupd,e⟩:=Option.map_eq_some_iff.1 hst
         cases e;rw [hxe] at hx;obtain ⟨⟨hun,_⟩,h0⟩:=hI.sbr hb (by simp);obtain ⟨hun',hcnt,hesz,hfit,hflat⟩:=Cell.zqk hun hupd;have hrd:=HRL.dat hr hcs;have hcl:=hrd.length
         have hcl2:cs.length=ti.size:=by rw [<-hcl];simpa using hsz
         rcases h0 with ⟨h0,_⟩ | ⟨bb,vs,q,Tb,e,hh,hrb,hT⟩
         . exfalso;unfold Cell.upd at hupd;split at hupd
           . split at hupd
             . split at hupd
               . rename_i hc;simp [Cell.cnt] at h0;simp [h0] at hc
               . cases hupd
             . cases hupd
           . split at hupd
             . rename_i hc;simp [Cell.cnt] at h0;simp [h0] at hc
             . cases hupd
           . cases hupd
         . have hvl:=hrb.length;have hfl:=Cell.x84 hun;obtain ⟨_,hx⟩:=hx
           have hbk:bk (ρ b)=bb:=by rw [e];rfl
           rw [hbk] at hx;have hrun:=xsg (P:=P) (xat hti) hh hsz hr.ones (off:=i*c.esz+f) (by simp only [List.length_append];omega);refine ⟨w.setRow bb ((vs++q).take (i*c.esz+f)++(a.eval y).cells.toList++(vs++q).drop (i*c.esz+f+ti.size)).toArray,ρ,?_,Went.write hI.inv (w5n hb (by simp)) rfl (by rw [e];simp [real]) rfl (fun o=>Iff.rfl) (by simp [World.setRow]) rfl rfl rfl (fun k hk=>setRow_other w bb k _ (by rw [<-hbk];exact hk)) (wqu hh ?_) (fun o u hm=>absurd (Nat.zero_le o) hm) (fun m=>?_)⟩
           . simp [execOp,ho,Instr.storeAt,hx,Instr.sureAddr,hrun]
           . have:=hcl2
             simp only [List.size_toArray,List.length_append,List.length_take,List.length_drop,Array.length_toList];omega
           . have hsplit:(vs++q).take (i*c.esz+f)++(a.eval y).cells.toList++(vs++q).drop (i*c.esz+f+ti.size)=(vs.take (i*c.esz+f)++(a.eval y).cells.toList++vs.drop (i*c.esz+f+ti.size))++q:=by
              rw [List.take_append_of_le_length (by omega),List.drop_append_of_le_length (by omega)];simp [List.append_assoc]
             refine ⟨⟨hun',Nat.zero_le _⟩,.inr ⟨bb,_,q,Tb,e,by rw [setRow_heap w bb _ _ Tb (0,0) hh,hsplit],?_,hT⟩⟩;rw [hflat]
             have:=((hrb.take (i*c.esz+f)).append hrd).append (hrb.drop (i*c.esz+f+ti.size))
             rw [hcl2];exact this.keep m.keep
       . cases hst
     . cases hst
   . cases hst
 . cases hst
def z9y (x:SV) (off:Nat):Option SV:=match x with
 | .one (.ptr b o)=>some (.one (.ptr b (o+off)))
 | .one (.pel b es i f)=>some (.one (.pel b es i (f+off)))
 | .elt cs=>some (.elt (cs.drop off))
 | _=>none
theorem z8a {S:TypeId} {f:Nat} (ho:o.op=.fieldAddr S x f) (hdst:o.dst=some d) (hti:mkTI P S=some ti) {fs:List (Nat×Nat×TypeId)} (hs:ti.sh=.struct fs)
 {sz:Nat} {ft:TypeId} (hf:fs[f]? = some (off,sz,ft)) (h:z9y (opdS Γ J x) off=some v):x6g Γ P o J η (d::orr x) [] [(d,v)] []:=by
 refine x6g.pure hdst (fun E ρ J' η' a w hag hah hI=>?_);have hx:=hI.opd x;rw [hag.opd (fun t ht=>by simp [ht])] at hx
 have key:∀ b oo,a.eval x=.pointer (some ⟨b,oo,none⟩)->(execOp a.eval o).run P w=.ok (.value (.pointer (some ⟨b,oo+off,none⟩))) w:=fun b oo e=>by
  have:=ynu (P:=P) (xat hti) hs hf w b oo
  simp [execOp,ho,e,this]
 unfold z9y at h;split at h
 . rename_i b oo e
   cases h;rw [e] at hx;exact ⟨_,key _ _ hx.2,hx.1,rfl⟩
 . rename_i b es i ff e
   cases h;rw [e] at hx;exact ⟨_,key _ _ hx.2,hx.1,by rw [Nat.add_assoc]⟩
 . rename_i cs e
   cases h;rw [e] at hx;obtain ⟨b,oo,vs,hv,hc,hr⟩:=hx;refine ⟨_,key _ _ hv,b,oo+off,vs.drop off,rfl,fun j u hj=>?_,hr.drop off⟩;rw [List.getElem?_drop] at hj
   have:=hc (off+j) u hj
   rw [show oo+off+j=oo+(off+j) by omega];exact this
 . cases h
def vpm (sh:Sh) (x y:SV):Option SV:=match y with
 | .one (.dat (.raw (.int _ n)))=>if 0<=n then match sh with
  | .slice _ es _ _=>match x with
   | .one (.sl b es' lo k)=>if es=es'/\n.toNat<k then some (.one (.pel b es (lo+n.toNat) 0)) else none
   | _=>none
  | .array m _ es=>match x with
   | .one (.ptr b o)=>if n.toNat<m/\es≠0 then some (.one (.ptr b (o+n.toNat*es))) else none
   | .elt cs=>if n.toNat<m/\es≠0 then some (.elt (cs.drop (n.toNat*es))) else none
   | _=>none
  | _=>none
  else none
 | _=>none
theorem ykb (ho:o.op=.indexAddr T x y) (hdst:o.dst=some d) (hti:mkTI P T=some ti)
 (h:vpm ti.sh (opdS Γ J x) (opdS Γ J y)=some v):x6g Γ P o J η (d::(orr x++orr y)) [] [(d,v)] []:=by
 refine x6g.pure hdst (fun E ρ J' η' a w hag hah hI=>?_);have hx:=hI.opd x;have hy:=hI.opd y;rw [hag.opd (fun t ht=>by simp [ht])] at hx hy;have hok:=xat hti;unfold vpm at h;split at h
 . rename_i kk n ey;rw [ey] at hy;have hye:a.eval y=.int kk n:=RdC.v7q hy;split at h
   . rename_i h0;split at h
     . rename_i e es eb ik hsh;split at h
       . rename_i b es' lo k ex;split at h
         . rename_i hc;obtain ⟨rfl,hn⟩:=hc
           cases h;rw [ex] at hx;obtain ⟨hob,ad,cap,hv,hle,hcap⟩:=hx;obtain ⟨_,had,_⟩:=hcap (by omega);subst had;refine ⟨.pointer (some ⟨bk (ρ b),(lo+n.toNat)*es+0,none⟩),?_,hob,rfl⟩
           have:=Slot.run_indexAt_slice (P:=P) hok hsh w (bk (ρ b)) (lo*es) k cap kk n h0 hn
           simp only [execOp,ho,hv,hye];rw [show (lo+n.toNat)*es+0=lo*es+n.toNat*es by rw [Nat.add_mul];omega];simp [this]
         . cases h
       . cases h
     . rename_i m e es hsh;obtain ⟨dd,i,z,hd,hi,hz,hsz',hby,hzs,hone,hzc,hsh'⟩:=hok.ex;obtain ⟨rfl,hes⟩:=wys (hsh'.symm.trans hsh)
       have key:∀ b oo,a.eval x=.pointer (some ⟨b,oo,none⟩)->n.toNat<m->es≠0->(execOp a.eval o).run P w=.ok (.value (.pointer (some ⟨b,oo+n.toNat*es,none⟩))) w:=fun b oo e1 hn hes0=>by
        have hlt:n<(m:Int):=by omega
        obtain ⟨j,hj,hjs⟩:=w7r (P:=P) (t:=e) (by rw [<-hes];exact hes0);simp only [execOp,ho,e1,hye];unfold Instr.indexAt;simp [asIntOf,y9m hd,h0,hlt,Instr.sureAddr,ynn hj,hjs,hes,v74]
       split at h
       . rename_i b oo ex;split at h
         . rename_i hc
           cases h;rw [ex] at hx;exact ⟨_,key _ _ hx.2 hc.1 hc.2,hx.1,rfl⟩
         . cases h
       . rename_i cs ex;split at h
         . rename_i hc
           cases h;rw [ex] at hx;obtain ⟨b,oo,vs,hv,hcc,hr⟩:=hx;refine ⟨_,key _ _ hv hc.1 hc.2,b,oo+n.toNat*es,vs.drop (n.toNat*es),rfl,fun j u hj=>?_,hr.drop _⟩;rw [List.getElem?_drop] at hj
           have:=hcc (n.toNat*es+j) u hj
           rw [show oo+n.toNat*es+j=oo+(n.toNat*es+j) by omega];exact this
         . cases h
       . cases h
     . cases h
   . cases h
 . cases h
def wza (x:SV) (n:Nat):Option SV:=match x with
 | .tup l=>l[n]?
 | _=>none
theorem yp8 {n:Nat} (ho:o.op=.extract x n) (hdst:o.dst=some d) (h:wza (opdS Γ J x) n=some v):x6g Γ P o J η (d::orr x) [] [(d,v)] []:=by
 refine x6g.pure hdst (fun E ρ J' η' a w hag hah hI=>?_);have hx:=hI.opd x;rw [hag.opd (fun t ht=>by simp [ht])] at hx;unfold wza at h;split at h
 . rename_i l e;rw [e] at hx;obtain ⟨vs,hv,hr⟩:=hx;obtain ⟨u,h1,h2⟩:=hr.get n v h;refine ⟨u,?_,SVR.of0 h2⟩;simp [execOp,ho,hv,Instr.extract,h1]
 . cases h
def ptrH:SV->Bool
 | .one (.ptr _ _) | .one (.pel _ _ _ _) | .elt _=>true
 | _=>false
theorem wvu (ho:o.op=.nilCheck x) (hdst:o.dst=some d) (h:ptrH (opdS Γ J x)=true):x6g Γ P o J η (d::orr x) [] [(d,opdS Γ J x)] []:=by
 refine x6g.pure hdst (fun E ρ J' η' a w hag hah hI=>?_);have hx:=hI.opd x;rw [hag.opd (fun t ht=>by simp [ht])] at hx
 have hv:∃ ad,a.eval x=.pointer (some ad):=by
  generalize opdS Γ J x=s at h hx;unfold ptrH at h;split at h
  . exact ⟨_,hx.2⟩
  . exact ⟨_,hx.2⟩
  . obtain ⟨b,oo,vs,e,_⟩:=hx;exact ⟨_,e⟩
  . cases h
 obtain ⟨ad,hv⟩:=hv;exact ⟨a.eval x,by simp [execOp,ho,hv],hx⟩
def lenH (η:List SB) (sh:Sh):SV->Option (List Nat×Nat)
 | .one (.sl _ _ _ n)=>match sh with
  | .slice _ _ _ _=>some ([],n)
  | _=>none
 | .one (.mp b)=>match sh with
  | .map _ _=>match gB η b with
   | .map es=>some ([b],es.length)
   | _=>none
  | _=>none
 | _=>none
theorem EnR.length {η:List SB} {ρ:Nat->Value} {M:Nat->Nat->Prop} {w:World}:∀{es:List MapEntry} {l:List (Value×SV)},EnR η ρ M w es l->es.length=l.length
 | [],[],_=>rfl
 | _::_,_::_,h=>by simp [h.2.length]
theorem ywi {d:TypeDesc} {k e:TypeId} (h:shOf P d=.map k e):d=.map k e:=by
 unfold shOf at h
 split at h<;>first | (cases h;done) | (cases h;rfl) | skip
 . split at h<;>cases h
 . split at h
   . split at h
     . split at h<;>cases h
     . cases h
   . cases h
theorem vli {b:Builtin} {ρ:Operand->Value} {xs:Array Operand} {ts:Array TypeId} (ho:o.op=.call { callee:=.builtin b,args:=xs,argTypes:=ts }) :
 execOp ρ o=builtin b ts o.type (xs.map fun | .const _=>true | _=>false) (xs.map ρ):=by
 unfold execOp;rw [ho];rfl
theorem ye5 (ho:o.op=.call { callee:=.builtin .len,args:=#[x],argTypes:=#[T] }) (hdst:o.dst=some d) (hti:mkTI P T=some ti) {n:Nat}
 (h:lenH η ti.sh (opdS Γ J x)=some (rh,n)):x6g Γ P o J η (d::orr x) rh [(d,.one (.dat (.raw (.int .i64 (n:Int)))))] []:=by
 refine x6g.pure hdst (fun E ρ J' η' a w hag hah hI=>⟨_,?_,RdC.raw rfl⟩);have hx:=hI.opd x;rw [hag.opd (fun t ht=>by simp [ht])] at hx;have hok:=xat hti;unfold lenH at h;split at h
 . rename_i b es lo k e;split at h
   . rename_i e' es' eb ik hsh
     cases h;rw [e] at hx;obtain ⟨_,ad,cap,hv,_⟩:=hx;have hrun:=Slot.run_len_slice (P:=P) hok hsh o.type ad n cap w;rw [vli ho,show (#[x]:Array Operand).map a.eval=#[a.eval x] from by simp]
     have:∀ cs,(builtin .len #[T] o.type cs #[a.eval x]).run P w=.ok (.value (.int .i64 n)) w:=fun cs=>by
      rw [hv];simp only [builtin,Sem.run_bind,hrun];rfl
     exact this _
   . cases h
 . rename_i b e;split at h
   . rename_i k ee hsh;split at h
     . rename_i es hb
       cases h;rw [e] at hx
       have hb':gB η' b=.map es:=by rw [hah.gB (by simp)];exact hb
       obtain ⟨bb,ents,clk,he,hh,hen,_⟩:=hI.sbr hb' (by simp);obtain ⟨dd,i,z,hd,hi,hz,hsz',hby,hzs,hone,hzc,hsh'⟩:=hok.ex;have hmap:=ywi (hsh'.symm.trans hsh);subst hmap;have hl:=hen.length
       have hv:a.eval x=.map (some bb):=by rw [hx.2.1,he]
       rw [vli ho,show (#[x]:Array Operand).map a.eval=#[a.eval x] from by simp]
       have:∀ cs,(builtin .len #[T] o.type cs #[a.eval x]).run P w=.ok (.value (.int .i64 es.length)) w:=fun cs=>by
        rw [hv];rw [<-hl];simp [builtin,Builtin.len_,y9m hd,getObj,Sem.run,hh,goInt]
       exact this _
     . cases h
   . cases h
 . cases h
def natH:SV->Option Nat
 | .one (.dat (.raw (.int _ n)))=>if 0<=n then some n.toNat else none
 | _=>none
def ycd (Γ:List (Nat×List Cell)) (J:List SV) (d:Nat):Option Operand->Option Nat
 | none=>some d
 | some x=>natH (opdS Γ J x)
theorem vw0 {v:Value} {x:SV} {n:Nat} (h:SVR η ρ M w v x) (hn:natH x=some n):∃ k,v=.int k n:=by
 unfold natH at hn;split at hn
 . rename_i k m;split at hn
   . rename_i h0
     cases hn;refine ⟨k,?_⟩;rw [RdC.v7q h];rw [Int.toNat_of_nonneg h0]
   . cases hn
 . cases hn
def vaw (Γ:List (Nat×List Cell)) (J:List SV) (sh:Sh) (x:SV) (lo hi:Option Operand):Option SV:=match sh,x with
 | .slice _ es _ _,.one (.sl b es' l0 n)=>match ycd Γ J 0 lo,ycd Γ J n hi with
  | some l,some h=>if es=es'/\l<=h/\h<=n then some (.one (.sl b es (l0+l) (h-l))) else none
  | _,_=>none
 | _,_=>none
theorem wz4 {lo hi:Option Operand} (ho:o.op=.slice T x lo hi none) (hdst:o.dst=some d) (hti:mkTI P T=some ti)
 (h:vaw Γ J ti.sh (opdS Γ J x) lo hi=some v):x6g Γ P o J η (d::(orr x++orrO lo++orrO hi)) [] [(d,v)] []:=by
 refine x6g.pure hdst (fun E ρ J' η' a w hag hah hI=>?_);have hx:=hI.opd x;rw [hag.opd (fun t ht=>by simp [ht])] at hx;have hok:=xat hti;unfold vaw at h;split at h
 . rename_i e es eb ik b es' l0 n hsh ex;split at h
   . rename_i l hh hl hh';split at h
     . rename_i hc;obtain ⟨rfl,h1,h2⟩:=hc
       cases h;rw [ex] at hx;obtain ⟨hob,ad,cap,hv,hle,hcap⟩:=hx;obtain ⟨dd,i,z,hd,hi',hz,hsz',hby,hzs,hone,hzc,hsh'⟩:=hok.ex;obtain ⟨rfl,j,z',hj,_,hjs,_,hes0,_⟩:=zz2 (hsh'.symm.trans hsh)
       have hlo:match (lo.map a.eval) with | none=>l=0 | some v=>∃ k,v=.int k l:=by
        cases lo with
        | none=>simp only [ycd,Option.some.injEq] at hl;exact hl.symm
        | some y=>
         have hy:=hI.opd y;rw [hag.opd (fun t ht=>by simp [orrO,ht])] at hy;exact vw0 hy hl
       have hhi:match (hi.map a.eval) with | none=>hh=n | some v=>∃ k,v=.int k hh:=by
        cases hi with
        | none=>simp only [ycd,Option.some.injEq] at hh';exact hh'.symm
        | some y=>
         have hy:=hI.opd y;rw [hag.opd (fun t ht=>by simp [orrO,ht])] at hy;exact vw0 hy hh'
       have hb:=viu (P:=P) (isS:=true) (len:=n) (cap:=cap) hlo hhi h1 (Nat.le_trans h2 hle) w;refine ⟨.slice (if cap=l then ad else ad.map (·.add (l*es))) (hh-l) (cap-l),?_,hob,_,_,rfl,by omega,fun h0=>?_⟩
       . cases ad with
         | none=>simp [execOp,ho,hv,Instr.sliceAt,y9m hd,Instr.slice,hb,ynn hj,hjs]
         | some ad=>simp [execOp,ho,hv,Instr.sliceAt,y9m hd,Instr.slice,hb,ynn hj,hjs]
       . obtain ⟨hre,had,arr,T',fz,hheap,hsz⟩:=hcap (by omega);subst had;refine ⟨hre,?_,arr,T',fz,hheap,?_⟩
         . rw [if_neg (by omega)];simp [v74,Nat.add_mul]
         . rw [show l0+l+(cap-l)=l0+cap by omega];exact hsz
     . cases h
   . cases h
 . cases h
end Go.Hp
