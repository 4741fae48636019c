/- The proof, part Y15: Hb, Hc. -/
import Derived.Test.YtjhbbadljohadaaGreatDoorY14
namespace Go.Hp
open Go Go.RowKit Go.Slot
structure HEnv where
 w0:World
 Mo:Nat->Nat->Prop
 ρ0:Nat->Value
 η0:List SB
def gtS (σ:List SV) (i:Nat):SV:=(σ[i]?).getD .any
def gB (η:List SB) (b:Nat):SB:=(η[b]?).getD .dead
structure RI (Γ:List (Nat×List Cell)) (E:HEnv) (ρ:Nat->Value) (σ:List SV) (η:List SB) (a:Act) (w:World):Prop where
 hd:a.defers=[]
 hs:a.tmps.size=σ.length
 slot:∀(i:Nat) (x:SV),σ[i]? = some x->SVR η ρ (MX E.Mo ρ η) w (a.tmps.getD i Go.undef) x
 went:Went Γ E.Mo E.ρ0 E.η0 E.w0 ρ η w
section
variable {Γ:List (Nat×List Cell)} {E:HEnv} {ρ ρ':Nat->Value} {σ:List SV} {η η':List SB} {a:Act} {w w':World}
theorem RI.inv (h:RI Γ E ρ σ η a w):HInv Γ E.Mo ρ η w:=h.went.inv
theorem RI.go (h:RI Γ E ρ σ η a w) (k:Went Γ E.Mo ρ η w ρ' η' w'):RI Γ E ρ' σ η' a w':=
 ⟨h.hd,h.hs,fun i x hi=>(h.slot i x hi).mv k.mv,h.went.trans k⟩
theorem RI.lt (h:RI Γ E ρ σ η a w) {i:Nat} {x:SV} (hi:σ[i]? = some x):i<a.tmps.size:=by
 have:=(List.getElem?_eq_some_iff.1 hi).1
 rw [h.hs];exact this
theorem RI.put (h:RI Γ E ρ σ η a w) {d:Nat} {x:SV} {v:Value} (hx:SVR η ρ (MX E.Mo ρ η) w v x):RI Γ E ρ (σ.set d x) η (a.put (some d) v) w:=by
 refine ⟨h.hd,by simpa [Act.put] using h.hs,fun i y hi=>?_,h.went⟩
 show SVR η ρ (MX E.Mo ρ η) w ((a.tmps.setIfInBounds d v).getD i Go.undef) y
 have hlen:i<σ.length:=by simpa using (List.getElem?_eq_some_iff.1 hi).1
 rcases zay hi with ⟨rfl,rfl⟩ | ⟨hn,hi⟩
 · have:i<a.tmps.size:=by rw [h.hs];exact hlen
   rw [show (a.tmps.setIfInBounds i v).getD i Go.undef=v by simp [this]]
   exact hx
 · rw [Slot.getD_set_ne (Ne.symm hn)]
   exact h.slot i y hi
theorem RI.gt (h:RI Γ E ρ σ η a w) (t:Nat):SVR η ρ (MX E.Mo ρ η) w (a.tmps.getD t Go.undef) (gtS σ t):=by
 unfold gtS
 cases ht:σ[t]? with
 | none=>exact trivial
 | some x=>exact h.slot t x ht
def zk1 (v:Value):SV:=match zcv v with
 | .one c=>.one (.dat c)
 | .agg cs=>.agg (cs.map .dat)
 | _=>.any
def zke:List (Nat×List Cell)->Nat->SV
 | [],_=>.any
 | (g,cs)::r,i=>if g=i then .elt cs else zke r i
def opdS (Γ:List (Nat×List Cell)) (σ:List SV):Operand->SV
 | .tmp t=>gtS σ t
 | .const v=>zk1 v
 | .func f=>.one (.dat (.raw (.func (.func f) #[] #[])))
 | .global g=>zke Γ g
theorem zrd:∀(Γ:List (Nat×List Cell)) (i:Nat),zke Γ i=.any∨∃ cs,zke Γ i=.elt cs/\(i,cs)∈Γ
 | [],_=>.inl rfl
 | (g,cs)::r,i=>by
  unfold zke
  split
  · rename_i e;subst e;exact .inr ⟨cs,rfl,by simp⟩
  · rcases zrd r i with h | ⟨cs',h,hm⟩
    · exact .inl h
    · exact .inr ⟨cs',h,by simp [hm]⟩
theorem z16 {M:Nat->Nat->Prop} (v:Value):SVR η ρ M w v (zk1 v):=by
 have h:=zql (M:=M) (w:=w) (τ:=fun _=>⟨Go.undef,0⟩) v
 unfold zk1
 cases hc:zcv v with
 | one c=>
  rw [hc] at h
  have hb:RdC M w v c.bare:=RdT.bare h
  have hnt:c.bare=c:=by
   unfold zcv at hc
   split at hc
   · split at hc<;>cases hc
   · cases hc
   · cases hc;rfl
  rw [hnt] at hb
  exact hb
 | agg cs =>
  rw [hc] at h
  obtain ⟨vs,e,hr⟩:=h
  refine ⟨vs,e,?_⟩
  have hraw:∃ us:List Value,cs=us.map .raw:=by
   unfold zcv at hc
   split at hc
   · split at hc
     · cases hc;exact ⟨_,rfl⟩
     · cases hc
   · cases hc
   · cases hc
  obtain ⟨us,rfl⟩:=hraw
  have:∀(vs us:List Value),RdL M w (fun _=>⟨Go.undef,0⟩) vs (us.map .raw)->HRL η ρ M w vs ((us.map Cell.raw).map .dat):=by
   intro vs
   induction vs with
   | nil=>intro us h;cases us with
    | nil=>trivial
    | cons _ _=>exact h.elim
   | cons v vs ih=>intro us h;cases us with
    | nil=>exact h.elim
    | cons u us=>exact ⟨h.1,ih us h.2⟩
  exact this vs us hr
 | _=>exact trivial
theorem RI.opd (h:RI Γ E ρ σ η a w) (x:Operand):SVR η ρ (MX E.Mo ρ η) w (a.eval x) (opdS Γ σ x):=by
 cases x with
 | tmp t=>exact h.gt t
 | const v=>exact z16 v
 | func f=>exact RdC.raw rfl
 | global g=>
  show SVR η ρ (MX E.Mo ρ η) w (a.eval (.global g)) (zke Γ g)
  rcases zrd Γ g with e | ⟨cs,e,hm⟩
  · rw [e];exact trivial
  · rw [e]
    obtain ⟨vs,h1,h2⟩:=h.inv.glob g cs hm
    exact ⟨g,0,vs,rfl,fun j u hj=>by rw [Nat.zero_add];exact h1 j u hj,h2⟩
end
def appL {α:Type}:List (Nat×α)->List α->List α
 | [],l=>l
 | (i,x)::r,l=>appL r (l.set i x)
def agS (rd:List Nat) (σ σ':List SV):Prop:=σ'.length=σ.length/\∀ r∈rd,gtS σ' r=gtS σ r
def agB (rh:List Nat) (η η':List SB):Prop:=η'.length=η.length/\∀ r∈rh,η'[r]? = η[r]?
def zaf (Γ:List (Nat×List Cell)) (P:Program) (o:Oper) (σ:List SV) (η:List SB) (rd rh:List Nat) (eff:List (Nat×SV)) (heff:List (Nat×SB)):Prop:=
 ∀(E:HEnv) (ρ:Nat->Value) (σ':List SV) (η':List SB) (a:Act) (w:World),agS rd σ σ'->agB rh η η'->RI Γ E ρ σ' η' a w->∀(K:Act->World->Prop) (Q:Exit->Act->World->Prop),
  (∀ a' w' ρ',RI Γ E ρ' (appL eff σ') (appL heff η') a' w'->K a' w')->o.wp P a w K Q
theorem agS.opd {Γ:List (Nat×List Cell)} {rd:List Nat} {σ σ':List SV} (h:agS rd σ σ') {x:Operand} (hx:∀ t∈orr x,t∈rd):opdS Γ σ' x=opdS Γ σ x:=by
 cases x with
 | tmp t=>exact h.2 t (hx t (by simp [orr]))
 | _=>rfl
theorem agB.gB {rh:List Nat} {η η':List SB} (h:agB rh η η') {b:Nat} (hb:b∈rh):gB η' b=gB η b:=by
 unfold Hp.gB;rw [h.2 b hb]
def datH:HC->Option Cell
 | .dat c=>some c
 | _=>none
def datL:List HC->Option (List Cell)
 | []=>some []
 | .dat c::r=>(datL r).map (c::·)
 | _::_=>none
def vwO:HC->AV
 | .dat c=>.one c
 | _=>.any
def vwG:Option (List Cell)->AV
 | some cs=>.agg cs
 | none=>.any
def vw:SV->AV
 | .one h=>vwO h
 | .agg hs=>vwG (datL hs)
 | .elt cs=>.elt cs
 | .undef=>.undef
 | _=>.any
theorem z7y {σ:List SV} (i:Nat):gt (σ.map vw) i=vw (gtS σ i):=by
 unfold gt gtS
 rw [List.getElem?_map]
 cases σ[i]?<;>rfl
theorem zq0 (x:SV):(vw x).za6=false:=by
 unfold vw
 cases x with
 | one h=>cases h<;>rfl
 | agg hs=>simp only;cases datL hs<;>rfl
 | _=>rfl
theorem yit (x:SV):(vw x).rf=none:=by
 unfold vw
 cases x with
 | one h=>cases h<;>rfl
 | agg hs=>simp only;cases datL hs<;>rfl
 | _=>rfl
section
variable {Γ:List (Nat×List Cell)} {E:HEnv} {ρ ρ':Nat->Value} {σ:List SV} {η η':List SB} {a:Act} {w w':World} {M:Nat->Nat->Prop}
theorem RdC.za9 {v:Value} {c:Cell} (h:RdC M w v c) (d:Nat):¬c.za9 d:=h.zb8 d
theorem HRL.dat:∀{vs:List Value} {hs:List HC} {cs:List Cell},HRL η ρ M w vs hs->datL hs=some cs->RdD M w vs cs
 | [],[],cs,_,hd=>by simp [datL] at hd;subst hd;trivial
 | v::vs,h::hs,cs,hr,hd=>by
  cases h with
  | dat c=>
   simp only [datL,Option.map_eq_some_iff] at hd
   obtain ⟨l,hl,rfl⟩:=hd
   exact ⟨hr.1,HRL.dat hr.2 hl⟩
  | _=>simp [datL] at hd
theorem RdD.rdl {τ:Nat->TV}:∀{vs:List Value} {cs:List Cell},RdD M w vs cs->RdL M w τ vs cs
 | [],[],_=>trivial
 | _::_,_::_,h=>⟨RdT.of h.1,RdD.rdl h.2⟩
theorem ykf {τ:Nat->TV} {tm:Array Value} {v:Value} {x:SV} (h:SVR η ρ M w v x):zan M w τ tm v (vw x)/\∀ d,¬(vw x).za9 d:=by
 cases x with
 | one c=>
  cases c with
  | dat c=>exact ⟨RdT.of h,fun d hd=>(RdC.zb8 h d) hd⟩
  | _=>exact ⟨trivial,fun d hd=>hd⟩
 | agg hs=>
  obtain ⟨vs,rfl,hr⟩:=h
  show zan M w τ tm _ (vwG (datL hs))/\∀ d,¬(vwG (datL hs)).za9 d
  cases hd:datL hs with
  | none=>exact ⟨trivial,fun d hd=>hd⟩
  | some cs=>
   have hrd:=HRL.dat hr hd
   exact ⟨⟨vs,rfl,RdD.rdl hrd⟩,fun d hd=>hrd.zb8 hd⟩
 | elt cs=>exact ⟨h,fun d hd=>hd⟩
 | undef=>exact ⟨h,fun d hd=>hd⟩
 | any=>exact ⟨trivial,fun d hd=>hd⟩
 | tup l=>exact ⟨trivial,fun d hd=>hd⟩
def yj9 (h:RI Γ E ρ σ η a w):Env:=⟨w,MX E.Mo ρ η,fun _=>False,#[],fun _ _ hm=>z50 h.inv hm⟩
theorem RI.old (h:RI Γ E ρ σ η a w):RelI (yj9 h) (fun _=>⟨Go.undef,0⟩) (MX E.Mo ρ η) (σ.map vw) a w:=by
 have hget:∀(i:Nat) (av:AV),(σ.map vw)[i]? = some av->∃ x,σ[i]? = some x/\av=vw x:=fun i av hi=>by
  rw [List.getElem?_map] at hi
  obtain ⟨x,hx,rfl⟩:=Option.map_eq_some_iff.1 hi
  exact ⟨x,hx,rfl⟩
 have hlive:∀ d,¬live (σ.map vw) d:=fun d ⟨i,av,hi,ht⟩=>by
  obtain ⟨x,hx,rfl⟩:=hget i av hi
  exact (ykf (τ:=fun _=>⟨Go.undef,0⟩) (tm:=a.tmps) (h.slot i x hx)).2 d ht
 refine ⟨h.hd,by simpa using h.hs,?_,fun _ _ hm=>hm,fun _ _ hm=>z50 h.inv hm,?_,?_,?_,fun d hd=>absurd hd (hlive d),fun d _ _ hd=>absurd hd (hlive d),fun d _ _ hd=>absurd hd (hlive d),Nat.le_refl _,rfl,rfl,rfl,fun _ _ _=>rfl⟩
 · intro i av hi
   obtain ⟨x,hx,rfl⟩:=hget i av hi
   exact (ykf (h.slot i x hx)).1
 · intro i av hi hh
   obtain ⟨x,hx,rfl⟩:=hget i av hi
   rw [zq0] at hh;cases hh
 · intro i j x y hi hj hx
   obtain ⟨x',_,rfl⟩:=hget i x hi
   rw [zq0] at hx;cases hx
 · intro i av s b hi hr
   obtain ⟨x,hx,rfl⟩:=hget i av hi
   rw [yit] at hr;cases hr
end
def valB:Builtin->Bool
 | .len | .cap | .append | .max | .min | .copy | .unsafeSliceData | .unsafeString=>true
 | _=>false
def z2k:Op->Bool
 | .move _ | .assign _ | .pick _ _ _ | .alloc _ | .box _ _ | .build _ _ | .buildSlice _ _ _ | .load _ _ | .binOp _ _ _ _ _ | .unOp _ _ _ | .convert _ _ _ | .makeSlice _ _ _ | .slice _ _ _ _ _ | .fieldAddr _ _ _ | .field _ _ _ | .indexAddr _ _ _
 | .index _ _ _ | .extract _ _=>true
 | .call { callee:=.builtin b,.. }=>valB b
 | _=>false
theorem zps {P:Program} {α:Type} {f:α->Value} {s:Sem α} {w w':World} {n:Next} (h:(s.bind (fun v=>.pure (.value (f v))):Sem Next).run P w=.ok n w'):∃ v,n=.value v:=by
 induction s generalizing w with
 | pure a=>simp only [Sem.bind,Sem.run,Result.ok.injEq] at h;exact ⟨f a,h.1.symm⟩
 | load m ad k ih=>
  simp only [Sem.bind,Sem.run] at h
  split at h
  · exact ih _ h
  · split at h
    · exact ih _ h
    · cases h
 | store m ad v k ih=>
  cases v<;>simp only [Sem.bind,Sem.run] at h<;>first | (cases h;done) | skip
  all_goals
   split at h
   · split at h
     · cases h
     · exact ih h
   · split at h
     · exact ih h
     · cases h
 | new ob k ih=>exact ih _ h
 | shape r k ih=>exact ih _ h
 | freeze ad n k ih=>exact ih h
 | frozen ad k ih=>exact ih _ h
 | getObj r k ih=>
  simp only [Sem.bind,Sem.run] at h
  split at h
  · cases h
  · exact ih _ h
  · cases h
 | setObj r ob k ih=>
  simp only [Sem.bind,Sem.run] at h
  split at h
  · cases h
  · exact ih h
  · cases h
 | choose q k ih=>
  simp only [Sem.bind,Sem.run] at h
  split at h
  · exact ih _ h
  · exact ih _ h
 | sys c k ih=>exact ih _ h
 | program k ih=>exact ih _ h
 | mark m k ih=>exact ih h
 | halt hh=>cases h
theorem zrc {P:Program} {s:Sem Value} {w w':World} {n:Next} (h:(do pure (.value (<-s)):Sem Next).run P w=.ok n w'):∃ v,n=.value v:=
 zps (f:=id) h
theorem zv3 {P:Program} {o:Oper} (hv:z2k o.op=true) {ρ:Operand->Value} {w w':World} {n:Next} (h:(execOp ρ o).run P w=.ok n w'):∃ v,n=.value v:=by
 unfold execOp at h
 unfold z2k at hv
 split at hv<;>first | (cases hv;done) | skip
 all_goals (rename_i heq;rw [heq] at h)
 case h_19 b xs ts=>
  have h:(builtin b ts o.type _ (xs.map ρ)).run P w=.ok n w':=h
  unfold valB at hv
  split at hv<;>first | (cases hv;done) | skip
  all_goals exact zrc h
 all_goals first
  | exact zrc h
  | exact zps (f:=fun b=>if b=true then ρ _ else ρ _) h
  | (simp only [Sem.run_pure,Result.ok.injEq] at h;exact ⟨_,h.1.symm⟩)
end Go.Hp

namespace Go.Hp
open Go Go.RowKit Go.Slot
variable {P:Program} {Γ:List (Nat×List Cell)}
theorem zaf.val {o:Oper} {σ:List SV} {η:List SB} {rd rh:List Nat} {d:Nat} {x:SV} {heff:List (Nat×SB)} (hdst:o.dst=some d)
 (hrun:∀(E:HEnv) (ρ:Nat->Value) (σ':List SV) (η':List SB) (a:Act) (w:World),agS rd σ σ'->agB rh η η'->RI Γ E ρ σ' η' a w->
   ∃ v w' ρ',(execOp a.eval o).run P w=.ok (.value v) w'/\Went Γ E.Mo ρ η' w ρ' (appL heff η') w'/\SVR (appL heff η') ρ' (MX E.Mo ρ' (appL heff η')) w' v x):zaf Γ P o σ η rd rh [(d,x)] heff:=by
 intro E ρ σ' η' a w hag hah hI K Q hK
 obtain ⟨v,w',ρ',hr,hw,hx⟩:=hrun E ρ σ' η' a w hag hah hI
 unfold Oper.wp
 rw [hr]
 show K (a.put o.dst v) w'
 rw [hdst]
 exact hK _ _ ρ' ((hI.go hw).put hx)
theorem zaf.pure {o:Oper} {σ:List SV} {η:List SB} {rd rh:List Nat} {d:Nat} {x:SV} (hdst:o.dst=some d)
 (hrun:∀(E:HEnv) (ρ:Nat->Value) (σ':List SV) (η':List SB) (a:Act) (w:World),agS rd σ σ'->agB rh η η'->RI Γ E ρ σ' η' a w->
   ∃ v,(execOp a.eval o).run P w=.ok (.value v) w/\SVR η' ρ (MX E.Mo ρ η') w v x):zaf Γ P o σ η rd rh [(d,x)] []:=
 zaf.val hdst (fun E ρ σ' η' a w hag hah hI=>by
  obtain ⟨v,h1,h2⟩:=hrun E ρ σ' η' a w hag hah hI
  exact ⟨v,w,ρ,h1,Went.refl hI.inv,h2⟩)
theorem zaf.skip {o:Oper} {σ:List SV} {η:List SB} {rd rh:List Nat} {heff:List (Nat×SB)} (hdst:o.dst=none)
 (hrun:∀(E:HEnv) (ρ:Nat->Value) (σ':List SV) (η':List SB) (a:Act) (w:World),agS rd σ σ'->agB rh η η'->RI Γ E ρ σ' η' a w->
   ∃ w' ρ',(execOp a.eval o).run P w=.ok .skip w'/\Went Γ E.Mo ρ η' w ρ' (appL heff η') w'):zaf Γ P o σ η rd rh [] heff:=by
 intro E ρ σ' η' a w hag hah hI K Q hK
 obtain ⟨w',ρ',hr,hw⟩:=hrun E ρ σ' η' a w hag hah hI
 unfold Oper.wp
 rw [hr]
 show K (a.put o.dst Go.undef) w'
 rw [hdst]
 exact hK _ _ ρ' (hI.go hw)
theorem agS.view {rd:List Nat} {σ σ':List SV} (h:agS rd σ σ'):zgp rd (σ.map vw) (σ'.map vw):=
 ⟨by simp [h.1],fun r hr=>by rw [z7y,z7y,h.2 r hr]⟩
theorem RI.take {E:HEnv} {ρ:Nat->Value} {σ:List SV} {σv:List AV} {η:List SB} {a:Act} {w:World} (h:RI Γ E ρ σ η a w) {o:Oper} {d:Nat} {av:AV} {rd:List Nat} (hvo:z2k o.op=true) (hdst:o.dst=some d) (hlt:d<σ.length)
 (hst:zam P o σv rd [] [(d,av)]) (hag:zgp rd σv (σ.map vw)) :
 ∃ v w' M' τ tm,(execOp a.eval o).run P w=.ok (.value v) w'/\Below w.heap.size w w'/\(∀ b o,MX E.Mo ρ η b o->M' b o)/\zan M' w' τ tm v av/\(av.za6=true->av.fresh=true->w.heap.size<=blk v/\∀ o,M' (blk v) o):=by
 have hA:=hst (yj9 h) (σ.map vw) a w hag (by intro t ht;cases ht) ⟨_,_,h.old⟩ (fun a' w'=>Rel (yj9 h) ((σ.map vw).set d av) a' w') (fun _ _ _=>False) (fun a' w' hR=>hR)
 unfold Oper.wp at hA
 cases hr:(execOp a.eval o).run P w with
 | halt hh w'=>
  rw [hr] at hA
  cases hh<;>exact hA.elim
 | ok n w'=>
  obtain ⟨v,rfl⟩:=zv3 hvo hr
  rw [hr] at hA
  rw [Oper.upon_value,hdst] at hA
  obtain ⟨τ,M',hI⟩:=hA
  have hd:((σ.map vw).set d av)[d]? = some av:=by simp [hlt]
  have hs:=hI.slot d av hd
  have hlt':d<a.tmps.size:=by rw [h.hs];exact hlt
  have hself:(a.put (some d) v).tmps.getD d Go.undef=v:=by simp [Act.put,hlt']
  rw [hself] at hs
  refine ⟨v,w',M',τ,_,rfl,⟨hI.os,hI.tape,hI.output,hI.size,fun k hk=>hI.frame k hk (fun hx=>hx)⟩,hI.m0,hs,fun hh hf=>?_⟩
  have h1:=(hI.hold d av hd hh).2.2.1 hf
  have h2:=(hI.hold d av hd hh).1
  rw [hself] at h1 h2
  exact ⟨h1,h2⟩
def av2 (nb:Nat):AV->Option (SV×Option SB)
 | .one c=>some (.one (.dat c.bare),none)
 | .agg cs=>some (.agg ((zbs cs).map .dat),none)
 | .elt cs=>some (.elt cs,none)
 | .any=>some (.any,none)
 | .arr [] c none=>some (.one (.sl nb c.esz 0 c.cnt),some (.arr c 0 none))
 | _=>none
theorem RdL.hrl {η:List SB} {ρ:Nat->Value} {M M':Nat->Nat->Prop} {w:World} {τ:Nat->TV} (hM:∀ b o,M b o->M' b o):∀{vs:List Value} {cs:List Cell},RdL M' w τ vs cs->HRL η ρ M w vs ((zbs cs).map .dat)
 | [],[],_=>trivial
 | _::_,_::_,h=>⟨(RdT.bare h.1).keep (zav.shrink w hM),RdL.hrl hM h.2⟩
def oB (nb:Nat):Option SB->List (Nat×SB)
 | none=>[]
 | some x=>[(nb,x)]
def oN (nb:Nat):Option SB->List Nat
 | none=>[]
 | some _=>[nb]
def zgb (η:List SB) (nb:Nat):Bool:=match η[nb]? with
 | some .fresh=>true
 | _=>false
theorem z18 {η:List SB} {nb:Nat} (h:zgb η nb=true):η[nb]? = some .fresh:=by
 unfold zgb at h
 split at h
 · assumption
 · cases h
theorem agB.room {rh:List Nat} {η η':List SB} (h:agB rh η η') {nb:Nat} (hb:nb∈rh) (hr:zgb η nb=true):η'[nb]? = some .fresh:=by
 rw [h.2 nb hb];exact z18 hr
def zxp (η:List SB) (nb:Nat):Option SB->Bool
 | none=>true
 | some _=>zgb η nb
theorem ygi {o:Oper} {σ:List SV} {η:List SB} {nb d:Nat} {rd:List Nat} {av:AV} {x:SV} {ob:Option SB} (hvo:z2k o.op=true) (hdst:o.dst=some d) (hst:zam P o (σ.map vw) rd [] [(d,av)])
 (hd:d<σ.length) (h2:av2 nb av=some (x,ob)) (hroom:zxp η nb ob=true):zaf Γ P o σ η rd (oN nb ob) [(d,x)] (oB nb ob):=by
 refine zaf.val hdst (fun E ρ σ' η' a w hag hah hI=>?_)
 obtain ⟨v,w',M',τ,tm,hrun,hb,hM,hs,hf⟩:=hI.take hvo hdst (by rw [hag.1];exact hd) hst hag.view
 have plain:ob=none->SVR η' ρ (MX E.Mo ρ η') w' v x->∃ v w' ρ',(execOp a.eval o).run P w=.ok (.value v) w'/\Went Γ E.Mo ρ η' w ρ' (appL (oB nb ob) η') w'/\SVR (appL (oB nb ob) η') ρ' (MX E.Mo ρ' (appL (oB nb ob) η')) w' v x:=fun e hx=>by
  subst e
  exact ⟨v,w',ρ,hrun,Went.below hI.inv hb,hx⟩
 unfold av2 at h2
 split at h2
 · rename_i c
   cases h2
   exact plain rfl ((RdT.bare hs).keep (zav.shrink w' hM))
 · rename_i cs
   cases h2
   obtain ⟨vs,e,hr⟩:=hs
   exact plain rfl ⟨vs,e,RdL.hrl hM hr⟩
 · rename_i cs
   cases h2
   obtain ⟨b,off,vs,e,hc,hr⟩:=hs
   exact plain rfl ⟨b,off,vs,e,fun j u hj=>⟨fun hm=>(hc j u hj).1 (hM _ _ hm),(hc j u hj).2⟩,hr.keep (zav.shrink w' hM)⟩
 · cases h2
   exact plain rfl trivial
 · rename_i c
   cases h2
   obtain ⟨b,T,vs,q,cap,rfl,hbk,hr,_,hu,hcap,hsz⟩:=hs
   have hfr:=hah.room (show nb∈oN nb (some (SB.arr c 0 none)) by simp [oN]) hroom
   have hge:w.heap.size<=b:=(hf rfl rfl).1
   have hlt:nb<η'.length:=(List.getElem?_eq_some_iff.1 hfr).1
   have hok:okB (η'.set nb (.arr c 0 none)) nb:=⟨_,by simp [hlt];rfl,by simp⟩
   refine ⟨_,w',upd ρ nb (.pointer (some ⟨b,0,none⟩)),hrun,Went.new hI.inv hb hfr (by simp) (fun _ _=>hge) (fun _=>⟨⟨hu,Nat.zero_le _⟩,.inr ⟨b,vs,q,T,rfl,by simpa using hbk,hr.keep (zav.shrink w' ?_),by simp⟩⟩),?_⟩
   · intro b' o' hm
     rcases hm with hm | ⟨i,y,hi,hy,hre,e⟩
     · exact hM _ _ (.inl hm)
     · rcases zay hi with ⟨rfl,rfl⟩ | ⟨hn,hi⟩
       · rw [zax] at e
         subst e
         exact (hf rfl rfl).2 o'
       · rw [zg3 hn] at hre e
         exact hM _ _ (.inr ⟨i,y,hi,hy,hre,e⟩)
   · refine ⟨hok,_,cap,rfl,hcap,fun _=>⟨by rw [zax];simp [real],by rw [zax];simp [bk,blk],_,T,_,by rw [zax];exact hbk,?_⟩⟩
     simpa using hsz
 · cases h2
end Go.Hp
