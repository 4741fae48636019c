/- The proof, part Z9: Hp, Hq, Hr, Hk. -/
import Derived.Test.YtjhbbadljohadaaGreatDoorZ8
namespace Go.Hp
open Go Go.RowKit Go.Slot
variable {P:Program} {Γ:List (Nat×List Cell)}
theorem yieldedH {E:HEnv} {ρ:Nat→Value} {σ:List SV} {η:List SB} {a:Act} {w:World} {ops:Array Oper} {j d:Nat} (hj:(ops[j]?).bind (·.dst)=some d) (hd:d<σ.length) (hI:RI Γ E ρ σ η a w) :
 (∀ b,gtS σ d=.one (.dat (.raw (.bool b)))→yielded ops a.tmps j=some b)∧(gtS σ d=.undef→yielded ops a.tmps j=none):=by
 have hs:=hI.gt d
 have hlt:d<a.tmps.size:=by rw [hI.hs];exact hd
 unfold yielded
 rw [hj]
 simp only [Option.bind_some]
 constructor
 · intro b hb
   rw [hb] at hs
   have e:a.tmps.getD d Go.undef=.bool b:=RdC.raw_inv hs
   rw [Array.getElem?_eq_getElem hlt]
   rw [Array.getD_eq_getD_getElem?,Array.getElem?_eq_getElem hlt] at e
   simp at e
   rw [e]
 · intro hb
   rw [hb] at hs
   have e:a.tmps.getD d Go.undef=Go.undef:=hs
   rw [Array.getElem?_eq_getElem hlt]
   rw [Array.getD_eq_getD_getElem?,Array.getElem?_eq_getElem hlt] at e
   simp at e
   rw [e]
   rfl
theorem gtS_lt {σ:List SV} {d:Nat} {x:SV} (h:gtS σ d=x) (hx:x≠.any):d<σ.length:=by
 rcases Nat.lt_or_ge d σ.length with h1 | h1
 · exact h1
 · unfold gtS at h;rw [List.getElem?_eq_none h1] at h;exact absurd h.symm hx
def GP (Γ:List (Nat×List Cell)) (P:Program) (ops:Array Oper) (o:Oper) (σ:List SV) (η:List SB) (σ2:List SV) (η2:List SB):Prop:=
 ∀(E:HEnv) (ρ:Nat→Value) (a:Act) (w:World),RI Γ E ρ σ η a w→∀(K:Act→World→Prop) (Q:Exit→Act→World→Prop),
  (∀ a' w' ρ',RI Γ E ρ' σ2 η2 a' w'→K a' w')→if Region.wanted o (yielded ops a.tmps) then o.wp P a w K Q else K (a.put o.dst Go.undef) w
def GH (Γ:List (Nat×List Cell)) (P:Program) (ops:Array Oper) (o:Oper) (σ:List SV) (η:List SB) (rd rh:List Nat) (eff:List (Nat×SV)) (heff:List (Nat×SB)):Prop:=
 ∀(E:HEnv) (ρ:Nat→Value) (σ':List SV) (η':List SB) (a:Act) (w:World),agS rd σ σ'→agB rh η η'→RI Γ E ρ σ' η' a w→∀(K:Act→World→Prop) (Q:Exit→Act→World→Prop),
  (∀ a' w' ρ',RI Γ E ρ' (appL eff σ') (appL heff η') a' w'→K a' w')→if Region.wanted o (yielded ops a.tmps) then o.wp P a w K Q else K (a.put o.dst Go.undef) w
theorem GP.plain {ops:Array Oper} {o:Oper} {σ σ2:List SV} {η η2:List SB} (hg:o.guard=none) (h:PStep Γ P o σ η σ2 η2):GP Γ P ops o σ η σ2 η2:=
 fun E ρ a w hI K Q hK=>by simp only [Region.wanted,hg,if_true];exact h E ρ a w hI K Q hK
theorem GP.taken {ops:Array Oper} {o:Oper} {σ σ2:List SV} {η η2:List SB} {j d:Nat} {b:Bool} (hg:o.guard=some (j,b)) (hj:(ops[j]?).bind (·.dst)=some d) (hd:gtS σ d=.one (.dat (.raw (.bool b)))) (h:PStep Γ P o σ η σ2 η2) :
 GP Γ P ops o σ η σ2 η2:=fun E ρ a w hI K Q hK=>by
 have hy:=(yieldedH hj (gtS_lt hd (by simp)) hI).1 b hd
 simp only [Region.wanted,hg,hy,beq_self_eq_true,if_true]
 exact h E ρ a w hI K Q hK
theorem notWanted {E:HEnv} {ρ:Nat→Value} {σ:List SV} {η:List SB} {a:Act} {w:World} {ops:Array Oper} {o:Oper} {j d:Nat} {b:Bool} (hI:RI Γ E ρ σ η a w) (hg:o.guard=some (j,b)) (hj:(ops[j]?).bind (·.dst)=some d)
 (hd:gtS σ d=.one (.dat (.raw (.bool (!b))))∨gtS σ d=.undef):Region.wanted o (yielded ops a.tmps)=false:=by
 rcases hd with hd | hd
 · have hy:=(yieldedH hj (gtS_lt hd (by simp)) hI).1 (!b) hd
   simp only [Region.wanted,hg,hy]
   cases b<;>rfl
 · have hy:=(yieldedH hj (gtS_lt hd (by simp)) hI).2 hd
   simp only [Region.wanted,hg,hy]
   rfl
theorem GP.skipped {ops:Array Oper} {o:Oper} {σ:List SV} {η:List SB} {j d:Nat} {b:Bool} (hg:o.guard=some (j,b)) (hj:(ops[j]?).bind (·.dst)=some d) (hd:gtS σ d=.one (.dat (.raw (.bool (!b))))∨gtS σ d=.undef) :
 GP Γ P ops o σ η (appL (dstEff o .undef) σ) η:=fun E ρ a w hI K Q hK=>by
 rw [notWanted hI hg hj hd]
 simp only [Bool.false_eq_true,if_false]
 exact hK _ _ ρ (hI.dst (v:=Go.undef) (x:=.undef) rfl)
theorem agS.sub {rd rd':List Nat} {σ σ':List SV} (h:agS rd σ σ') (hs:∀ r∈rd',r∈rd):agS rd' σ σ':=⟨h.1,fun r hr=>h.2 r (hs r hr)⟩
theorem GH.plain {ops:Array Oper} {o:Oper} {σ:List SV} {η:List SB} {rd rh:List Nat} {eff:List (Nat×SV)} {heff:List (Nat×SB)} (hg:o.guard=none) (h:HStep Γ P o σ η rd rh eff heff):GH Γ P ops o σ η rd rh eff heff:=
 fun E ρ σ' η' a w h1 h2 hI K Q hK=>by simp only [Region.wanted,hg,if_true];exact h E ρ σ' η' a w h1 h2 hI K Q hK
theorem GH.taken {ops:Array Oper} {o:Oper} {σ:List SV} {η:List SB} {rd rh:List Nat} {eff:List (Nat×SV)} {heff:List (Nat×SB)} {j d:Nat} {b:Bool} (hg:o.guard=some (j,b)) (hj:(ops[j]?).bind (·.dst)=some d)
 (hd:gtS σ d=.one (.dat (.raw (.bool b)))) (h:HStep Γ P o σ η rd rh eff heff):GH Γ P ops o σ η (d::rd) rh eff heff:=fun E ρ σ' η' a w h1 h2 hI K Q hK=>by
 have hd':gtS σ' d=.one (.dat (.raw (.bool b))):=by rw [h1.2 d (by simp)];exact hd
 have hy:=(yieldedH hj (gtS_lt hd' (by simp)) hI).1 b hd'
 simp only [Region.wanted,hg,hy,beq_self_eq_true,if_true]
 exact h E ρ σ' η' a w (h1.sub (fun r hr=>by simp [hr])) h2 hI K Q hK
theorem GH.skipped {ops:Array Oper} {o:Oper} {σ:List SV} {η:List SB} {j d:Nat} {b:Bool} (hg:o.guard=some (j,b)) (hj:(ops[j]?).bind (·.dst)=some d) (hd:gtS σ d=.one (.dat (.raw (.bool (!b))))∨gtS σ d=.undef) :
 GH Γ P ops o σ η (d::dstRd o) [] (dstEff o .undef) []:=fun E ρ σ' η' a w h1 h2 hI K Q hK=>by
 rw [notWanted hI hg hj (by rw [h1.2 d (by simp)];exact hd)]
 simp only [Bool.false_eq_true,if_false]
 exact hK _ _ ρ (hI.dst (v:=Go.undef) (x:=.undef) rfl)
def RunP (Γ:List (Nat×List Cell)) (P:Program) (ops:Array Oper):List Oper→List SV→List SB→(List SV→List SB→Prop)→Prop
 | [],σ,η,K=>K σ η
 | o::r,σ,η,K=>∃ σ2 η2,GP Γ P ops o σ η σ2 η2∧RunP Γ P ops r σ2 η2 K
theorem RunP.wpList {ops:Array Oper} {E:HEnv} {Q:Exit→Act→World→Prop} {K:List SV→List SB→Prop} (hQ:∀ σ η ρ a w,K σ η→RI Γ E ρ σ η a w→Q .normal a w):∀(l:List Oper) (σ:List SV) (η:List SB) (ρ:Nat→Value) (a:Act) (w:World),
 RunP Γ P ops l σ η K→RI Γ E ρ σ η a w→Go.wpList P ops Q l a w
 | [],σ,η,ρ,a,w,h,hR=>hQ σ η ρ a w h hR
 | o::r,σ,η,ρ,a,w,⟨σ2,η2,hg,hr⟩,hR=>by
  refine wpList_step (fun K' hK'=>?_)
  exact hg E ρ a w hR K' Q (fun a' w' ρ' hR'=>hK' _ _ (RunP.wpList hQ r σ2 η2 ρ' a' w' hr hR'))
section one
variable {α:Type}
def evL (eff:List (Nat×α)) (r:Nat):Option α:=(eff.reverse.find? (fun p=>p.1==r)).map (·.2)
theorem evL_cons (i:Nat) (x:α) (eff:List (Nat×α)) (r:Nat):evL ((i,x)::eff) r=(evL eff r).or (if i=r then some x else none):=by
 unfold evL
 rw [List.reverse_cons,List.find?_append]
 cases hf:eff.reverse.find? (fun p=>p.1==r) with
 | some q=>rfl
 | none=>
  simp only [Option.none_or,Option.map_none,List.find?_cons,List.find?_nil]
  by_cases h:i=r
  · simp [h]
  · have:(i==r)=false:=by simpa using h
    simp [this,h]
theorem appL_get:∀(eff:List (Nat×α)) (l:List α) (r:Nat),r<l.length→(appL eff l)[r]? = (evL eff r).or l[r]?
 | [],l,r,_=>by simp [appL,evL]
 | (i,x)::eff,l,r,h=>by
  simp only [appL]
  rw [appL_get eff (l.set i x) r (by simpa using h),evL_cons]
  cases evL eff r with
  | some v=>rfl
  | none=>
   simp only [Option.none_or]
   by_cases e:i=r
   · subst e;simp [h]
   · rw [List.getElem?_set_ne e];simp [e]
theorem evL_none {eff:List (Nat×α)} {r:Nat} (h:r∉eff.map (·.1)):evL eff r=none:=by
 unfold evL
 rw [Option.map_eq_none_iff,List.find?_eq_none]
 intro p hp
 simp only [beq_iff_eq]
 exact fun e=>h (List.mem_map.2 ⟨p,by simpa using hp,e⟩)
theorem evL_some {eff:List (Nat×α)} {r:Nat} (h:r∈eff.map (·.1)):∃ v,evL eff r=some v:=by
 unfold evL
 obtain ⟨p,hp,he⟩:=List.mem_map.1 h
 cases hf:eff.reverse.find? (fun p=>p.1==r) with
 | none=>rw [List.find?_eq_none] at hf;exact absurd (by simpa using he) (hf p (by simpa using hp))
 | some q=>exact ⟨q.2,rfl⟩
variable (effs:List (List (Nat×α))) (l0:List α)
def stL (X:Nat→Bool):Nat→List α
 | 0=>l0
 | n+1=>if X n then appL (effs.getD n []) (stL X n) else stL X n
theorem stL_length (X:Nat→Bool):∀ n,(stL effs l0 X n).length=l0.length
 | 0=>rfl
 | n+1=>by
  unfold stL
  split
  · rw [appL_length,stL_length X n]
  · exact stL_length X n
def wrL (i:Nat):List Nat:=(effs.getD i []).map (·.1)
theorem stL_agree {X Y:Nat→Bool} {r:Nat} (hr:r<l0.length):∀ n,(∀ i,i<n→r∈wrL effs i→X i=Y i)→(stL effs l0 X n)[r]? = (stL effs l0 Y n)[r]?
 | 0,_=>rfl
 | n+1,h=>by
  have ih:=stL_agree hr n (fun i hi=>h i (by omega))
  by_cases hw:r∈wrL effs n
  · have e:=h n (by omega) hw
    unfold stL
    rw [←e]
    split
    · rw [appL_get _ _ _ (by rw [stL_length];exact hr),appL_get _ _ _ (by rw [stL_length];exact hr),ih]
    · exact ih
  · have hn:evL (effs.getD n []) r=none:=evL_none hw
    have one:∀ Z,(stL effs l0 Z (n+1))[r]? = (stL effs l0 Z n)[r]?:=fun Z=>by
     show (if Z n then _ else _:List α)[r]? = _
     split
     · rw [appL_get _ _ _ (by rw [stL_length];exact hr),hn];rfl
     · rfl
    rw [one,one,ih]
theorem stL_last {Z:Nat→Bool} {r j:Nat} (hr:r<l0.length) (hj:Z j=true) {v:α} (hv:evL (effs.getD j []) r=some v):∀ n,j<n→(∀ i,j<i→i<n→Z i=true→r∉wrL effs i)→(stL effs l0 Z n)[r]? = some v
 | 0,h,_=>absurd h (by omega)
 | n + 1, h, ha => by
  by_cases e:j=n
  · subst e
    unfold stL
    rw [if_pos hj,appL_get _ _ _ (by rw [stL_length];exact hr),hv];rfl
  · have ih:=stL_last hr hj hv n (by omega) (fun i h1 h2=>ha i h1 (by omega))
    unfold stL
    split
    · rename_i hz
      rw [appL_get _ _ _ (by rw [stL_length];exact hr),evL_none (ha n (by omega) (by omega) hz)]
      exact ih
    · exact ih
theorem stL_below {X:Nat→Bool} {j:Nat}:∀ n,j≤n→(∀ i,j≤i→i<n→X i=false)→stL effs l0 X n=stL effs l0 X j
 | 0,h,_=>by rw [show j=0 by omega]
 | n+1,h,ha=>by
  by_cases e:j=n+1
  · rw [e]
  · rw [←stL_below n (by omega) (fun i h1 h2=>ha i h1 (by omega))]
    show (if X n then _ else _)=_
    rw [ha n (by omega) (by omega)]
    rfl
theorem stL_congr {X Y:Nat→Bool}:∀ n,(∀ i,i<n→X i=Y i)→stL effs l0 X n=stL effs l0 Y n
 | 0,_=>rfl
 | n+1,h=>by
  unfold stL
  rw [h n (by omega),stL_congr n (fun i hi=>h i (by omega))]
theorem text_stateL {N:Nat} (j:Nat) (hj:j≤N):stL effs l0 (fun i=>decide (i<j)) N=stL effs l0 (fun _=>true) j:=by
 rw [stL_below effs l0 N hj (fun i h1 _=>by simp;omega)]
 exact stL_congr effs l0 j (fun i hi=>by simp [hi])
variable {effs l0} {N:Nat} {bef:Nat→List Nat} {rds:Nat→List Nat}
theorem NextL.agree (hlt:∀ j i,i∈bef j→i<j) (hdisj:∀ i j,i<N→j<N→i≠j→i∉bef j→j∉bef i→∀ r∈rds j,r∉wrL effs i) {X:Nat→Bool} {j:Nat} (hj:j<N) (hX:Slot.Next bef X j) {r:Nat} (hr:r∈rds j) :
 (stL effs l0 X N)[r]? = (stL effs l0 (fun _=>true) j)[r]?:=by
 by_cases hlen:r<l0.length
 · rw [← text_stateL (N := N) effs l0 j (by omega)]
   refine stL_agree effs l0 hlen N (fun i hi hw=>?_)
   by_cases e:i=j
   · subst e;rw [hX.out];simp
   · by_cases h1:i∈bef j
     · rw [hX.all i h1];simp [hlt j i h1]
     · by_cases h2:j∈bef i
       · have h3:X i=false:=by
          cases hx:X i with
          | false=>rfl
          | true=>have:=hX.closed i hx j h2;rw [hX.out] at this;cases this
         have:=hlt i j h2
         rw [h3];simp;omega
       · exact absurd hw (hdisj i j hi hj e h1 h2 r hr)
 · rw [List.getElem?_eq_none (by rw [stL_length];omega),List.getElem?_eq_none (by rw [stL_length];omega)]
theorem NextL.step (hlt:∀ j i,i∈bef j→i<j) (hdisj:∀ i j,i<N→j<N→i≠j→i∉bef j→j∉bef i→∀ r∈rds j,r∉wrL effs i) (hrdw:∀ j,j<N→∀ x∈wrL effs j,x∈rds j) {X:Nat→Bool} {j:Nat} (hj:j<N) (hX:Slot.Next bef X j) :
 appL (effs.getD j []) (stL effs l0 X N)=stL effs l0 (fun i=>X i||i==j) N:=by
 apply List.ext_getElem?
 intro r
 by_cases hr:r<l0.length
 · rw [appL_get _ _ _ (by rw [stL_length];exact hr)]
   by_cases hw:r∈wrL effs j
   · obtain ⟨v,hv⟩:=evL_some hw
     rw [hv]
     refine (stL_last effs l0 hr (by simp) hv N hj (fun i hji hi hz=>?_)).symm
     simp only [Bool.or_eq_true,beq_iff_eq] at hz
     have hXi:X i=true:=hz.resolve_right (by omega)
     refine hdisj i j hi hj (by omega) (fun hb=>by have:=hlt j i hb;omega) (fun hb=>?_) r (hrdw j hj r hw)
     have:=hX.closed i hXi j hb
     rw [hX.out] at this;cases this
   · rw [evL_none hw,Option.none_or]
     refine stL_agree effs l0 hr N (fun i _ hwi=>?_)
     have:i≠j:=fun e=>hw (e▸hwi)
     simp [this]
 · rw [List.getElem?_eq_none (by rw [appL_length,stL_length];omega),List.getElem?_eq_none (by rw [stL_length];omega)]
end one
structure HR where
 rd:List Nat
 rh:List Nat
 eff:List (Nat×SV)
 heff:List (Nat×SB)
def HR.ws (s:HR):List Nat:=s.eff.map (·.1)
def HR.wh (s:HR):List Nat:=s.heff.map (·.1)
def apartH (s t:HR):Bool:=(s.ws.all fun x=>!t.rd.contains x)&&(t.ws.all fun x=>!s.rd.contains x)&&(s.wh.all fun x=>!t.rh.contains x)&&(t.wh.all fun x=>!s.rh.contains x)
def indepHB (bs:List (List Nat)):Nat→List HR→List HR→Bool
 | _,_,[]=>true
 | j,before,x::r=>(before.zipIdx.all fun (y,i)=>(bs.getD j []).contains i||apartH y x)&&indepHB bs (j+1) (before++[x]) r
def indepH (l:List Oper) (recs:List HR):Bool:=
 edgesOk 0 l&&(recs.all fun s=>(s.ws.all fun x=>s.rd.contains x)&&s.wh.all fun x=>s.rh.contains x)&&indepHB (befs l []) 0 [] recs
def RunDH (Γ:List (Nat×List Cell)) (P:Program) (ops:Array Oper) (l:List Oper):List Oper→List HR→List SV→List SB→(List SV→List SB→Prop)→Prop
 | [],acc,σ,η,K=>indepH l acc=true∧K σ η
 | o::r,acc,σ,η,K=>∃ rd rh eff heff,GH Γ P ops o σ η rd rh eff heff∧RunDH Γ P ops l r (acc++[⟨rd,rh,eff,heff⟩]) (appL eff σ) (appL heff η) K
theorem indepHB_spec (bs:List (List Nat)):∀(l before:List HR) (j0:Nat),indepHB bs j0 before l=true→j0=before.length→
 ∀(i j:Nat) (x y:HR),i<j→j0≤j→(before++l)[i]? = some x→(before++l)[j]? = some y→i∈bs.getD j []∨apartH x y=true:=by
 intro l
 induction l with
 | nil=>
  intro before j0 _ hj0 i j x y hij hj hx hy
  have:=(List.getElem?_eq_some_iff.1 hy).1
  simp at this;omega
 | cons z l ih=>
  intro before j0 h hj0 i j x y hij hj hx hy
  simp only [indepHB,Bool.and_eq_true] at h
  by_cases e:j=j0
  · subst e
    subst hj0
    rw [List.getElem?_append_right (Nat.le_refl _)] at hy
    simp at hy
    subst hy
    rw [List.getElem?_append_left hij] at hx
    have hm:(x,i)∈before.zipIdx:=by
     rw [List.mem_zipIdx_iff_getElem?];simpa using hx
    have:=(List.all_eq_true.1 h.1) (x,i) hm
    simp only [Bool.or_eq_true,List.contains_iff_mem] at this
    simpa using this
  · refine ih (before++[z]) (j0+1) h.2 (by simp [hj0]) i j x y hij (by omega) ?_ ?_
    · simpa using hx
    · simpa using hy
structure IndepH (recs:List HR) (N:Nat) (bef:Nat→List Nat):Prop where
 lt:∀ j i,i∈bef j→i<j
 rws:∀ j,j<N→∀ x∈wrL (recs.map (·.eff)) j,x∈(recs.getD j ⟨[],[],[],[]⟩).rd
 rwh:∀ j,j<N→∀ x∈wrL (recs.map (·.heff)) j,x∈(recs.getD j ⟨[],[],[],[]⟩).rh
 ds:∀ i j,i<N→j<N→i≠j→i∉bef j→j∉bef i→∀ r∈(recs.getD j ⟨[],[],[],[]⟩).rd,r∉wrL (recs.map (·.eff)) i
 dh:∀ i j,i<N→j<N→i≠j→i∉bef j→j∉bef i→∀ r∈(recs.getD j ⟨[],[],[],[]⟩).rh,r∉wrL (recs.map (·.heff)) i
theorem getD_map_eff (recs:List HR) (i:Nat):(recs.map (·.eff)).getD i []=(recs.getD i ⟨[],[],[],[]⟩).eff:=by
 simp only [List.getD_eq_getElem?_getD,List.getElem?_map]
 cases recs[i]?<;>rfl
theorem getD_map_heff (recs:List HR) (i:Nat):(recs.map (·.heff)).getD i []=(recs.getD i ⟨[],[],[],[]⟩).heff:=by
 simp only [List.getD_eq_getElem?_getD,List.getElem?_map]
 cases recs[i]?<;>rfl
theorem indepH_spec {l:List Oper} {recs:List HR} (hlen:recs.length=l.length) (h:indepH l recs=true):IndepH recs l.length (fun j=>(befs l []).getD j []):=by
 simp only [indepH,Bool.and_eq_true] at h
 obtain ⟨⟨h1,h2⟩,h3⟩:=h
 have hget:∀ j,j<recs.length→recs[j]? = some (recs.getD j (⟨[],[],[],[]⟩:HR)):=fun j hj=>by simp [List.getD,List.getElem?_eq_getElem hj]
 have hlt:∀ j i,i∈(befs l []).getD j []→i<j:=by
  intro j
  induction j using Nat.strongRecOn with
  | _ j ih =>
   intro i hi
   by_cases hj:j<l.length
   · have hs:=(befs_spec l [] j l[j] (List.getElem?_eq_getElem hj) i).1 (by simpa using hi)
     have he:=edgesOk_spec l 0 h1 j l[j] (List.getElem?_eq_getElem hj)
     rcases hs with hd | ⟨d,hd,hdl,hi'⟩
     · have:=he i hd;omega
     · have h4:=he d hd
       have h5:=ih d (by omega) i hi'
       omega
   · simp [List.getD,List.getElem?_eq_none (show (befs l []).length≤j by rw [befs_length];simp;omega)] at hi
 have hmem:∀ j,j<l.length→(recs.getD j (⟨[],[],[],[]⟩:HR))∈recs:=fun j hj=>List.mem_of_getElem? (hget j (by omega))
 have hap:∀ i j,i<j→j<l.length→i∉(befs l []).getD j []→apartH (recs.getD i ⟨[],[],[],[]⟩) (recs.getD j ⟨[],[],[],[]⟩)=true:=fun i j hij hj hb=>
  (indepHB_spec (befs l []) recs [] 0 h3 rfl i j _ _ hij (Nat.zero_le _) (by simpa using hget i (by omega)) (by simpa using hget j (by omega))).resolve_left hb
 refine ⟨hlt,fun j hj x hx=>?_,fun j hj x hx=>?_,fun i j hi hj hne h4 h5 r hr hw=>?_,fun i j hi hj hne h4 h5 r hr hw=>?_⟩
 · have:=(List.all_eq_true.1 h2) _ (hmem j hj)
   simp only [Bool.and_eq_true] at this
   unfold wrL at hx
   rw [getD_map_eff] at hx
   have:=(List.all_eq_true.1 this.1) x hx
   simpa using this
 · have:=(List.all_eq_true.1 h2) _ (hmem j hj)
   simp only [Bool.and_eq_true] at this
   unfold wrL at hx
   rw [getD_map_heff] at hx
   have:=(List.all_eq_true.1 this.2) x hx
   simpa using this
 · unfold wrL at hw
   rw [getD_map_eff] at hw
   rcases Nat.lt_or_ge i j with hlt' | hge
   · have:=hap i j hlt' hj h4
     simp only [apartH,Bool.and_eq_true] at this
     have h6:=(List.all_eq_true.1 this.1.1.1) r hw
     simp at h6
     exact h6 hr
   · have:=hap j i (by omega) hi h5
     simp only [apartH,Bool.and_eq_true] at this
     have h6:=(List.all_eq_true.1 this.1.1.2) r hw
     simp at h6
     exact h6 hr
 · unfold wrL at hw
   rw [getD_map_heff] at hw
   rcases Nat.lt_or_ge i j with hlt' | hge
   · have:=hap i j hlt' hj h4
     simp only [apartH,Bool.and_eq_true] at this
     have h6:=(List.all_eq_true.1 this.1.2) r hw
     simp at h6
     exact h6 hr
   · have:=hap j i (by omega) hi h5
     simp only [apartH,Bool.and_eq_true] at this
     have h6:=(List.all_eq_true.1 this.2) r hw
     simp at h6
     exact h6 hr
abbrev stS (recs:List HR) (σ0:List SV) (X:Nat→Bool) (n:Nat):List SV:=stL (recs.map (·.eff)) σ0 X n
abbrev stH (recs:List HR) (η0:List SB) (X:Nat→Bool) (n:Nat):List SB:=stL (recs.map (·.heff)) η0 X n
theorem stL_prefix {α:Type} {effs effs':List (List (Nat×α))} {l0:List α} {X:Nat→Bool}:∀ n,(∀ i,i<n→effs.getD i []=effs'.getD i [])→stL effs l0 X n=stL effs' l0 X n
 | 0,_=>rfl
 | n+1,h=>by
  unfold stL
  rw [h n (by omega),stL_prefix n (fun i hi=>h i (by omega))]
theorem RunDH.chain {ops:Array Oper} {l:List Oper} {σ0:List SV} {η0:List SB} {K:List SV→List SB→Prop}:∀(r pre:List Oper) (acc:List HR) (σ:List SV) (η:List SB),RunDH Γ P ops l r acc σ η K→pre++r=l→acc.length=pre.length→
 σ=stS acc σ0 (fun _=>true) acc.length→η=stH acc η0 (fun _=>true) acc.length→
 (∀(j:Nat) (o:Oper) (s:HR),pre[j]? = some o→acc[j]? = some s→GH Γ P ops o (stS acc σ0 (fun _=>true) j) (stH acc η0 (fun _=>true) j) s.rd s.rh s.eff s.heff)→
 ∃ recs:List HR,recs.length=l.length∧indepH l recs=true∧K (stS recs σ0 (fun _=>true) recs.length) (stH recs η0 (fun _=>true) recs.length)∧
  ∀(j:Nat) (o:Oper) (s:HR),l[j]? = some o→recs[j]? = some s→GH Γ P ops o (stS recs σ0 (fun _=>true) j) (stH recs η0 (fun _=>true) j) s.rd s.rh s.eff s.heff:=by
 intro r
 induction r with
 | nil=>
  intro pre acc σ η h hl hlen hσ hη hsteps
  simp only [List.append_nil] at hl
  subst hl
  exact ⟨acc,hlen,h.1,by rw [←hσ,←hη];exact h.2,hsteps⟩
 | cons o r ih=>
  intro pre acc σ η h hl hlen hσ hη hsteps
  obtain ⟨rd,rh,eff,heff,hg,hr⟩:=h
  have hpS:∀ n,n≤acc.length→stS (acc++[(⟨rd,rh,eff,heff⟩:HR)]) σ0 (fun _=>true) n=stS acc σ0 (fun _=>true) n:=fun n hn=>
   stL_prefix n (fun i hi=>by rw [getD_map_eff,getD_map_eff];simp [List.getD,List.getElem?_append_left (show i<acc.length by omega)])
  have hpH:∀ n,n≤acc.length→stH (acc++[(⟨rd,rh,eff,heff⟩:HR)]) η0 (fun _=>true) n=stH acc η0 (fun _=>true) n:=fun n hn=>
   stL_prefix n (fun i hi=>by rw [getD_map_heff,getD_map_heff];simp [List.getD,List.getElem?_append_left (show i<acc.length by omega)])
  refine ih (pre++[o]) (acc++[⟨rd,rh,eff,heff⟩]) (appL eff σ) (appL heff η) hr (by rw [←hl];simp) (by simp [hlen]) ?_ ?_ ?_
  · simp only [List.length_append,List.length_cons,List.length_nil]
    show _=(if true then appL _ (stL _ σ0 _ acc.length) else _)
    have:=hpS acc.length (Nat.le_refl _)
    simp only [stS] at this
    rw [this,hσ,getD_map_eff]
    simp [List.getD]
  · simp only [List.length_append,List.length_cons,List.length_nil]
    show _=(if true then appL _ (stL _ η0 _ acc.length) else _)
    have:=hpH acc.length (Nat.le_refl _)
    simp only [stH] at this
    rw [this,hη,getD_map_heff]
    simp [List.getD]
  · intro j o' s ho hs
    by_cases e:j<pre.length
    · rw [List.getElem?_append_left e] at ho
      rw [List.getElem?_append_left (by omega)] at hs
      rw [hpS j (by omega),hpH j (by omega)]
      exact hsteps j o' s ho hs
    · have hj:j=pre.length:=by
       have:=(List.getElem?_eq_some_iff.1 ho).1
       simp at this;omega
      subst hj
      simp at ho
      subst ho
      rw [←hlen] at hs ⊢
      simp at hs
      subst hs
      rw [hpS _ (Nat.le_refl _),hpH _ (Nat.le_refl _),←hσ,←hη]
      exact hg
theorem gtS_congr {σ σ':List SV} {r:Nat} (h:σ'[r]? = σ[r]?):gtS σ' r=gtS σ r:=by unfold gtS;rw [h]
theorem wpAnyH {ops:Array Oper} {recs:List HR} {σ0:List SV} {η0:List SB} (hind:IndepH recs ops.size (fun j=>(befs ops.toList []).getD j [])) (hlen:recs.length=ops.size) (hedge:edgesOk 0 ops.toList=true)
 (hsteps:∀(j:Nat) (o:Oper) (s:HR),ops.toList[j]? = some o→recs[j]? = some s→GH Γ P ops o (stS recs σ0 (fun _=>true) j) (stH recs η0 (fun _=>true) j) s.rd s.rh s.eff s.heff) {E:HEnv} {Q:Exit→Act→World→Prop}
 (hQ:∀ ρ a w,RI Γ E ρ (stS recs σ0 (fun _=>true) ops.size) (stH recs η0 (fun _=>true) ops.size) a w→Q .normal a w):∀(fuel:Nat) (listed:Array Bool) (ρ:Nat→Value) (a:Act) (w:World),listed.size=ops.size→
   (listed.toList.filter (! ·)).length≤fuel→(∀ k,listed.getD k false=true→∀ i∈(befs ops.toList []).getD k [],listed.getD i false=true)→
   RI Γ E ρ (stS recs σ0 (fun i=>listed.getD i false) ops.size) (stH recs η0 (fun i=>listed.getD i false) ops.size) a w→wpAny P .any ops Q fuel listed a w:=by
 have done:∀(listed:Array Bool),listed.size=ops.size→Region.ready .any ops listed=[]→∀ i,i<ops.size→listed.getD i false=true:=by
  intro listed hsz hr i
  induction i using Nat.strongRecOn with
  | _ i ih =>
   intro hi
   cases hx:listed.getD i false with
   | true=>rfl
   | false=>
    exfalso
    have hmem:i∈Region.ready .any ops listed:=by
     rw [mem_ready]
     refine ⟨?_,ops[i],by simp [hi],fun e he hb=>?_⟩
     · simp only [Array.getD_eq_getD_getElem?,Array.getElem?_eq_getElem (show i<listed.size by omega),Option.getD_some] at hx ⊢
       exact hx
     · have hd:e.on∈direct ops[i]:=List.mem_map.2 ⟨e,by simp [List.mem_filter,hb];exact he,rfl⟩
       have:=edgesOk_spec ops.toList 0 hedge i ops[i] (by simp [hi]) e.on hd
       exact ih e.on (by omega) (by omega)
    rw [hr] at hmem
    cases hmem
 have fin:∀(listed:Array Bool) (ρ:Nat→Value) (a:Act) (w:World),(∀ i,i<ops.size→listed.getD i false=true)→RI Γ E ρ (stS recs σ0 (fun i=>listed.getD i false) ops.size) (stH recs η0 (fun i=>listed.getD i false) ops.size) a w→Q .normal a w:=fun listed ρ a w hall hR=>by
  refine hQ ρ a w ?_
  rw [show stS recs σ0 (fun _=>true) ops.size=stS recs σ0 (fun i=>listed.getD i false) ops.size from (stL_congr _ σ0 ops.size (fun i hi=>hall i hi)).symm,
   show stH recs η0 (fun _=>true) ops.size=stH recs η0 (fun i=>listed.getD i false) ops.size from (stL_congr _ η0 ops.size (fun i hi=>hall i hi)).symm]
  exact hR
 intro fuel
 induction fuel with
 | zero=>
  intro listed ρ a w hsz hf hcl hR
  have hall:∀ i,i<ops.size→listed.getD i false=true:=fun i hi=>by
   have hnil:listed.toList.filter (! ·)=[]:=List.eq_nil_of_length_eq_zero (by omega)
   rw [List.filter_eq_nil_iff] at hnil
   have:=hnil listed[i] (by simp)
   simp only [Bool.not_eq_true',Bool.not_eq_false] at this
   simp [show i<listed.size by omega,this]
  have hready:Region.ready .any ops listed=[]:=by
   cases hr:Region.ready .any ops listed with
   | nil=>rfl
   | cons j _=>
    exfalso
    have hj:j∈Region.ready .any ops listed:=by rw [hr];simp
    obtain ⟨h1,o,ho,_⟩:=mem_ready.1 hj
    have hjl:j<ops.size:=(Array.getElem?_eq_some_iff.1 ho).1
    have:=hall j hjl
    simp only [Array.getD_eq_getD_getElem?,Array.getElem?_eq_getElem (show j<listed.size by omega),Option.getD_some] at this h1
    rw [this] at h1;cases h1
  exact ⟨hready,fin listed ρ a w hall hR⟩
 | succ fuel ih=>
  intro listed ρ a w hsz hf hcl hR
  refine ⟨fun hready=>fin listed ρ a w (done listed hsz hready) hR,fun j hj=>?_⟩
  obtain ⟨h1,o,ho,hall⟩:=mem_ready.1 hj
  have hjl:j<ops.size:=(Array.getElem?_eq_some_iff.1 ho).1
  have hout:listed.getD j false=false:=by
   simp only [Array.getD_eq_getD_getElem?,Array.getElem?_eq_getElem (show j<listed.size by omega),Option.getD_some] at h1 ⊢
   exact h1
  have hdir:∀ d∈direct o,listed.getD d false=true:=fun d hd=>by
   obtain ⟨e,he,rfl⟩:=List.mem_map.1 hd
   rw [List.mem_filter] at he
   exact hall e (by simpa using he.1) he.2
  have hnext:Slot.Next (fun j=>(befs ops.toList []).getD j []) (fun i=>listed.getD i false) j:=by
   refine ⟨hcl,hout,fun i hi=>?_⟩
   have hs:=(befs_spec ops.toList [] j o (by simpa using ho) i).1 (by simpa using hi)
   rcases hs with hd | ⟨d,hd,_,hi'⟩
   · exact hdir i hd
   · exact hcl d (hdir d hd) i hi'
  have hs:recs[j]? = some (recs.getD j (⟨[],[],[],[]⟩:HR)):=by simp [List.getD,List.getElem?_eq_getElem (show j<recs.length by omega)]
  have hg:=hsteps j o _ (by simpa using ho) hs
  have hagS:agS (recs.getD j (⟨[],[],[],[]⟩:HR)).rd (stS recs σ0 (fun _=>true) j) (stS recs σ0 (fun i=>listed.getD i false) ops.size):=
   ⟨by rw [stL_length,stL_length],fun r hr=>gtS_congr (NextL.agree (N:=ops.size) (rds:=fun j=>(recs.getD j (⟨[],[],[],[]⟩:HR)).rd) hind.lt hind.ds hjl hnext hr)⟩
  have hagB:agB (recs.getD j (⟨[],[],[],[]⟩:HR)).rh (stH recs η0 (fun _=>true) j) (stH recs η0 (fun i=>listed.getD i false) ops.size):=
   ⟨by rw [stL_length,stL_length],fun r hr=>NextL.agree (N:=ops.size) (rds:=fun j=>(recs.getD j (⟨[],[],[],[]⟩:HR)).rh) hind.lt hind.dh hjl hnext hr⟩
  have hstepS:=NextL.step (effs:=recs.map (·.eff)) (l0:=σ0) (N:=ops.size) (rds:=fun j=>(recs.getD j (⟨[],[],[],[]⟩:HR)).rd) hind.lt hind.ds hind.rws hjl hnext
  have hstepH:=NextL.step (effs:=recs.map (·.heff)) (l0:=η0) (N:=ops.size) (rds:=fun j=>(recs.getD j (⟨[],[],[],[]⟩:HR)).rh) hind.lt hind.dh hind.rwh hjl hnext
  rw [getD_map_eff] at hstepS
  rw [getD_map_heff] at hstepH
  have hstep:=hg E ρ _ _ a w hagS hagB hR (wpAny P .any ops Q fuel (listed.setIfInBounds j true)) Q ?_
  · unfold wpOp
    rw [ho]
    dsimp only
    split
    · rename_i hw;rw [if_pos hw] at hstep;exact .inl hstep
    · rename_i hw;rw [if_neg hw] at hstep;exact hstep
  · intro a' w' ρ' hR'
    rw [hstepS,hstepH] at hR'
    have hX:∀ i,(listed.setIfInBounds j true).getD i false=(listed.getD i false||i==j):=fun i=>by
     by_cases e:i=j
     · subst e;simp [show i<listed.size by omega]
     · simp only [Array.getD_eq_getD_getElem?,Array.getElem?_setIfInBounds_ne (Ne.symm e)]
       simp [e]
    refine ih _ ρ' a' w' (by simpa using hsz) ?_ ?_ ?_
    · have hcount:∀(l:List Bool) (j:Nat),l[j]? = some false→((l.set j true).filter (! ·)).length+1=(l.filter (! ·)).length:=by
       intro l
       induction l with
       | nil=>intro j h;simp at h
       | cons b l ihl=>
        intro j h
        cases j with
        | zero=>simp at h;subst h;simp
        | succ j=>
         have:=ihl j (by simpa using h)
         cases b<;>simp<;>omega
      have hjb:listed.toList[j]? = some false:=by
       simp only [Array.getD_eq_getD_getElem?,Array.getElem?_eq_getElem (show j<listed.size by omega),Option.getD_some] at hout
       simp [Array.getElem?_eq_getElem (show j<listed.size by omega),hout]
      have:=hcount listed.toList j hjb
      simp only [Array.toList_setIfInBounds]
      omega
    · intro k hk i hi
      rw [hX] at hk ⊢
      exact hnext.grow k hk i hi
    · rw [show stS recs σ0 (fun i=>(listed.setIfInBounds j true).getD i false) ops.size=_ from stL_congr _ σ0 ops.size (fun i _=>hX i),
       show stH recs η0 (fun i=>(listed.setIfInBounds j true).getD i false) ops.size=_ from stL_congr _ η0 ops.size (fun i _=>hX i)]
      exact hR'
theorem wp_regionDH {ops:Array Oper} {σ:List SV} {η:List SB} {E:HEnv} {ρ:Nat→Value} {Q:Exit→Act→World→Prop} {K:List SV→List SB→Prop} {id:Nat} (hm:P.follows .mixedOrders=true)
 (hQ:∀ σ η ρ a w,K σ η→RI Γ E ρ σ η a w→Q .normal a w) (h:RunDH Γ P ops ops.toList ops.toList [] σ η K) {a:Act} {w:World} (hR:RI Γ E ρ σ η a w):(Code.region id ops true).wp P Q a w:=by
 obtain ⟨recs,hlen,hind,hK,hsteps⟩:=RunDH.chain (σ0:=σ) (η0:=η) ops.toList [] [] σ η h rfl rfl rfl rfl (fun j o s ho=>by simp at ho)
 have hedge:edgesOk 0 ops.toList=true:=by
  simp only [indepH,Bool.and_eq_true] at hind
  exact hind.1.1
 have hI:=indepH_spec hlen hind
 simp only [Array.length_toList] at hlen hI
 have none0:∀{α:Type} (effs:List (List (Nat×α))) (l0:List α) (n:Nat),stL effs l0 (fun _=>false) n=l0:=fun effs l0 n=>by
  induction n with
  | zero=>rfl
  | succ n ih=>show (if false then _ else _)=_;exact ih
 refine wp_region_any hm (wpAnyH hI hlen hedge hsteps (fun ρ a w hR=>hQ _ _ ρ a w (by rw [hlen] at hK;exact hK) hR) ops.size _ ρ a _ (by simp) (by simp) ?_ ?_)
 · intro k hk
   exfalso
   rw [Array.getD_eq_getD_getElem?] at hk
   by_cases hk':k<ops.size
   · simp [hk'] at hk
   · rw [Array.getElem?_eq_none (by simp;omega)] at hk
     cases hk
 · have hb:Below w.heap.size w { w with drawn:=w.drawn+1 }:=(Below.refl _ w).drew
   have hz:∀ i,i<ops.size→(Array.replicate ops.size false).getD i false=false:=fun i hi=>by simp [hi]
   rw [show stS recs σ (fun i=>(Array.replicate ops.size false).getD i false) ops.size=σ from (stL_congr _ σ ops.size (fun i hi=>hz i hi)).trans (none0 _ σ _),
    show stH recs η (fun i=>(Array.replicate ops.size false).getD i false) ops.size=η from (stL_congr _ η ops.size (fun i hi=>hz i hi)).trans (none0 _ η _)]
   exact hR.go (Went.below hR.inv hb)
end Go.Hp

namespace Go.Hp
open Go Go.RowKit Go.Slot
variable {P:Program} {Γ:List (Nat×List Cell)}
structure At (Γ:List (Nat×List Cell)) (e:List SB) (E:HEnv):Prop where
 eq:E.η0=e
 inv:HInv Γ E.Mo E.ρ0 E.η0 E.w0
def liftH (Γ:List (Nat×List Cell)) (E:HEnv) (Q:Exit→List SV→List SB→Prop) (x:Exit) (a:Act) (w:World):Prop:=∃ σ η ρ,Q x σ η∧RI Γ E ρ σ η a w
def HCode (Γ:List (Nat×List Cell)) (P:Program) (e:List SB) (c:Code) (Q:Exit→List SV→List SB→Prop) (σ:List SV) (η:List SB):Prop:=
 ∀(E:HEnv) (ρ:Nat→Value) (a:Act) (w:World),At Γ e E→RI Γ E ρ σ η a w→c.wp P (liftH Γ E Q) a w
def thenH (next:List SV→List SB→Prop) (Q:Exit→List SV→List SB→Prop):Exit→List SV→List SB→Prop
 | .normal,σ,η=>next σ η
 | e,σ,η=>Q e σ η
def inBlockH (id:Nat) (Q:Exit→List SV→List SB→Prop):Exit→List SV→List SB→Prop
 | .exit id',σ,η=>if id'=id then Q .normal σ η else Q (.exit id') σ η
 | e,σ,η=>Q e σ η
section
variable {e:List SB} {Q Q':Exit→List SV→List SB→Prop} {σ σ' σ'':List SV} {η η' η'':List SB}
theorem HCode.mono {c:Code} (h:HCode Γ P e c Q σ η) (hq:∀ x σ η,Q x σ η→Q' x σ η):HCode Γ P e c Q' σ η:=fun E ρ a w hE hR=>
 wp_mono (h E ρ a w hE hR) (fun x _a _w ⟨σ,η,ρ,h1,h2⟩=>⟨σ,η,ρ,hq x σ η h1,h2⟩)
theorem hcode_skip (h:Q .normal σ η):HCode Γ P e .skip Q σ η:=fun _ ρ _ _ _ hR=>wp_skip ⟨σ,η,ρ,h,hR⟩
theorem hcode_exit {id:Nat} (h:Q (.exit id) σ η):HCode Γ P e (.exit id) Q σ η:=fun _ ρ _ _ _ hR=>wp_exit ⟨σ,η,ρ,h,hR⟩
theorem hcode_ret (h:Q .ret σ η):HCode Γ P e .ret Q σ η:=fun _ ρ _ _ _ hR=>wp_ret ⟨σ,η,ρ,h,hR⟩
theorem hcode_seq {x y:Code} (h:HCode Γ P e x (thenH (fun σ η=>HCode Γ P e y Q σ η) Q) σ η):HCode Γ P e (.seq x y) Q σ η:=fun E ρ a w hE hR=>
 wp_seq (wp_mono (h E ρ a w hE hR) (fun x a w ⟨σ,η,ρ,h1,h2⟩=>by
  cases x<;>first | exact h1 E ρ a w hE h2 | exact ⟨σ,η,ρ,h1,h2⟩))
theorem hcode_block {id:Nat} {c:Code} (h:HCode Γ P e c (inBlockH id Q) σ η):HCode Γ P e (.block id c) Q σ η:=fun E ρ a w hE hR=>
 wp_block (wp_mono (h E ρ a w hE hR) (fun x a w ⟨σ,η,ρ,h1,h2⟩=>by
  cases x with
  | exit id'=>
   simp only [Exit.inBlock]
   simp only [inBlockH] at h1
   split at h1
   · rename_i hi;rw [if_pos hi];exact ⟨σ,η,ρ,h1,h2⟩
   · rename_i hi;rw [if_neg hi];exact ⟨σ,η,ρ,h1,h2⟩
  | _=>exact ⟨σ,η,ρ,h1,h2⟩))
theorem hcode_cond {c:Operand} {x y:Code} {b:Bool} (hc:opdS Γ σ c=.one (.dat (.raw (.bool b)))) (ht:b=true→HCode Γ P e x Q σ η) (hf:b=false→HCode Γ P e y Q σ η):HCode Γ P e (.cond c x y) Q σ η:=fun E ρ a w hE hR=>by
 have hs:=hR.opd c
 rw [hc] at hs
 have e1:a.eval c=.bool b:=RdC.raw_inv hs
 exact wp_cond_split e1 (fun h=>ht h E ρ a w hE hR) (fun h=>hf h E ρ a w hE hR)
theorem hcode_region {id:Nat} {ops:Array Oper} (h:RunP Γ P ops ops.toList σ η (Q .normal)):HCode Γ P e (.region id ops false) Q σ η:=fun _E ρ a w _ hR=>
 wp_region_list (RunP.wpList (fun σ η ρ _a _w h1 h2=>⟨σ,η,ρ,h1,h2⟩) _ σ η ρ a w h hR)
theorem hcode_regionD {id:Nat} {ops:Array Oper} (hm:P.follows .mixedOrders=true) (h:RunDH Γ P ops ops.toList ops.toList [] σ η (Q .normal)):HCode Γ P e (.region id ops true) Q σ η:=fun _E _ρ _a _w _ hR=>
 wp_regionDH hm (fun σ η ρ _a _w h1 h2=>⟨σ,η,ρ,h1,h2⟩) h hR
def StH (Γ:List (Nat×List Cell)) (e:List SB) (σ:List SV) (η:List SB) (σ':List SV) (η':List SB):Prop:=∀(E:HEnv) (ρ:Nat→Value) (a:Act) (w:World),At Γ e E→RI Γ E ρ σ η a w→∃ ρ',RI Γ E ρ' σ' η' a w
theorem StH.refl:StH Γ e σ η σ η:=fun _ ρ _ _ _ h=>⟨ρ,h⟩
theorem StH.trans (h:StH Γ e σ η σ' η') (h':StH Γ e σ' η' σ'' η''):StH Γ e σ η σ'' η'':=fun E ρ a w hE hR=>let ⟨ρ',h1⟩:=h E ρ a w hE hR;h' E ρ' a w hE h1
theorem HCode.le {c:Code} (h:StH Γ e σ η σ' η') (hc:HCode Γ P e c Q σ' η'):HCode Γ P e c Q σ η:=fun E ρ a w hE hR=>let ⟨ρ',h1⟩:=h E ρ a w hE hR;hc E ρ' a w hE h1
end
inductive HCle:HC→HC→Prop
 | refl (h:HC):HCle h h
 | any (h:HC):HCle h .any
 | dat {c c':Cell} (h:Cell.Le c c'):HCle (.dat c) (.dat c')
inductive HCleL:List HC→List HC→Prop
 | nil:HCleL [] []
 | cons {h h':HC} {l l':List HC} (a:HCle h h') (t:HCleL l l'):HCleL (h::l) (h'::l')
inductive SVle:SV→SV→Prop
 | refl (x:SV):SVle x x
 | any (x:SV):SVle x .any
 | one {h h':HC} (a:HCle h h'):SVle (.one h) (.one h')
 | agg {l l':List HC} (a:HCleL l l'):SVle (.agg l) (.agg l')
inductive SVleL:List SV→List SV→Prop
 | nil:SVleL [] []
 | cons {x x':SV} {l l':List SV} (a:SVle x x') (t:SVleL l l'):SVleL (x::l) (x'::l')
section
variable {η:List SB} {ρ:Nat→Value} {M:Nat→Nat→Prop} {w:World}
theorem HRd.le {v:Value} {h h':HC} (hl:HCle h h') (hr:HRd η ρ M w v h):HRd η ρ M w v h':=by
 cases hl with
 | refl=>exact hr
 | any=>exact HRd.one hr
 | dat h=>exact RdC.le h hr
theorem HRL.le:∀{vs:List Value} {l l':List HC},HCleL l l'→HRL η ρ M w vs l→HRL η ρ M w vs l'
 | _vs,_,_,.nil,h=>h
 | [],_,_,.cons _ _,h=>h.elim
 | _::_,_,_,.cons a t,h=>⟨h.1.le a,HRL.le t h.2⟩
theorem SVR0.le {v:Value} {x x':SV} (hl:SVle x x') (hr:SVR0 η ρ M w v x):SVR0 η ρ M w v x':=by
 cases hl with
 | refl=>exact hr
 | any=>trivial
 | one a=>exact HRd.le a hr
 | agg a=>obtain ⟨vs,e,h⟩:=hr;exact ⟨vs,e,h.le a⟩
theorem SRL.le:∀{vs:List Value} {l l':List SV},SVleL l l'→SRL η ρ M w vs l→SRL η ρ M w vs l'
 | _vs,_,_,.nil,h=>h
 | [],_,_,.cons _ _,h=>h.elim
 | _::_,_,_,.cons a t,h=>⟨h.1.le a,SRL.le t h.2⟩
theorem SVR.le {v:Value} {x x':SV} (hl:SVle x x') (hr:SVR η ρ M w v x):SVR η ρ M w v x':=by
 cases hl with
 | refl=>exact hr
 | any=>trivial
 | one a=>exact HRd.le a hr
 | agg a=>obtain ⟨vs,e,h⟩:=hr;exact ⟨vs,e,h.le a⟩
end
theorem SVleL.length:∀{l l':List SV},SVleL l l'→l.length=l'.length
 | _,_,.nil=>rfl
 | _,_,.cons _ t=>by simp [t.length]
theorem SVleL.get:∀{l l':List SV},SVleL l l'→∀(i:Nat) (y:SV),l'[i]? = some y→∃ x,l[i]? = some x∧SVle x y
 | _,_,.nil,i,y,h=>by simp at h
 | _,_,.cons a t,0,y,h=>by simp at h;subst h;exact ⟨_,by simp,a⟩
 | _,_,.cons a t,i+1,y,h=>by simpa using t.get i y (by simpa using h)
theorem StH.slots {e:List SB} {σ σ':List SV} {η:List SB} (h:SVleL σ σ'):StH Γ e σ η σ' η:=fun E ρ a w _ hR=>
 ⟨ρ,hR.hd,by rw [hR.hs,h.length],fun i y hi=>by
  obtain ⟨x,hx,hl⟩:=h.get i y hi
  exact (hR.slot i x hx).le hl,hR.went⟩
def onlyV:List Nat→Nat→List SV→List SV
 | _,_,[]=>[]
 | [],i,_::l=>.any::onlyV [] (i+1) l
 | k::ks,i,x::l=>match k==i with
  | true=>x::onlyV ks (i+1) l
  | false=>.any::onlyV (k::ks) (i+1) l
theorem onlyV_le:∀(l:List SV) (ks:List Nat) (i:Nat),SVleL l (onlyV ks i l)
 | [],_,_=>by unfold onlyV;exact .nil
 | x::l,[],i=>by unfold onlyV;exact .cons (.any _) (onlyV_le l [] (i+1))
 | x::l,k::ks,i=>by
  unfold onlyV
  split
  · exact .cons (.refl _) (onlyV_le l ks (i+1))
  · exact .cons (.any _) (onlyV_le l (k::ks) (i+1))
theorem StH.only {e:List SB} {σ:List SV} {η:List SB} (ks:List Nat):StH Γ e σ η (onlyV ks 0 σ) η:=StH.slots (onlyV_le σ ks 0)
inductive SBle:SB→SB→Prop
 | dead (x:SB):SBle x .dead
 | box {l l':List HC} {T:Option TypeId} (a:HCleL l l'):SBle (.box l T) (.box l' T)
 | boxT {l:List HC} {T:Option TypeId}:SBle (.box l T) (.box l none)
 | arrT {c:Cell} {k:Nat} {T:Option TypeId}:SBle (.arr c k T) (.arr c k none)
theorem Went.sble {Mo:Nat→Nat→Prop} {ρ:Nat→Value} {η:List SB} {w:World} (h:HInv Γ Mo ρ η w) {b:Nat} {x x':SB} (hx:η[b]? = some x) (hl:SBle x x'):Went Γ Mo ρ η w ρ (η.set b x') w:=by
 have hs:=h.blk b x hx
 cases hl with
 | dead=>exact Went.kill h hx
 | box a=>exact Went.less h hx (by simp) (fun _=>rfl) (fun o h=>h) (fun m=>by
  obtain ⟨bb,vs,T,e,hh,hr,ht⟩:=hs.mv m (fun _ _=>rfl)
  exact ⟨bb,vs,T,e,hh,hr.le a,ht⟩)
 | boxT=>exact Went.less h hx (by simp) (fun _=>rfl) (fun o h=>h) (fun m=>by
  obtain ⟨bb,vs,T,e,hh,hr,ht⟩:=hs.mv m (fun _ _=>rfl)
  exact ⟨bb,vs,T,e,hh,hr,fun t' ht'=>by cases ht'⟩)
 | arrT=>exact Went.less h hx (by simp) (fun _=>rfl) (fun o h=>h) (fun m=>by
  obtain ⟨hu,h0 | ⟨bb,vs,q,T,e,hh,hr,ht⟩⟩:=hs.mv m (fun _ _=>rfl)
  · exact ⟨hu,.inl h0⟩
  · exact ⟨hu,.inr ⟨bb,vs,q,T,e,hh,hr,fun t' ht'=>by cases ht'⟩⟩)
theorem StH.block {e:List SB} {σ:List SV} {η:List SB} {b:Nat} {x x':SB} (hx:η[b]? = some x) (hl:SBle x x'):StH Γ e σ η σ (η.set b x'):=fun _E ρ _a _w _ hR=>⟨ρ,hR.go (Went.sble hR.inv hx hl)⟩
theorem StH.empty {e:List SB} {σ:List SV} {η:List SB} {d:Nat} {c0 c:Cell} {es:Nat} {T:Option TypeId} (hd:gtS σ d=.one (.dat c0)) (hz:isZc c0=true) (hu:c.uni) (hc:c.cnt=0):StH Γ e σ η (σ.set d (.one (.sl η.length es 0 0))) (η++[.arr c 0 T]):=fun E ρ a w _ hR=>by
 have h1:=hR.go (Went.extend hR.inv 1)
 have hf:(η++[SB.fresh])[η.length]? = some .fresh:=by simp
 have hw:=Went.new h1.inv (below_self w) hf (v:=.pointer none) (x:=.arr c 0 T) (by simp) (fun _ hr=>absurd rfl hr) (fun m=>⟨⟨hu,Nat.zero_le _⟩,.inl ⟨hc,rfl⟩⟩)
 have h2:=h1.go hw
 rw [show (η++List.replicate 1 SB.fresh).set η.length (.arr c 0 T)=η++[.arr c 0 T] by simp] at h2
 refine ⟨upd ρ η.length (.pointer none),?_⟩
 have hs:=h2.gt d
 rw [hd] at hs
 obtain ⟨ad,hv⟩:=isZc_ok (τ:=fun _=>⟨Go.undef,0⟩) hz (RdT.of (show RdC _ w (a.tmps.getD d Go.undef) c0 from hs))
 have hlt:d<σ.length:=gtS_lt hd (by simp)
 have hp:=h2.put (d:=d) (v:=a.tmps.getD d Go.undef) (x:=.one (.sl η.length es 0 0)) ⟨⟨_,by simp;rfl,by simp⟩,ad,0,hv,Nat.le_refl _,fun h=>absurd rfl h⟩
 have ha:a.put (some d) (a.tmps.getD d Go.undef)=a:=by
  unfold Act.put
  have:a.tmps.setIfInBounds d (a.tmps.getD d Go.undef)=a.tmps:=by
   apply Array.ext
   · simp
   · intro i h1 h2
     rw [Array.getElem_setIfInBounds]
     split
     · rename_i e1;subst e1;simp [h2]
     · rfl
  simp only [this]
 rw [ha] at hp
 exact hp
def refHC:HC→List Nat
 | .ptr b _ | .pel b _ _ _ | .sl b _ _ _ | .mp b | .fnr b=>[b]
 | _=>[]
def refSV:SV→List Nat
 | .one h=>refHC h
 | .agg l=>l.flatMap refHC
 | .tup l=>l.flatMap fun x=>match x with
  | .one h=>refHC h
  | .agg l=>l.flatMap refHC
  | _=>[]
 | _=>[]
def refSB:SB→List Nat
 | .box l _=>l.flatMap refHC
 | .map es=>es.flatMap fun p=>refSV p.2
 | .clo _ l=>l.flatMap refSV
 | _=>[]
theorem okB_lt {η:List SB} {b:Nat} (h:okB η b):b<η.length:=by
 obtain ⟨x,hx,_⟩:=h
 exact (List.getElem?_eq_some_iff.1 hx).1
section
variable {η:List SB} {ρ:Nat→Value} {M:Nat→Nat→Prop} {w:World}
theorem HRd.refs {v:Value} {h:HC} (hr:HRd η ρ M w v h):∀ b∈refHC h,okB η b:=by
 intro b hb
 cases h<;>simp only [refHC,List.mem_singleton,List.not_mem_nil] at hb<;>first | (subst hb;exact hr.1) | exact hb.elim
theorem HRL.refs:∀{vs:List Value} {l:List HC},HRL η ρ M w vs l→∀ b∈l.flatMap refHC,okB η b
 | [],[],_,b,hb=>by simp at hb
 | _::_,_::_,h,b,hb=>by
  rw [List.flatMap_cons,List.mem_append] at hb
  exact hb.elim (h.1.refs b) (h.2.refs b)
theorem SVR0.refs {v:Value} {x:SV} (hr:SVR0 η ρ M w v x):∀ b∈refSV x,okB η b:=by
 cases x with
 | one h=>exact HRd.refs hr
 | agg l=>obtain ⟨vs,_,h⟩:=hr;exact h.refs
 | tup l=>exact hr.elim
 | _=>intro b hb;cases hb
theorem SRL.refs:∀{vs:List Value} {l:List SV},SRL η ρ M w vs l→∀ b∈l.flatMap refSV,okB η b
 | [],[],_,b,hb=>by simp at hb
 | _::_,_::_,h,b,hb=>by
  rw [List.flatMap_cons,List.mem_append] at hb
  exact hb.elim (h.1.refs b) (h.2.refs b)
theorem EnR.refs:∀{es:List MapEntry} {l:List (Value×SV)},EnR η ρ M w es l→∀ b∈l.flatMap (fun p=>refSV p.2),okB η b
 | [],[],_,b,hb=>by simp at hb
 | _::_,_::_,h,b,hb=>by
  rw [List.flatMap_cons,List.mem_append] at hb
  exact hb.elim (h.1.2.refs b) (h.2.refs b)
theorem SBR.refs {v:Value} {x:SB} (hr:SBR η ρ M w v x):∀ b∈refSB x,okB η b:=by
 cases x with
 | box l T=>obtain ⟨_,_,_,_,_,h,_⟩:=hr;exact h.refs
 | map es=>obtain ⟨_,_,_,_,_,h⟩:=hr;exact h.refs
 | clo f l=>obtain ⟨_,_,h⟩:=hr;exact h.refs
 | _=>intro b hb;cases hb
theorem HRd.at {η':List SB} {ρ':Nat→Value} {M':Nat→Nat→Prop} (hM:∀ b o,M' b o→M b o) {v:Value} {h:HC} (hr:HRd η ρ M w v h) (hb:∀ b∈refHC h,okB η' b∧ρ' b=ρ b):HRd η' ρ' M' w v h:=by
 cases h with
 | any=>exact hr
 | dat c=>exact RdC.keep (Keeps.shrink w hM) hr
 | ptr b off=>obtain ⟨h1,h2⟩:=hb b (by simp [refHC]);exact ⟨h1,by rw [h2];exact hr.2⟩
 | pel b es i f=>obtain ⟨h1,h2⟩:=hb b (by simp [refHC]);exact ⟨h1,by rw [h2];exact hr.2⟩
 | sl b es lo n=>obtain ⟨h1,h2⟩:=hb b (by simp [refHC]);exact ⟨h1,by rw [h2];exact hr.2⟩
 | mp b=>obtain ⟨h1,h2⟩:=hb b (by simp [refHC]);exact ⟨h1,by rw [h2];exact hr.2⟩
 | fnr b=>obtain ⟨h1,h2⟩:=hb b (by simp [refHC]);exact ⟨h1,by rw [h2];exact hr.2⟩
theorem HRL.at {η':List SB} {ρ':Nat→Value} {M':Nat→Nat→Prop} (hM:∀ b o,M' b o→M b o):∀{vs:List Value} {l:List HC},HRL η ρ M w vs l→(∀ b∈l.flatMap refHC,okB η' b∧ρ' b=ρ b)→HRL η' ρ' M' w vs l
 | [],[],_,_=>trivial
 | _::_,_::_,h,hb=>⟨h.1.at hM (fun b hh=>hb b (by rw [List.flatMap_cons,List.mem_append];exact .inl hh)),HRL.at hM h.2 (fun b hh=>hb b (by rw [List.flatMap_cons,List.mem_append];exact .inr hh))⟩
theorem SVR0.at {η':List SB} {ρ':Nat→Value} {M':Nat→Nat→Prop} (hM:∀ b o,M' b o→M b o) {v:Value} {x:SV} (hr:SVR0 η ρ M w v x) (hb:∀ b∈refSV x,okB η' b∧ρ' b=ρ b):SVR0 η' ρ' M' w v x:=by
 cases x with
 | one h=>exact HRd.at hM hr hb
 | agg l=>obtain ⟨vs,e,h⟩:=hr;exact ⟨vs,e,h.at hM hb⟩
 | tup l=>exact hr.elim
 | any=>trivial
 | undef=>exact hr
 | elt cs=>obtain ⟨b,off,vs,e,h1,h2⟩:=hr;exact ⟨b,off,vs,e,fun j u hj=>⟨fun h=>(h1 j u hj).1 (hM _ _ h),(h1 j u hj).2⟩,h2.keep (Keeps.shrink w hM)⟩
theorem SRL.at {η':List SB} {ρ':Nat→Value} {M':Nat→Nat→Prop} (hM:∀ b o,M' b o→M b o):∀{vs:List Value} {l:List SV},SRL η ρ M w vs l→(∀ b∈l.flatMap refSV,okB η' b∧ρ' b=ρ b)→SRL η' ρ' M' w vs l
 | [],[],_,_=>trivial
 | _::_,_::_,h,hb=>⟨h.1.at hM (fun b hh=>hb b (by rw [List.flatMap_cons,List.mem_append];exact .inl hh)),SRL.at hM h.2 (fun b hh=>hb b (by rw [List.flatMap_cons,List.mem_append];exact .inr hh))⟩
theorem refTup {l:List SV}:refSV (.tup l)=l.flatMap fun x=>match x with
 | .one h=>refHC h
 | .agg l=>l.flatMap refHC
 | _=>[]:=rfl
theorem SRL.refTup:∀{vs:List Value} {l:List SV},SRL η ρ M w vs l→(l.flatMap fun x=>match x with
 | .one h=>refHC h
 | .agg l=>l.flatMap refHC
 | _=>[])=l.flatMap refSV
 | [],[],_=>rfl
 | _::_,x::_,h=>by
  rw [List.flatMap_cons,List.flatMap_cons,h.2.refTup]
  congr 1
  cases x<;>first | rfl | exact h.1.elim
theorem SVR.at {η':List SB} {ρ':Nat→Value} {M':Nat→Nat→Prop} (hM:∀ b o,M' b o→M b o) {v:Value} {x:SV} (hr:SVR η ρ M w v x) (hb:∀ b∈refSV x,okB η' b∧ρ' b=ρ b):SVR η' ρ' M' w v x:=by
 cases x with
 | tup l=>
  obtain ⟨vs,e,h⟩:=hr
  rw [Hp.refTup,h.refTup] at hb
  exact ⟨vs,e,h.at hM hb⟩
 | any=>trivial
 | one h=>exact SVR0.at (x:=.one h) hM hr hb
 | agg l=>exact SVR0.at (x:=.agg l) hM hr hb
 | undef=>exact hr
 | elt cs=>exact SVR0.at (η:=η) (η':=η') (ρ':=ρ') (x:=.elt cs) hM hr hb
theorem EnR.at {η':List SB} {ρ':Nat→Value} {M':Nat→Nat→Prop} (hM:∀ b o,M' b o→M b o):∀{es:List MapEntry} {l:List (Value×SV)},EnR η ρ M w es l→(∀ b∈l.flatMap (fun p=>refSV p.2),okB η' b∧ρ' b=ρ b)→EnR η' ρ' M' w es l
 | [],[],_,_=>trivial
 | _::_,_::_,h,hb=>⟨⟨h.1.1,h.1.2.at hM (fun b hh=>hb b (by rw [List.flatMap_cons,List.mem_append];exact .inl hh))⟩,EnR.at hM h.2 (fun b hh=>hb b (by rw [List.flatMap_cons,List.mem_append];exact .inr hh))⟩
theorem SBR.at {η':List SB} {ρ':Nat→Value} {M':Nat→Nat→Prop} (hM:∀ b o,M' b o→M b o) {v:Value} {x:SB} (hr:SBR η ρ M w v x) (hb:∀ b∈refSB x,okB η' b∧ρ' b=ρ b):SBR η' ρ' M' w v x:=by
 cases x with
 | fresh=>trivial
 | dead=>trivial
 | box l T=>obtain ⟨b,vs,T',e,h1,h2,h3⟩:=hr;exact ⟨b,vs,T',e,h1,h2.at hM hb,h3⟩
 | arr c k T=>
  obtain ⟨hu,h0 | ⟨b,vs,q,T',e,h1,h2,h3⟩⟩:=hr
  · exact ⟨hu,.inl h0⟩
  · exact ⟨hu,.inr ⟨b,vs,q,T',e,h1,h2.keep (Keeps.shrink w hM),h3⟩⟩
 | map es=>obtain ⟨b,ents,clk,e,h1,h2⟩:=hr;exact ⟨b,ents,clk,e,h1,h2.at hM hb⟩
 | clo f l=>obtain ⟨cv,e,h⟩:=hr;exact ⟨cv,e,h.at hM hb⟩
end
theorem Went.cut {E:HEnv} {e:List SB} (hE:At Γ e E) {ρ:Nat→Value} {η:List SB} {w:World} (h:Went Γ E.Mo E.ρ0 E.η0 E.w0 ρ η w) {m:Nat} (hm:e.length≤m) (hr:∀(i:Nat) (x:SB),i<m→η[i]? = some x→e[i]? = some x∨∀ b∈refSB x,b<m) :
 Went Γ E.Mo E.ρ0 E.η0 E.w0 ρ (η.take m) w:=by
 have hget:∀ i x,(η.take m)[i]? = some x→i<m∧η[i]? = some x:=fun i x hi=>by
  rw [List.getElem?_take] at hi
  split at hi
  · rename_i hlt;exact ⟨hlt,hi⟩
  · cases hi
 have hM:∀ b o,MX E.Mo ρ (η.take m) b o→MX E.Mo ρ η b o:=by
  rintro b o (hm | ⟨i,x,hi,hx⟩)
  · exact .inl hm
  · exact .inr ⟨i,x,(hget i x hi).2,hx⟩
 have hok:∀ b,b<m→okB η b→okB (η.take m) b:=fun b hb ⟨x,hx,hf⟩=>⟨x,by rw [List.getElem?_take,if_pos hb];exact hx,hf⟩
 refine ⟨fun b hb=>hok b (Nat.lt_of_lt_of_le (okB_lt hb) (by rw [hE.eq];exact hm)) (h.ok b hb),h.rho,h.keep.trans (Keeps.shrink w hM),h.grow,⟨h.inv.bnd,fun i x hi=>?_,fun i j x y hi hj=>h.inv.inj i j x y (hget i x hi).2 (hget j y hj).2,fun i x hi=>h.inv.sep i x (hget i x hi).2,h.inv.glob.keep (Keeps.shrink w hM)⟩,h.size,h.os,h.tape,h.output,h.frame,fun k ⟨i,x,hi,hx⟩=>h.fresh k ⟨i,x,(hget i x hi).2,hx⟩⟩
 obtain ⟨hlt,hi'⟩:=hget i x hi
 have hsb:=h.inv.blk i x hi'
 refine hsb.at hM (fun b hb=>⟨hok b ?_ (hsb.refs b hb),rfl⟩)
 rcases hr i x hlt hi' with h1 | h1
 · have h2:=(hE.inv.blk i x (by rw [hE.eq];exact h1)).refs b hb
   have:=okB_lt h2
   rw [hE.eq] at this
   omega
 · exact h1 b hb
theorem StH.cut {e:List SB} {σ:List SV} {η:List SB} {m:Nat} (hm:e.length≤m) (hs:∀(i:Nat) (x:SV),σ[i]? = some x→∀ b∈refSV x,b<m) (hr:∀(i:Nat) (x:SB),i<m→η[i]? = some x→e[i]? = some x∨∀ b∈refSB x,b<m):StH Γ e σ η σ (η.take m):=fun E ρ a w hE hR=>by
 have hw:=Went.cut hE hR.went hm hr
 refine ⟨ρ,hR.hd,hR.hs,fun i x hi=>?_,hw⟩
 have hM:∀ b o,MX E.Mo ρ (η.take m) b o→MX E.Mo ρ η b o:=by
  rintro b o (hm | ⟨i,x,hi,hx⟩)
  · exact .inl hm
  · rw [List.getElem?_take] at hi
    split at hi
    · exact .inr ⟨i,x,hi,hx⟩
    · cases hi
 have hsl:=hR.slot i x hi
 refine hsl.at hM (fun b hb=>⟨?_,rfl⟩)
 have hok:okB η b:=by
  cases x with
  | tup l=>
   obtain ⟨vs,_,h⟩:=hsl
   rw [Hp.refTup,h.refTup] at hb
   exact h.refs b hb
  | one h=>exact SVR0.refs (x:=.one h) hsl b hb
  | agg l=>exact SVR0.refs (x:=.agg l) hsl b hb
  | _=>cases hb
 obtain ⟨y,hy,hf⟩:=hok
 exact ⟨y,by rw [List.getElem?_take,if_pos (hs i x hi b hb)];exact hy,hf⟩
end Go.Hp

namespace Go.Hp
open Go Go.RowKit Go.Slot
variable {P:Program} {Γ:List (Nat×List Cell)}
def sw (i j b:Nat):Nat:=if b=i then j else if b=j then i else b
theorem sw_sw (i j b:Nat):sw i j (sw i j b)=b:=by
 unfold sw
 by_cases h1:b=i
 · subst h1
   by_cases h2:j=b
   · simp [h2]
   · simp [h2]
 · by_cases h2:b=j
   · subst h2;simp [h1]
   · simp [h1,h2]
def swHC (i j:Nat):HC→HC
 | .ptr b o=>.ptr (sw i j b) o
 | .pel b es k f=>.pel (sw i j b) es k f
 | .sl b es lo n=>.sl (sw i j b) es lo n
 | .mp b=>.mp (sw i j b)
 | .fnr b=>.fnr (sw i j b)
 | h=>h
def swSV0 (i j:Nat):SV→SV
 | .one h=>.one (swHC i j h)
 | .agg l=>.agg (l.map (swHC i j))
 | x=>x
def swSV (i j:Nat):SV→SV
 | .tup l=>.tup (l.map (swSV0 i j))
 | x=>swSV0 i j x
def swSB (i j:Nat):SB→SB
 | .box l T=>.box (l.map (swHC i j)) T
 | .map es=>.map (es.map fun p=>(p.1,swSV0 i j p.2))
 | .clo f l=>.clo f (l.map (swSV0 i j))
 | x=>x
theorem swSB_own {i j:Nat} {x:SB}:(swSB i j x).own=x.own:=by cases x<;>rfl
theorem swSB_mut {i j o:Nat} {x:SB}:(swSB i j x).mut o↔x.mut o:=by cases x<;>exact Iff.rfl
theorem swSB_fresh {i j:Nat} {x:SB} (h:x≠.fresh):swSB i j x≠.fresh:=by cases x<;>first | exact absurd rfl h | simp [swSB]
section
variable {i j:Nat} {η η':List SB} {ρ:Nat→Value} {M:Nat→Nat→Prop} {w:World}
theorem HRd.sw (hok:∀ b,okB η b→okB η' (Hp.sw i j b)) {v:Value} {h:HC} (hr:HRd η ρ M w v h):HRd η' (fun b=>ρ (Hp.sw i j b)) M w v (swHC i j h):=by
 cases h with
 | any=>exact hr
 | dat c=>exact hr
 | ptr b o=>exact ⟨hok b hr.1,by show v=_;simp only [sw_sw];exact hr.2⟩
 | pel b es k f=>exact ⟨hok b hr.1,by show v=_;simp only [sw_sw];exact hr.2⟩
 | sl b es lo n=>exact ⟨hok b hr.1,by simp only [sw_sw];exact hr.2⟩
 | mp b=>exact ⟨hok b hr.1,by simp only [sw_sw];exact hr.2⟩
 | fnr b=>exact ⟨hok b hr.1,by simp only [sw_sw];exact hr.2⟩
theorem HRL.sw (hok:∀ b,okB η b→okB η' (Hp.sw i j b)):∀{vs:List Value} {l:List HC},HRL η ρ M w vs l→HRL η' (fun b=>ρ (Hp.sw i j b)) M w vs (l.map (swHC i j))
 | [],[],_=>trivial
 | _::_,_::_,h=>⟨h.1.sw hok,h.2.sw hok⟩
theorem SVR0.sw (hok:∀ b,okB η b→okB η' (Hp.sw i j b)) {v:Value} {x:SV} (hr:SVR0 η ρ M w v x):SVR0 η' (fun b=>ρ (Hp.sw i j b)) M w v (swSV0 i j x):=by
 cases x with
 | one h=>exact HRd.sw hok hr
 | agg l=>obtain ⟨vs,e,h⟩:=hr;exact ⟨vs,e,h.sw hok⟩
 | _=>exact hr
theorem SRL.sw (hok:∀ b,okB η b→okB η' (Hp.sw i j b)):∀{vs:List Value} {l:List SV},SRL η ρ M w vs l→SRL η' (fun b=>ρ (Hp.sw i j b)) M w vs (l.map (swSV0 i j))
 | [],[],_=>trivial
 | _::_,_::_,h=>⟨h.1.sw hok,h.2.sw hok⟩
theorem SVR.sw (hok:∀ b,okB η b→okB η' (Hp.sw i j b)) {v:Value} {x:SV} (hr:SVR η ρ M w v x):SVR η' (fun b=>ρ (Hp.sw i j b)) M w v (swSV i j x):=by
 cases x with
 | tup l=>obtain ⟨vs,e,h⟩:=hr;exact ⟨vs,e,h.sw hok⟩
 | one h=>exact HRd.sw hok hr
 | agg l=>obtain ⟨vs,e,h⟩:=hr;exact ⟨vs,e,h.sw hok⟩
 | any=>trivial
 | undef=>exact hr
 | elt cs=>exact hr
theorem EnR.sw (hok:∀ b,okB η b→okB η' (Hp.sw i j b)):∀{es:List MapEntry} {l:List (Value×SV)},EnR η ρ M w es l→EnR η' (fun b=>ρ (Hp.sw i j b)) M w es (l.map fun p=>(p.1,swSV0 i j p.2))
 | [],[],_=>trivial
 | _::_,_::_,h=>⟨⟨h.1.1,h.1.2.sw hok⟩,h.2.sw hok⟩
theorem SBR.sw (hok:∀ b,okB η b→okB η' (Hp.sw i j b)) {v:Value} {x:SB} (hr:SBR η ρ M w v x):SBR η' (fun b=>ρ (Hp.sw i j b)) M w v (swSB i j x):=by
 cases x with
 | fresh=>trivial
 | dead=>trivial
 | box l T=>obtain ⟨b,vs,T',e,h1,h2,h3⟩:=hr;exact ⟨b,vs,T',e,h1,h2.sw hok,h3⟩
 | arr c k T=>exact hr
 | map es=>obtain ⟨b,ents,clk,e,h1,h2⟩:=hr;exact ⟨b,ents,clk,e,h1,h2.sw hok⟩
 | clo f l=>obtain ⟨cv,e,h⟩:=hr;exact ⟨cv,e,h.sw hok⟩
end
theorem swHC_id {i j n:Nat} (hi:n≤i) (hj:n≤j) {h:HC} (hb:∀ b∈refHC h,b<n):swHC i j h=h:=by
 have key:∀ b,b<n→sw i j b=b:=fun b hb=>by unfold sw;rw [if_neg (by omega),if_neg (by omega)]
 cases h<;>simp only [swHC]<;>rw [key _ (hb _ (by simp [refHC]))]
theorem swL_id {i j n:Nat} (hi:n≤i) (hj:n≤j) {l:List HC} (hb:∀ b∈l.flatMap refHC,b<n):l.map (swHC i j)=l:=by
 induction l with
 | nil=>rfl
 | cons h l ih=>
  simp only [List.flatMap_cons,List.mem_append] at hb
  simp only [List.map_cons]
  rw [swHC_id hi hj (fun b hh=>hb b (.inl hh)),ih (fun b hh=>hb b (.inr hh))]
theorem swSV0_id {i j n:Nat} (hi:n≤i) (hj:n≤j) {x:SV} (hb:∀ b∈refSV x,b<n):swSV0 i j x=x:=by
 cases x with
 | one h=>simp only [swSV0];rw [swHC_id hi hj hb]
 | agg l=>simp only [swSV0];rw [swL_id hi hj hb]
 | _=>rfl
theorem swSB_id {i j n:Nat} (hi:n≤i) (hj:n≤j) {x:SB} (hb:∀ b∈refSB x,b<n):swSB i j x=x:=by
 cases x with
 | box l T=>simp only [swSB];rw [swL_id hi hj hb]
 | map es=>
  simp only [swSB]
  congr 1
  simp only [refSB,List.mem_flatMap] at hb
  have:∀ p∈es,(p.1,swSV0 i j p.2)=p:=fun p hp=>by
   rw [swSV0_id hi hj (fun b hh=>hb b ⟨p,hp,hh⟩)]
  exact (List.map_congr_left this).trans (List.map_id es)
 | clo f l=>
  simp only [swSB]
  congr 1
  simp only [refSB,List.mem_flatMap] at hb
  have:∀ x∈l,swSV0 i j x=x:=fun x hx=>swSV0_id hi hj (fun b hh=>hb b ⟨x,hx,hh⟩)
  exact (List.map_congr_left this).trans (List.map_id l)
 | _=>rfl
theorem StH.swap {e:List SB} {σ:List SV} {η η':List SB} {i j:Nat} (hi:e.length≤i) (hj:e.length≤j) (hil:i<η.length) (hjl:j<η.length)
 (hη:∀ b x,η[b]? = some x→(η'[sw i j b]? = some (swSB i j x)∨(e[b]? = some x∧η'[b]? = some x))) (hlen:η'.length=η.length):StH Γ e σ η (σ.map (swSV i j)) η':=fun E ρ a w hE hR=>by
 have hlow:∀ b,b<e.length→sw i j b=b:=fun b hb=>by unfold sw;rw [if_neg (by omega),if_neg (by omega)]
 have hswl:∀ b,b<η.length→sw i j b<η.length:=fun b hb=>by
  unfold sw
  split
  · exact hjl
  · split
    · exact hil
    · exact hb
 have fwd:∀ b x,η[b]? = some x→η'[sw i j b]? = some (swSB i j x):=fun b x hx=>by
  rcases hη b x hx with h | ⟨h1,h2⟩
  · exact h
  · have hb:b<e.length:=(List.getElem?_eq_some_iff.1 h1).1
    rw [hlow b hb,h2]
    have hrefs:=(hE.inv.blk b x (by rw [hE.eq];exact h1)).refs
    rw [swSB_id hi hj (fun c hc=>by have:=okB_lt (hrefs c hc);rw [hE.eq] at this;exact this)]
 have bwd:∀ b y,η'[b]? = some y→∃ x,η[sw i j b]? = some x∧y=swSB i j x:=fun b y hy=>by
  have hb:b<η.length:=by rw [←hlen];exact (List.getElem?_eq_some_iff.1 hy).1
  obtain ⟨x,hx⟩:∃ x,η[sw i j b]? = some x:=⟨_,List.getElem?_eq_getElem (hswl b hb)⟩
  have:=fwd _ _ hx
  rw [sw_sw,hy] at this
  cases this
  exact ⟨x,hx,rfl⟩
 have hok:∀ b,okB η b→okB η' (sw i j b):=fun b ⟨x,hx,hf⟩=>⟨_,fwd b x hx,swSB_fresh hf⟩
 have hM:∀ b o,MX E.Mo (fun b=>ρ (sw i j b)) η' b o↔MX E.Mo ρ η b o:=fun b o=>by
  constructor
  · rintro (hm | ⟨c,y,hc,hy,hr,hb⟩)
    · exact .inl hm
    · obtain ⟨x,hx,rfl⟩:=bwd c y hc
      exact .inr ⟨_,x,hx,swSB_mut.1 hy,hr,hb⟩
  · rintro (hm | ⟨c,x,hc,hx,hr,hb⟩)
    · exact .inl hm
    · exact .inr ⟨sw i j c,_,fwd c x hc,swSB_mut.2 hx,by simp only [sw_sw];exact hr,by simp only [sw_sw];exact hb⟩
 have hMe:MX E.Mo (fun b=>ρ (sw i j b)) η'=MX E.Mo ρ η:=funext fun b=>funext fun o=>propext (hM b o)
 have hX:∀ k,Xb (fun b=>ρ (sw i j b)) η' k→Xb ρ η k:=fun k ⟨c,y,hc,hy,hr,hb⟩=>by
  obtain ⟨x,hx,rfl⟩:=bwd c y hc
  exact ⟨_,x,hx,by rw [←swSB_own (i:=i) (j:=j)];exact hy,hr,hb⟩
 have hw:=hR.went
 refine ⟨fun b=>ρ (sw i j b),hR.hd,by simpa using hR.hs,fun d x hd=>?_,⟨fun b hb=>?_,fun b hb=>?_,?_,hw.grow,⟨hw.inv.bnd,fun b y hb=>?_,fun b c y z hb hc hy hz hrb hrc he=>?_,fun b y hb hy hr=>?_,?_⟩,hw.size,hw.os,hw.tape,hw.output,hw.frame,fun k hk=>hw.fresh k (hX k hk)⟩⟩
 · rw [List.getElem?_map] at hd
   obtain ⟨x0,hx0,rfl⟩:=Option.map_eq_some_iff.1 hd
   rw [hMe]
   exact (hR.slot d x0 hx0).sw hok
 · have hb':=okB_lt hb
   rw [hE.eq] at hb'
   have:=hok b (hw.ok b hb)
   rw [hlow b hb'] at this
   exact this
 · have hb':=okB_lt hb
   rw [hE.eq] at hb'
   show ρ (sw i j b)=_
   rw [hlow b hb']
   exact hw.rho b hb
 · rw [hMe];exact hw.keep
 · obtain ⟨x,hx,rfl⟩:=bwd b y hb
   rw [hMe]
   have:=(hw.inv.blk _ x hx).sw (i:=i) (j:=j) hok
   exact this
 · obtain ⟨x,hx,rfl⟩:=bwd b y hb
   obtain ⟨x',hx',rfl⟩:=bwd c z hc
   have:=hw.inv.inj _ _ x x' hx hx' (by rw [←swSB_own (i:=i) (j:=j)];exact hy) (by rw [←swSB_own (i:=i) (j:=j)];exact hz) hrb hrc he
   have h2:=congrArg (sw i j) this
   rw [sw_sw,sw_sw] at h2
   exact h2
 · obtain ⟨x,hx,rfl⟩:=bwd b y hb
   exact hw.inv.sep _ x hx (by rw [←swSB_own (i:=i) (j:=j)];exact hy) hr
 · rw [hMe];exact hw.inv.glob
def resOneH (P:Program) (σ:List SV) (η:List SB):ResultVar→Option SV
 | .tmp t=>match gtS σ t with
  | .tup _=>none
  | x=>some x
 | .cell a T=>match mkTI P T,seeH η (gtS σ a) with
  | some ti,some (_,hs)=>loadHC ti hs
  | _,_=>none
def resAllH (P:Program) (σ:List SV) (η:List SB):List ResultVar→Option (List SV)
 | []=>some []
 | r::rs=>match resOneH P σ η r,resAllH P σ η rs with
  | some x,some l=>some (x::l)
  | _,_=>none
def resHV (P:Program) (σ:List SV) (η:List SB) (rs:List ResultVar):Option SV:=match resAllH P σ η rs with
 | some [x]=>some x
 | some l=>some (.tup l)
 | none=>none
theorem resOneH_ok {E:HEnv} {ρ:Nat→Value} {σ:List SV} {η:List SB} {a:Act} {w:World} (hI:RI Γ E ρ σ η a w) {r:ResultVar} {x:SV} (h:resOneH P σ η r=some x):∃ v,(resSem a.tmps r).run P w=.ok v w∧SVR0 η ρ (MX E.Mo ρ η) w v x:=by
 cases r with
 | tmp t=>
  have ht:=hI.gt t
  simp only [resOneH] at h
  split at h
  · cases h
  · rename_i y hne
    cases h
    refine ⟨_,rfl,ht.to0 ?_⟩
    generalize gtS σ t=z at hne
    cases z<;>first | rfl | exact absurd rfl (hne _)
 | cell t T=>
  have ht:=hI.gt t
  simp only [resOneH] at h
  split at h
  · rename_i ti rh hs hti hsee
    obtain ⟨b,off,vs,e,hc,hr⟩:=seeH_ok hI ht hsee
    obtain ⟨v,h1,h2⟩:=run_load (mkTI_ok hti) hc hr h
    refine ⟨v,by simp [resSem,e,asAddr,h1],h2.to0 ?_⟩
    unfold loadHC at h
    split at h
    · split at h<;>cases h;rfl
    · split at h<;>cases h;rfl
    · cases h
  · cases h
theorem resAllH_ok {E:HEnv} {ρ:Nat→Value} {σ:List SV} {η:List SB} {a:Act} {w:World} (hI:RI Γ E ρ σ η a w):∀(rs:List ResultVar) (l:List SV),resAllH P σ η rs=some l→∃ vs:List Value,(rs.mapM (resSem a.tmps)).run P w=.ok vs w∧SRL η ρ (MX E.Mo ρ η) w vs l
 | [],l,h=>by cases h;exact ⟨[],rfl,trivial⟩
 | r::rs,l,h=>by
  simp only [resAllH] at h
  split at h
  · rename_i x l' h1 h2
    cases h
    obtain ⟨v,h3,h4⟩:=resOneH_ok hI h1
    obtain ⟨vs,h5,h6⟩:=resAllH_ok hI rs l' h2
    refine ⟨v::vs,?_,h4,h6⟩
    simp only [List.mapM_cons,Sem.run_bind,h3,Result.andThen_ok,h5]
    rfl
  · cases h
theorem resultsH_ok {fn:Func} {E:HEnv} {ρ:Nat→Value} {σ:List SV} {η:List SB} {a:Act} {w:World} (hI:RI Γ E ρ σ η a w) {x:SV} (h:resHV P σ η fn.results.toList=some x):∃ v,(results fn a.tmps).run P w=.ok v w∧SVR η ρ (MX E.Mo ρ η) w v x:=by
 have key:∀ l,resAllH P σ η fn.results.toList=some l→∃ vs:List Value,(results fn a.tmps).run P w=.ok (if h:vs.toArray.size=1 then vs.toArray[0] else .tuple vs.toArray) w∧SRL η ρ (MX E.Mo ρ η) w vs l:=fun l hl=>by
  obtain ⟨vs,hvs,hrs⟩:=resAllH_ok hI fn.results.toList l hl
  refine ⟨vs,?_,hrs⟩
  have hres:results fn a.tmps=(fn.results.mapM (resSem a.tmps) >>= fun vs=>pure (if h:vs.size=1 then vs[0] else .tuple vs)):=by
   unfold results
   refine congrArg (fun g:ResultVar→Sem Value=>(fn.results.mapM g >>= fun vs=>(pure (if h:vs.size=1 then vs[0] else .tuple vs):Sem Value))) (funext fun r=>?_)
   cases r<;>rfl
  rw [hres,Array.mapM_eq_mapM_toList]
  simp only [Sem.run_bind,Sem.run_map,hvs]
  rfl
 unfold resHV at h
 split at h
 · rename_i y hl
   cases h
   obtain ⟨vs,hrun,hrs⟩:=key _ hl
   cases vs with
   | nil=>exact hrs.elim
   | cons v vs=>
    cases vs with
    | cons _ _=>exact hrs.2.elim
    | nil=>exact ⟨v,hrun,SVR.of0 hrs.1⟩
 · rename_i l hne hl
   cases h
   obtain ⟨vs,hrun,hrs⟩:=key _ hl
   have hlen:=hrs.length
   have hn1:vs.toArray.size≠1:=fun e1=>by
    simp only [List.size_toArray] at e1
    have:l.length=1:=by omega
    match l,this,hne with
    | [z],_,hne=>exact hne z rfl
   rw [dif_neg hn1] at hrun
   exact ⟨_,hrun,vs,rfl,hrs⟩
 · cases h
def datRes (η:List SB):SV→Option (AV×List Nat)
 | .tup l=>(argsD η l).map fun p=>(.tup p.1,p.2)
 | x=>argD η x
theorem argD_noHold {η:List SB} {x:SV} {av:AV} {bs:List Nat} (h:argD η x=some (av,bs)):av.holder=false:=by
 unfold argD at h
 split at h
 · obtain ⟨p,hp,e⟩:=Option.map_eq_some_iff.1 h;cases e;rfl
 · obtain ⟨p,hp,e⟩:=Option.map_eq_some_iff.1 h;cases e;rfl
 · cases h;rfl
 · cases h;rfl
 · cases h
theorem datRes_noHold {η:List SB} {x:SV} {av:AV} {bs:List Nat} (h:datRes η x=some (av,bs)):av.holder=false:=by
 unfold datRes at h
 split at h
 · obtain ⟨p,hp,e⟩:=Option.map_eq_some_iff.1 h;cases e;rfl
 · exact argD_noHold h
def retD (P:Program) (rs:List ResultVar) (res:AV):Exit→List SV→List SB→Prop
 | .ret,σ,η | .normal,σ,η=>∃ x av bs,resHV P σ η rs=some x∧datRes η x=some (av,bs)∧RLe av res
 | _,_,_=>False
theorem RI.start {Mo:Nat→Nat→Prop} {ρ:Nat→Value} {η:List SB} {w:World} (h:HInv Γ Mo ρ η w) {vs:List Value} {l:List SV} (hr:SRL η ρ (MX Mo ρ η) w vs l) (n:Nat) :
 RI Γ ⟨w,Mo,ρ,η⟩ ρ (l++List.replicate n .undef) η { tmps:=vs.toArray++Array.replicate n Go.undef,defers:=[] } w:=by
 have hlen:=hr.length
 refine ⟨rfl,by simp [hlen],fun i x hi=>?_,Went.refl h⟩
 by_cases hlt:i<l.length
 · rw [List.getElem?_append_left hlt] at hi
   obtain ⟨v,hv,hx⟩:=hr.get i x hi
   have hvl:i<vs.length:=by omega
   rw [List.getElem?_eq_getElem hvl] at hv
   simp at hv
   have:(vs.toArray++Array.replicate n Go.undef).getD i Go.undef=v:=by
    simp [Array.getD_eq_getD_getElem?,Array.getElem?_append,hvl,hv]
   show SVR _ _ _ _ ((vs.toArray++Array.replicate n Go.undef).getD i Go.undef) x
   rw [this]
   exact SVR.of0 hx
 · rw [List.getElem?_append_right (by omega)] at hi
   have hx:x=.undef:=(List.mem_replicate.1 (List.mem_of_getElem? hi)).2
   subst hx
   have:(vs.toArray++Array.replicate n Go.undef).getD i Go.undef=Go.undef:=by
    simp only [Array.getD_eq_getD_getElem?,Array.getElem?_append]
    rw [if_neg (by simp;omega)]
    simp only [Array.getElem?_replicate]
    split<;>rfl
   show SVR _ _ _ _ ((vs.toArray++Array.replicate n Go.undef).getD i Go.undef) .undef
   rw [this]
   exact rfl
theorem HInv.nil {Mo:Nat→Nat→Prop} {w:World} (hb:Bounded Mo w) (hg:GlobOk Γ Mo w):HInv Γ Mo (fun _=>Go.undef) [] w:=by
 have hM:∀ b o,MX Mo (fun _=>Go.undef) [] b o→Mo b o:=by
  rintro b o (h | ⟨i,x,hi,_⟩)
  · exact h
  · simp at hi
 exact ⟨hb,fun i x hi=>by simp at hi,fun i j x y hi=>by simp at hi,fun i x hi=>by simp at hi,hg.keep (Keeps.shrink w hM)⟩
theorem CallsD.of {f:FuncId} {fn:Func} {c:Code} {args:List AV} {sl:List SV} {res:AV} (hf:P.funcs[f]? = some fn) (hb:fn.body=some c) (hname:(fn.name == "runtime.NumGoroutine")=false) (ha:fromL args=some sl)
 (h:HCode Γ P [] c (retD P fn.results.toList res) (sl++List.replicate (fn.ntmps-sl.length) .undef) []):CallsD Γ P f args res:=by
 refine ⟨⟨fn,hf,hname,by rw [hb];rfl⟩,fun M w vs hM hg hrd=>?_⟩
 have hinv:=HInv.nil hM hg
 have hM0:∀ b o,MX M (fun _=>Go.undef) [] b o→M b o:=by
  rintro b o (h | ⟨i,x,hi,_⟩)
  · exact h
  · simp at hi
 have hsr:SRL [] (fun _=>Go.undef) (MX M (fun _=>Go.undef) []) w vs sl:=fromL_ok ha (hrd.keep (Keeps.shrink w hM0))
 have hlen:=hsr.length
 refine calls_of_wp hf hb ?_
 have hsz:vs.toArray.size=sl.length:=by simp [hlen]
 rw [hsz]
 have hst:=RI.start hinv hsr (fn.ntmps-sl.length)
 refine wp_mono (h _ _ _ w ⟨rfl,hinv⟩ hst) ?_
 rintro e a w' ⟨σ,η,ρ,hq,hR⟩
 have fin:(∃ x av bs,resHV P σ η fn.results.toList=some x∧datRes η x=some (av,bs)∧RLe av res)→a.defers=[]∧∃ v,(results fn a.tmps).run P w'=.ok v w'∧Back M w res (.returned v) w':=by
  rintro ⟨x,av,bs,h1,h2,h3⟩
  obtain ⟨v,hrun,hv⟩:=resultsH_ok (fn:=fn) hR h1
  have harr:∀ b∈bs,isArr (gB η b)=true:=by
   unfold datRes at h2
   split at h2
   · obtain ⟨p,hp,e⟩:=Option.map_eq_some_iff.1 h2;cases e;exact argsD_arr hp
   · exact argD_arr h2
  obtain ⟨hw1,_,hfz⟩:=Went.frz bs η hR.inv rfl harr (fun _=>.inl rfl)
  have hMM:∀ b o,M b o→MX M ρ (appL (frzE η bs) η) b o:=fun b o hm=>.inl hm
  have hrd:RdR M w' v av:=by
   have hv1:=hv.mv hw1.mv
   unfold datRes at h2
   split at h2
   · obtain ⟨p,hp,e⟩:=Option.map_eq_some_iff.1 h2
     cases e
     obtain ⟨vs',e,hl⟩:=hv1
     exact ⟨vs',e,(argsD_ok hw1.inv hp hfz hl).keep (Keeps.shrink w' hMM)⟩
   · rename_i hnt
     have hr0:SVR0 (appL (frzE η bs) η) ρ (MX M ρ (appL (frzE η bs) η)) w' v x:=hv1.to0 (by cases x<;>first | rfl | exact absurd rfl (hnt _))
     have:=(argD_ok hw1.inv h2 hfz hr0).keep (Keeps.shrink w' hMM)
     cases av with
     | tup l=>exact this.elim
     | arr _ _ _=>exact this.elim
     | _=>exact this
  have hw:=hR.went
  refine ⟨hR.hd,v,hrun,v,rfl,⟨hw.os,hw.tape,hw.output,hw.size,fun k hk=>hw.frame k hk (fun ⟨i,x,hi,_⟩=>by simp at hi)⟩,hrd.le h3,fun hh=>?_⟩
  have:=h3.holder hh
  rw [datRes_noHold h2] at this
  cases this
 cases e with
 | normal=>exact fin hq
 | ret=>exact fin hq
 | _=>exact hq.elim
def retH (Γ:List (Nat×List Cell)) (P:Program) (e:List SB) (rs:List ResultVar) (η':List SB) (res:SV):Exit→List SV→List SB→Prop
 | .ret,σ,η | .normal,σ,η=>∃ x,resHV P σ η rs=some x∧StH Γ e [x] η [res] η'
 | _,_,_=>False
theorem CallsH.of {f:FuncId} {fn:Func} {c:Code} {η η':List SB} {args:List SV} {res:SV} (hf:P.funcs[f]? = some fn) (hb:fn.body=some c) (hname:(fn.name == "runtime.NumGoroutine")=false)
 (h:HCode Γ P η c (retH Γ P η fn.results.toList η' res) (args++List.replicate (fn.ntmps-args.length) .undef) η):CallsH Γ P f η args η' res:=by
 refine ⟨⟨fn,hf,hname,by rw [hb];rfl⟩,fun Mo ρ w vs hinv hsr=>?_⟩
 have hlen:=hsr.length
 refine calls_of_wp hf hb ?_
 have hsz:vs.toArray.size=args.length:=by simp [hlen]
 rw [hsz]
 have hst:=RI.start hinv hsr (fn.ntmps-args.length)
 refine wp_mono (h _ _ _ w ⟨rfl,hinv⟩ hst) ?_
 rintro e a w' ⟨σ,η1,ρ1,hq,hR⟩
 have fin:(∃ x,resHV P σ η1 fn.results.toList=some x∧StH Γ η [x] η1 [res] η')→a.defers=[]∧∃ v,(results fn a.tmps).run P w'=.ok v w'∧BackH Γ Mo ρ η w η' res (.returned v) w':=by
  rintro ⟨x,h1,h3⟩
  obtain ⟨v,hrun,hv⟩:=resultsH_ok (fn:=fn) hR h1
  have hI1:RI Γ ⟨w,Mo,ρ,η⟩ ρ1 [x] η1 { tmps:=#[v],defers:=[] } w':=⟨rfl,rfl,fun i y hi=>by
   cases i with
   | zero=>simp at hi;subst hi;exact hv
   | succ i=>simp at hi,hR.went⟩
  obtain ⟨ρ2,hI2⟩:=h3 _ ρ1 _ w' ⟨rfl,hinv⟩ hI1
  exact ⟨hR.hd,v,hrun,v,ρ2,rfl,hI2.went,hI2.slot 0 res rfl⟩
 cases e with
 | normal=>exact fin hq
 | ret=>exact fin hq
 | _=>exact hq.elim
end Go.Hp

namespace Go.Hp
open Go Go.RowKit Go.Slot
variable {P:Program} {Γ:List (Nat×List Cell)}
def rawRaw:SV→SV→Option (Value×Value)
 | .one (.dat (.raw a)),.one (.dat (.raw b))=>some (a,b)
 | _,_=>none
def rawS:SV→Option Value
 | .one (.dat (.raw a))=>some a
 | _=>none
theorem s_bin {o:Oper} {σ:List SV} {η:List SB} {op:BinOp} {T U:TypeId} {x y:Operand} {d:Nat} (ho:o.op=.binOp op T x y U) (hdst:o.dst=some d) {p q v:Value} (hx:rawRaw (opdS Γ σ x) (opdS Γ σ y)=some (p,q)) (hab:abin op p q=some v) :
 HStep Γ P o σ η (d::(orr x++orr y)) [] [(d,.one (.dat (.raw v)))] []:=by
 have hxy:opdS Γ σ x=.one (.dat (.raw p))∧opdS Γ σ y=.one (.dat (.raw q)):=by
  unfold rawRaw at hx
  split at hx
  · rename_i a b h1 h2;cases hx;exact ⟨h1,h2⟩
  · cases hx
 refine HStep.pure hdst (fun E ρ σ' η' a w hag hah hI=>⟨v,?_,RdC.raw (abin_one hab)⟩)
 have sx:=hI.opd x
 have sy:=hI.opd y
 rw [hag.opd (fun t ht=>by simp [ht]),hxy.1] at sx
 rw [hag.opd (fun t ht=>by simp [ht]),hxy.2] at sy
 have ex:a.eval x=p:=RdC.raw_inv sx
 have ey:a.eval y=q:=RdC.raw_inv sy
 simp [execOp,ho,ex,ey,run_eqGuard hab,run_abin hab]
theorem s_un {o:Oper} {σ:List SV} {η:List SB} {op:UnOp} {T:TypeId} {x:Operand} {d:Nat} (ho:o.op=.unOp op T x) (hdst:o.dst=some d) {p v:Value} (hx:rawS (opdS Γ σ x)=some p) (hab:aun op p=some v) :
 HStep Γ P o σ η (d::orr x) [] [(d,.one (.dat (.raw v)))] []:=by
 have hxx:opdS Γ σ x=.one (.dat (.raw p)):=by
  unfold rawS at hx
  split at hx
  · rename_i a h1;cases hx;exact h1
  · cases hx
 have hone:v.oneCell'=true:=by unfold aun at hab;split at hab<;>first | (cases hab;rfl) | cases hab
 refine HStep.pure hdst (fun E ρ σ' η' a w hag hah hI=>⟨v,?_,RdC.raw hone⟩)
 have sx:=hI.opd x
 rw [hag.opd (fun t ht=>by simp [ht]),hxx] at sx
 have ex:a.eval x=p:=RdC.raw_inv sx
 unfold aun at hab
 split at hab
 · cases hab;simp [execOp,ho,ex,Op.unary,Op.intArith]
 · cases hab;simp [execOp,ho,ex,Op.unary]
 · cases hab
theorem s_lenD {o:Oper} {σ:List SV} {η:List SB} {T:TypeId} {x:Operand} {d:Nat} (ho:o.op=.call { callee:=.builtin .len,args:=#[x],argTypes:=#[T] }) (hdst:o.dst=some d) {ti:TI} (hti:mkTI P T=some ti) {c:Cell} {n:Nat}
 (hx:opdS Γ σ x=.one (.dat c)) (hok:lenOk ti c=true) (hl:lenC c=some n):HStep Γ P o σ η (d::orr x) [] [(d,.one (.dat (.raw (.int .i64 (n:Int)))))] []:=by
 refine HStep.pure hdst (fun E ρ σ' η' a w hag hah hI=>⟨_,?_,RdC.raw rfl⟩)
 have sx:=hI.opd x
 rw [hag.opd (fun t ht=>by simp [ht]),hx] at sx
 have hti':=mkTI_ok hti
 have hrd:RdT (MX E.Mo ρ η') w (fun _=>⟨Go.undef,0⟩) (a.eval x) c:=RdT.of sx
 have key:(Builtin.len_ #[T] o.type #[a.eval x]).run P w=.ok (.int .i64 n) w:=by
  rcases hrd.len hl with ⟨ad,cap,hv,hns⟩ | ⟨s,rfl,hv,rfl⟩
  · rw [hv]
    have:∃ e es eb ik,ti.sh=.slice e es eb ik:=by
     unfold lenOk at hok
     split at hok
     · exact absurd rfl (hns _)
     · split at hok
       · rename_i h;exact ⟨_,_,_,_,h⟩
       · cases hok
    obtain ⟨e,es,eb,ik,hsh⟩:=this
    exact Slot.run_len_slice hti' hsh _ _ _ _ w
  · rw [hv]
    have hsh:ti.sh=.string:=by
     simp only [lenOk] at hok
     split at hok
     · assumption
     · cases hok
    obtain ⟨dd,i,z,hd,hi,hz,_,_,_,_,_,hsh'⟩:=hti'.ex
    have:=shOf_string (hsh'.symm.trans hsh)
    subst this
    simp [Builtin.len_,run_underlying' hd,goInt]
 rw [exec_len ho,show (#[x]:Array Operand).map a.eval=#[a.eval x] from by simp]
 have:∀ cs,(builtin .len #[T] o.type cs #[a.eval x]).run P w=.ok (.value (.int .i64 n)) w:=fun cs=>by
  simp only [builtin,Sem.run_bind,key]
  rfl
 exact this _
section
variable (P:Program) (Γ:List (Nat×List Cell)) (lit fn:Bool) (σ:List SV) (η:List SB) (nb:Nat) (o:Oper)
def fMove (x:Operand):HO:=vO o (orr x) [] (some (opdS Γ σ x))
def fPick (c x y:Operand):HO:=match pickH (opdS Γ σ c) (opdS Γ σ x) (opdS Γ σ y) with
 | some v=>vO o (orr c++orr x++orr y) [] (some v)
 | none=>oldO P σ nb o
def fBin (op:BinOp) (x y:Operand):HO:=match rawRaw (opdS Γ σ x) (opdS Γ σ y) with
 | some (p,q)=>match abin op p q with
  | some v=>vO o (orr x++orr y) [] (some (.one (.dat (.raw v))))
  | none=>opP P Γ σ η nb o
 | none=>opP P Γ σ η nb o
def fUn (op:UnOp) (x:Operand):HO:=match rawS (opdS Γ σ x) with
 | some p=>match aun op p with
  | some v=>vO o (orr x) [] (some (.one (.dat (.raw v))))
  | none=>opP P Γ σ η nb o
 | none=>opP P Γ σ η nb o
def fLoad (T:TypeId) (x:Operand):HO:=withT P T fun ti=>match seeH η (opdS Γ σ x) with
 | some (rh,hs)=>vO o (orr x) rh (loadHC ti hs)
 | none=>.bad
def fStore (T:TypeId) (x y:Operand):HO:=match o.dst with
 | none=>withT P T fun ti=>match cellsH (opdS Γ σ y) with
  | some us=>if us.length=ti.size then match storeH η ti.size (opdS Γ σ x) us with
   | some (b,z)=>.eff (orr x++orr y) [b] [] [(b,z)] none
   | none=>.bad
   else .bad
  | none=>.bad
 | some _=>.bad
def fFieldAddr (S:TypeId) (x:Operand) (f:Nat):HO:=withT P S fun ti=>match ti.sh with
 | .struct fs=>match fs[f]? with
  | some (off,_,_)=>vO o (orr x) [] (fieldAddrH (opdS Γ σ x) off)
  | none=>.bad
 | _=>.bad
def fIndexAddr (T:TypeId) (x y:Operand):HO:=withT P T fun ti=>match indexAddrH ti.sh (opdS Γ σ x) (opdS Γ σ y) with
 | some v=>vO o (orr x++orr y) [] (some v)
 | none=>oldO P σ nb o
def fField (T:TypeId) (x:Operand) (f:Nat):HO:=withT P T fun ti=>match ti.sh with
 | .struct fs=>match fs[f]? with
  | some (off,_,ft)=>withT P ft fun tf=>vO o (orr x) [] (partH off tf (opdS Γ σ x))
  | none=>.bad
 | _=>.bad
def fIndex (T:TypeId) (x y:Operand):HO:=withT P T fun ti=>match ti.sh with
 | .array n e es=>withT P e fun te=>match intS (opdS Γ σ y) with
  | some ix=>if (0≤ix∧ix<n)∧es=te.size then vO o (orr x++orr y) [] (partH (ix.toNat*es) te (opdS Γ σ x)) else .bad
  | none=>.bad
 | .string=>vO o (orr x++orr y) [] (sidxS (opdS Γ σ x) (opdS Γ σ y))
 | _=>.bad
def fLen (x:Operand) (T:TypeId):HO:=match opdS Γ σ x,mkTI P T with
 | .one (.dat c),some ti=>match lenOk ti c,lenC c with
  | true,some n=>vO o (orr x) [] (some (.one (.dat (.raw (.int .i64 (n:Int))))))
  | _,_=>opH P Γ lit fn σ η nb o
 | _,_=>opH P Γ lit fn σ η nb o
def fCall (c:Call):HO:=match c.callee with
 | .value x=>callO P Γ σ η o x c.args.toList
 | .builtin .len=>match c.args.toList,c.argTypes.toList with
  | [x],[T]=>fLen P Γ lit fn σ η nb o x T
  | _,_=>opH P Γ lit fn σ η nb o
 | .builtin _=>opH P Γ lit fn σ η nb o
 | _=>.bad
def fExtract (x:Operand) (n:Nat):HO:=vO o (orr x) [] (extractH (opdS Γ σ x) n)
def fNil (x:Operand):HO:=if ptrH (opdS Γ σ x)=true then vO o (orr x) [] (some (opdS Γ σ x)) else .bad
def fBuild (T:TypeId) (ps:Array (Nat×Operand)):HO:=withT P T fun ti=>if arrOk ti=true∧ti.sh.agg=true then vO o (orrs ps.toList) [] ((fillH (placeOf ti.sh) (ti.zc.map .dat) (partsH Γ σ ps.toList)).map .agg) else .bad
def fAlloc (T:TypeId):HO:=withT P T fun ti=>nO o [] [] (.one (.ptr nb 0)) [] (.box (ti.zc.map .dat) (some T))
def fBox (T:TypeId) (x:Operand):HO:=match cellsH (opdS Γ σ x) with
 | some hs=>nO o (orr x) [] (.one (.ptr nb 0)) [] (.box hs (some T))
 | none=>.bad
def opF:HO:=match o.op with
 | .move x=>fMove Γ σ o x
 | .assign x=>fMove Γ σ o x
 | .pick c x y=>fPick P Γ σ nb o c x y
 | .binOp op _ x y _=>fBin P Γ σ η nb o op x y
 | .unOp op _ x=>fUn P Γ σ η nb o op x
 | .load T x=>fLoad P Γ σ η o T x
 | .store T x y=>fStore P Γ σ η o T x y
 | .fieldAddr S x f=>fFieldAddr P Γ σ o S x f
 | .indexAddr T x y=>fIndexAddr P Γ σ nb o T x y
 | .field T x f=>fField P Γ σ o T x f
 | .index T x y=>fIndex P Γ σ o T x y
 | .extract x n=>fExtract Γ σ o x n
 | .nilCheck x=>fNil Γ σ o x
 | .build T ps=>fBuild P Γ σ o T ps
 | .alloc T=>fAlloc P nb o T
 | .box T x=>fBox Γ σ nb o T x
 | .call c=>fCall P Γ lit fn σ η nb o c
 | _=>opH P Γ lit fn σ η nb o
end
theorem opF_ok {lit fn:Bool} {σ:List SV} {η:List SB} {nb:Nat} {o:Oper}:opF P Γ lit fn σ η nb o=opH P Γ lit fn σ η nb o∨(∃ rd rh e h new,opF P Γ lit fn σ η nb o=.eff rd rh e h new∧Sound Γ P o σ η nb rd rh e h new):=by
 have hv:∀{rd:List Nat} {v:SV},(∀ d,o.dst=some d→HStep Γ P o σ η (d::rd) [] [(d,v)] [])→vO o rd [] (some v)=.bad∨∃ rd' rh e h new,vO o rd [] (some v)=.eff rd' rh e h new∧Sound Γ P o σ η nb rd' rh e h new:=by
  intro rd v h
  unfold vO
  cases hd:o.dst with
  | none=>exact .inl rfl
  | some d=>exact .inr ⟨_,_,_,_,_,rfl,h d hd⟩
 unfold opF
 split
 case h_4 op T x y U ho=>
  unfold fBin
  have e:opH P Γ lit fn σ η nb o=opP P Γ σ η nb o:=by unfold opH;rw [ho]
  split
  · rename_i p q hpq
    split
    · rename_i v hab
      cases hd:o.dst with
      | none=>
       left
       have:opP P Γ σ η nb o=.bad:=by
        unfold opP;rw [ho];simp only [vO,oldO,hd]
        repeat' split
        all_goals first | rfl | simp_all
       rw [e,this];unfold vO;rw [hd]
      | some d=>
       right
       refine ⟨_,_,_,_,_,by unfold vO;rw [hd],?_⟩
       exact s_bin ho hd hpq hab
    · exact .inl e.symm
  · exact .inl e.symm
 case h_5 op T x ho=>
  unfold fUn
  have e:opH P Γ lit fn σ η nb o=opP P Γ σ η nb o:=by unfold opH;rw [ho]
  split
  · rename_i p hp
    split
    · rename_i v hab
      cases hd:o.dst with
      | none=>
       left
       have:opP P Γ σ η nb o=.bad:=by
        unfold opP;rw [ho];simp only
        unfold oldO
        rw [hd]
       rw [e,this];unfold vO;rw [hd]
      | some d=>
       right
       refine ⟨_,_,_,_,_,by unfold vO;rw [hd],?_⟩
       exact s_un ho hd hp hab
    · exact .inl e.symm
  · exact .inl e.symm
 case h_17 c ho=>
  unfold fCall
  split
  · rename_i x hc;left;unfold opH;rw [ho];simp only [hc]
  · rename_i hc
    split
    · rename_i x T ha ht
      unfold fLen
      split
      · rename_i cc ti hx hti
        split
        · rename_i n hok hl
          have ho':o.op=.call { callee:=.builtin .len,args:=#[x],argTypes:=#[T] }:=by
           rw [ho]
           obtain ⟨cal,args,tys⟩:=c
           simp only at hc ha ht
           rw [hc,toOne ha,toOneT ht]
          cases hd:o.dst with
          | none=>
           left
           have:opH P Γ lit fn σ η nb o=.bad:=by
            unfold opH;rw [ho'];simp only [hx,isRefH,oldO,hd]
           rw [this];unfold vO;rw [hd]
          | some d=>
           right
           refine ⟨_,_,_,_,_,by unfold vO;rw [hd],?_⟩
           exact s_lenD ho' hd hti hx hok hl
        · exact .inl rfl
      · exact .inl rfl
    · exact .inl rfl
  · exact .inl rfl
  · rename_i h1 h2 h3
    left;unfold opH;rw [ho]
    cases hcc:c.callee with
    | value x=>exact absurd hcc (h1 x)
    | builtin b=>exact absurd hcc (h3 b)
    | _=>simp only [hcc]
 all_goals first
  | exact .inl rfl
  | (rename_i ho;left;unfold opH;rw [ho];simp only;unfold opP;rw [ho];rfl)
  | (rename_i ho;left;unfold opH;rw [ho];rfl)
end Go.Hp
