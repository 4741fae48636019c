/- The proof, part Q11: Hp. -/
import Derived.Test.YtkbkjjahlafhoaaGreatDoorQ10
namespace Go.Hp
open Go Go.RowKit Go.Slot
variable {P:Program} {Γ:List (Nat×List Cell)}
variable {E:HEnv} {ρ:Nat->Value} {J σ2 J' σ0:List SV} {η η2 η0:List SB} {a:Act} {w:World} {ops:Array Oper} {j d r:Nat} {o:Oper} {b:Bool} {rd rh:List Nat} {eff:List (Nat×SV)} {heff:List (Nat×SB)} {X:Nat->Bool} {l:List Oper} {K:List SV->List SB->Prop} {Q:Exit->Act->World->Prop}
theorem z5i (hj:(ops[j]?).bind (·.dst)=some d) (hd:d<J.length) (hI:RI Γ E ρ J η a w) :
 (∀ b,gtS J d=.one (.dat (.raw (.bool b)))->yielded ops a.tmps j=some b)/\(gtS J d=.undef->yielded ops a.tmps j=none):=by
 have hs:=hI.gt d
 have hlt:d<a.tmps.size:=by rw [hI.hs];exact hd
 unfold yielded;rw [hj];simp only [Option.bind_some];constructor
 . intro b hb;rw [hb] at hs;have e:a.tmps.getD d Go.undef=.bool b:=RdC.v7q hs;rw [Array.getElem?_eq_getElem hlt];rw [Array.getD_eq_getD_getElem?,Array.getElem?_eq_getElem hlt] at e;simp at e;rw [e]
 . intro hb;rw [hb] at hs;have e:a.tmps.getD d Go.undef=Go.undef:=hs;rw [Array.getElem?_eq_getElem hlt];rw [Array.getD_eq_getD_getElem?,Array.getElem?_eq_getElem hlt] at e;simp at e;rw [e];rfl
theorem vhw {x:SV} (h:gtS J d=x) (hx:x≠.any):d<J.length:=by
 rcases Nat.lt_or_ge d J.length with h1 | h1
 . exact h1
 . unfold gtS at h;rw [List.getElem?_eq_none h1] at h;exact absurd h.symm hx
def GP (Γ:List (Nat×List Cell)) (P:Program) (ops:Array Oper) (o:Oper) (J:List SV) (η:List SB) (σ2:List SV) (η2:List SB):Prop:=
 ∀(E:HEnv) (ρ:Nat->Value) (a:Act) (w:World),RI Γ E ρ J η a w->∀(K:Act->World->Prop) (Q:Exit->Act->World->Prop),
  (∀ a' w' ρ',RI Γ E ρ' σ2 η2 a' w'->K a' w')->if Region.wanted o (yielded ops a.tmps) then o.wp P a w K Q else K (a.put o.dst Go.undef) w
def GH (Γ:List (Nat×List Cell)) (P:Program) (ops:Array Oper) (o:Oper) (J:List SV) (η:List SB) (rd rh:List Nat) (eff:List (Nat×SV)) (heff:List (Nat×SB)):Prop:=
 ∀(E:HEnv) (ρ:Nat->Value) (J':List SV) (η':List SB) (a:Act) (w:World),agS rd J J'->agB rh η η'->RI Γ E ρ J' η' a w->∀(K:Act->World->Prop) (Q:Exit->Act->World->Prop),
  (∀ a' w' ρ',RI Γ E ρ' (appL eff J') (appL heff η') a' w'->K a' w')->if Region.wanted o (yielded ops a.tmps) then o.wp P a w K Q else K (a.put o.dst Go.undef) w
theorem GP.plain (hg:o.guard=none) (h:yao Γ P o J η σ2 η2):GP Γ P ops o J η σ2 η2:=
 fun E ρ a w hI K Q hK=>by simp only [Region.wanted,hg,if_true];exact h E ρ a w hI K Q hK
theorem GP.taken (hg:o.guard=some (j,b)) (hj:(ops[j]?).bind (·.dst)=some d) (hd:gtS J d=.one (.dat (.raw (.bool b)))) (h:yao Γ P o J η σ2 η2) :
 GP Γ P ops o J η σ2 η2:=fun E ρ a w hI K Q hK=>by
 have hy:=(z5i hj (vhw hd (by simp)) hI).1 b hd;simp only [Region.wanted,hg,hy,beq_self_eq_true,if_true];exact h E ρ a w hI K Q hK
theorem v95 (hI:RI Γ E ρ J η a w) (hg:o.guard=some (j,b)) (hj:(ops[j]?).bind (·.dst)=some d)
 (hd:gtS J d=.one (.dat (.raw (.bool (!b))))\/gtS J d=.undef):Region.wanted o (yielded ops a.tmps)=false:=by
 rcases hd with hd | hd
 . have hy:=(z5i hj (vhw hd (by simp)) hI).1 (!b) hd;simp only [Region.wanted,hg,hy]
   cases b<;>rfl
 . have hy:=(z5i hj (vhw hd (by simp)) hI).2 hd;simp only [Region.wanted,hg,hy];rfl
theorem GP.y9k (hg:o.guard=some (j,b)) (hj:(ops[j]?).bind (·.dst)=some d) (hd:gtS J d=.one (.dat (.raw (.bool (!b))))\/gtS J d=.undef) :
 GP Γ P ops o J η (appL (yoh o .undef) J) η:=fun E ρ a w hI K Q hK=>by
 rw [v95 hI hg hj hd];simp only [Bool.false_eq_true,if_false];exact hK _ _ ρ (hI.dst (v:=Go.undef) (x:=.undef) rfl)
theorem agS.sub {rd':List Nat} (h:agS rd J J') (hs:∀ r∈rd',r∈rd):agS rd' J J':=⟨h.1,fun r hr=>h.2 r (hs r hr)⟩
theorem GH.plain (hg:o.guard=none) (h:x6g Γ P o J η rd rh eff heff):GH Γ P ops o J η rd rh eff heff:=
 fun E ρ J' η' a w h1 h2 hI K Q hK=>by simp only [Region.wanted,hg,if_true];exact h E ρ J' η' a w h1 h2 hI K Q hK
theorem GH.taken (hg:o.guard=some (j,b)) (hj:(ops[j]?).bind (·.dst)=some d)
 (hd:gtS J d=.one (.dat (.raw (.bool b)))) (h:x6g Γ P o J η rd rh eff heff):GH Γ P ops o J η (d::rd) rh eff heff:=fun E ρ J' η' a w h1 h2 hI K Q hK=>by
 have hd':gtS J' d=.one (.dat (.raw (.bool b))):=by rw [h1.2 d (by simp)];exact hd
 have hy:=(z5i hj (vhw hd' (by simp)) hI).1 b hd';simp only [Region.wanted,hg,hy,beq_self_eq_true,if_true];exact h E ρ J' η' a w (h1.sub (fun r hr=>by simp [hr])) h2 hI K Q hK
theorem GH.y9k (hg:o.guard=some (j,b)) (hj:(ops[j]?).bind (·.dst)=some d) (hd:gtS J d=.one (.dat (.raw (.bool (!b))))\/gtS J d=.undef) :
 GH Γ P ops o J η (d::vf6 o) [] (yoh o .undef) []:=fun E ρ J' η' a w h1 h2 hI K Q hK=>by
 rw [v95 hI hg hj (by rw [h1.2 d (by simp)];exact hd)];simp only [Bool.false_eq_true,if_false];exact hK _ _ ρ (hI.dst (v:=Go.undef) (x:=.undef) rfl)
def RunP (Γ:List (Nat×List Cell)) (P:Program) (ops:Array Oper):List Oper->List SV->List SB->(List SV->List SB->Prop)->Prop
 | [],J,η,K=>K J η
 | o::r,J,η,K=>∃ σ2 η2,GP Γ P ops o J η σ2 η2/\RunP Γ P ops r σ2 η2 K
theorem RunP.wpList {ops:Array Oper} {E:HEnv} {Q:Exit->Act->World->Prop} {K:List SV->List SB->Prop} (hQ:∀ J η ρ a w,K J η->RI Γ E ρ J η a w->Q .normal a w):∀(l:List Oper) (J:List SV) (η:List SB) (ρ:Nat->Value) (a:Act) (w:World),
 RunP Γ P ops l J η K->RI Γ E ρ J η a w->Go.wpList P ops Q l a w
 | [],J,η,ρ,a,w,h,hR=>hQ J η ρ a w h hR
 | o::r,J,η,ρ,a,w,⟨σ2,η2,hg,hr⟩,hR=>by
  refine wpList_step (fun K' hK'=>?_);exact hg E ρ a w hR K' Q (fun a' w' ρ' hR'=>hK' _ _ (RunP.wpList hQ r σ2 η2 ρ' a' w' hr hR'))
section one
variable {α:Type}
def evL (eff:List (Nat×α)) (r:Nat):Option α:=(eff.reverse.find? (fun p=>p.1==r)).map (·.2)
theorem wyk (i:Nat) (x:α) (eff:List (Nat×α)) (r:Nat):evL ((i,x)::eff) r=(evL eff r).or (if i=r then some x else none):=by
 unfold evL;rw [List.reverse_cons,List.find?_append]
 cases hf:eff.reverse.find? (fun p=>p.1==r) with
 | some q=>rfl
 | none=>
  simp only [Option.none_or,Option.map_none,List.find?_cons,List.find?_nil];by_cases h:i=r
  . simp [h]
  . have:(i==r)=false:=by simpa using h
    simp [this,h]
theorem x2p:∀(eff:List (Nat×α)) (l:List α) (r:Nat),r<l.length->(appL eff l)[r]? = (evL eff r).or l[r]?
 | [],l,r,_=>by simp [appL,evL]
 | (i,x)::eff,l,r,h=>by
  simp only [appL];rw [x2p eff (l.set i x) r (by simpa using h),wyk]
  cases evL eff r with
  | some v=>rfl
  | none=>
   simp only [Option.none_or];by_cases e:i=r
   . subst e;simp [h]
   . rw [List.getElem?_set_ne e];simp [e]
theorem y27 {eff:List (Nat×α)} (h:r∉eff.map (·.1)):evL eff r=none:=by
 unfold evL;rw [Option.map_eq_none_iff,List.find?_eq_none];intro p hp;simp only [beq_iff_eq]
 exact fun e=>h (List.mem_map.2 ⟨p,by simpa using hp,e⟩)
theorem w0c {eff:List (Nat×α)} (h:r∈eff.map (·.1)):∃ v,evL eff r=some v:=by
 unfold evL;obtain ⟨p,hp,he⟩:=List.mem_map.1 h
 cases hf:eff.reverse.find? (fun p=>p.1==r) with
 | none=>rw [List.find?_eq_none] at hf;exact absurd (by simpa using he) (hf p (by simpa using hp))
 | some q=>exact ⟨q.2,rfl⟩
variable (effs:List (List (Nat×α))) (l0:List α)
def stL (X:Nat->Bool):Nat->List α
 | 0=>l0
 | n+1=>if X n then appL (effs.getD n []) (stL X n) else stL X n
theorem v9w (X:Nat->Bool):∀ n,(stL effs l0 X n).length=l0.length
 | 0=>rfl
 | n+1=>by
  unfold stL
  split
  . rw [zsz,v9w X n]
  . exact v9w X n
def wrL (i:Nat):List Nat:=(effs.getD i []).map (·.1)
theorem w1j {X Y:Nat->Bool} {r:Nat} (hr:r<l0.length):∀ n,(∀ i,i<n->r∈wrL effs i->X i=Y i)->(stL effs l0 X n)[r]? = (stL effs l0 Y n)[r]?
 | 0,_=>rfl
 | n+1,h=>by
  have ih:=w1j hr n (fun i hi=>h i (by omega));by_cases hw:r∈wrL effs n
  . have e:=h n (by omega) hw;unfold stL;rw [<-e]
    split
    . rw [x2p _ _ _ (by rw [v9w];exact hr),x2p _ _ _ (by rw [v9w];exact hr),ih]
    . exact ih
  . have hn:evL (effs.getD n []) r=none:=y27 hw
    have one:∀ Z,(stL effs l0 Z (n+1))[r]? = (stL effs l0 Z n)[r]?:=fun Z=>by
     show (if Z n then _ else _:List α)[r]? = _
     split
     . rw [x2p _ _ _ (by rw [v9w];exact hr),hn];rfl
     . rfl
    rw [one,one,ih]
theorem wln {Z:Nat->Bool} {r j:Nat} (hr:r<l0.length) (hj:Z j=true) {v:α} (hv:evL (effs.getD j []) r=some v):∀ n,j<n->(∀ i,j<i->i<n->Z i=true->r∉wrL effs i)->(stL effs l0 Z n)[r]? = some v
 | 0,h,_=>absurd h (by omega)
 | n + 1, h, ha => by
  by_cases e:j=n
  . subst e;unfold stL;rw [if_pos hj,x2p _ _ _ (by rw [v9w];exact hr),hv];rfl
  . have ih:=wln hr hj hv n (by omega) (fun i h1 h2=>ha i h1 (by omega));unfold stL
    split
    . rename_i hz;rw [x2p _ _ _ (by rw [v9w];exact hr),y27 (ha n (by omega) (by omega) hz)];exact ih
    . exact ih
theorem z8d {X:Nat->Bool} {j:Nat}:∀ n,j<=n->(∀ i,j<=i->i<n->X i=false)->stL effs l0 X n=stL effs l0 X j
 | 0,h,_=>by rw [show j=0 by omega]
 | n+1,h,ha=>by
  by_cases e:j=n+1
  . rw [e]
  . rw [<-z8d n (by omega) (fun i h1 h2=>ha i h1 (by omega))];show (if X n then _ else _)=_;rw [ha n (by omega) (by omega)];rfl
theorem yq9 {X Y:Nat->Bool}:∀ n,(∀ i,i<n->X i=Y i)->stL effs l0 X n=stL effs l0 Y n
 | 0,_=>rfl
 | n+1,h=>by
  unfold stL;rw [h n (by omega),yq9 n (fun i hi=>h i (by omega))]
theorem xxa {N:Nat} (j:Nat) (hj:j<=N):stL effs l0 (fun i=>decide (i<j)) N=stL effs l0 (fun _=>true) j:=by
 rw [z8d effs l0 N hj (fun i h1 _=>by simp;omega)];exact yq9 effs l0 j (fun i hi=>by simp [hi])
variable {effs l0} {N:Nat} {bef:Nat->List Nat} {rds:Nat->List Nat}
theorem NextL.zb8 (hlt:∀ j i,i∈bef j->i<j) (hdisj:∀ i j,i<N->j<N->i≠j->i∉bef j->j∉bef i->∀ r∈rds j,r∉wrL effs i) (hj:j<N) (hX:Slot.Next bef X j) (hr:r∈rds j) :
 (stL effs l0 X N)[r]? = (stL effs l0 (fun _=>true) j)[r]?:=by
 by_cases hlen:r<l0.length
 . rw [← xxa (N := N) effs l0 j (by omega)];refine w1j effs l0 hlen N (fun i hi hw=>?_);by_cases e:i=j
   . subst e;rw [hX.out];simp
   . by_cases h1:i∈bef j
     . rw [hX.all i h1];simp [hlt j i h1]
     . by_cases h2:j∈bef i
       . have h3:X i=false:=by
          cases hx:X i with
          | false=>rfl
          | true=>have:=hX.closed i hx j h2;rw [hX.out] at this;cases this
         have:=hlt i j h2
         rw [h3];simp;omega
       . exact absurd hw (hdisj i j hi hj e h1 h2 r hr)
 . rw [List.getElem?_eq_none (by rw [v9w];omega),List.getElem?_eq_none (by rw [v9w];omega)]
theorem NextL.step (hlt:∀ j i,i∈bef j->i<j) (hdisj:∀ i j,i<N->j<N->i≠j->i∉bef j->j∉bef i->∀ r∈rds j,r∉wrL effs i) (hrdw:∀ j,j<N->∀ x∈wrL effs j,x∈rds j) (hj:j<N) (hX:Slot.Next bef X j) :
 appL (effs.getD j []) (stL effs l0 X N)=stL effs l0 (fun i=>X i||i==j) N:=by
 apply List.ext_getElem?;intro r;by_cases hr:r<l0.length
 . rw [x2p _ _ _ (by rw [v9w];exact hr)];by_cases hw:r∈wrL effs j
   . obtain ⟨v,hv⟩:=w0c hw;rw [hv];refine (wln effs l0 hr (by simp) hv N hj (fun i hji hi hz=>?_)).symm;simp only [Bool.or_eq_true,beq_iff_eq] at hz;have hXi:X i=true:=hz.resolve_right (by omega);refine hdisj i j hi hj (by omega) (fun hb=>by have:=hlt j i hb;omega) (fun hb=>?_) r (hrdw j hj r hw)
     have:=hX.closed i hXi j hb
     rw [hX.out] at this;cases this
   . rw [y27 hw,Option.none_or];refine w1j effs l0 hr N (fun i _ hwi=>?_)
     have:i≠j:=fun e=>hw (e▸hwi)
     simp [this]
 . rw [List.getElem?_eq_none (by rw [zsz,v9w];omega),List.getElem?_eq_none (by rw [v9w];omega)]
end one
structure HR where
 rd:List Nat
 rh:List Nat
 eff:List (Nat×SV)
 heff:List (Nat×SB)
def HR.ws (s:HR):List Nat:=s.eff.map (·.1)
def HR.wh (s:HR):List Nat:=s.heff.map (·.1)
def yx3 (s t:HR):Bool:=(s.ws.all fun x=>!t.rd.contains x)&&(t.ws.all fun x=>!s.rd.contains x)&&(s.wh.all fun x=>!t.rh.contains x)&&(t.wh.all fun x=>!s.rh.contains x)
def xf1 (bs:List (List Nat)):Nat->List HR->List HR->Bool
 | _,_,[]=>true
 | j,before,x::r=>(before.zipIdx.all fun (y,i)=>(bs.getD j []).contains i||yx3 y x)&&xf1 bs (j+1) (before++[x]) r
def wpu (l:List Oper) (recs:List HR):Bool:=
 xu5 0 l&&(recs.all fun s=>(s.ws.all fun x=>s.rd.contains x)&&s.wh.all fun x=>s.rh.contains x)&&xf1 (befs l []) 0 [] recs
def zd8 (Γ:List (Nat×List Cell)) (P:Program) (ops:Array Oper) (l:List Oper):List Oper->List HR->List SV->List SB->(List SV->List SB->Prop)->Prop
 | [],acc,J,η,K=>wpu l acc=true/\K J η
 | o::r,acc,J,η,K=>∃ rd rh eff heff,GH Γ P ops o J η rd rh eff heff/\zd8 Γ P ops l r (acc++[⟨rd,rh,eff,heff⟩]) (appL eff J) (appL heff η) K
theorem zn9 (bs:List (List Nat)):∀(l before:List HR) (j0:Nat),xf1 bs j0 before l=true->j0=before.length->
 ∀(i j:Nat) (x y:HR),i<j->j0<=j->(before++l)[i]? = some x->(before++l)[j]? = some y->i∈bs.getD j []\/yx3 x y=true:=by
 intro l
 induction l with
 | nil=>
  intro before j0 _ hj0 i j x y hij hj hx hy
  have:=(List.getElem?_eq_some_iff.1 hy).1
  simp at this;omega
 | cons z l ih=>
  intro before j0 h hj0 i j x y hij hj hx hy;simp only [xf1,Bool.and_eq_true] at h;by_cases e:j=j0
  . subst e;subst hj0;rw [List.getElem?_append_right (Nat.le_refl _)] at hy;simp at hy;subst hy;rw [List.getElem?_append_left hij] at hx
    have hm:(x,i)∈before.zipIdx:=by
     rw [List.mem_zipIdx_iff_getElem?];simpa using hx
    have:=(List.all_eq_true.1 h.1) (x,i) hm
    simp only [Bool.or_eq_true,List.contains_iff_mem] at this;simpa using this
  . refine ih (before++[z]) (j0+1) h.2 (by simp [hj0]) i j x y hij (by omega) ?_ ?_
    . simpa using hx
    . simpa using hy
structure z4j (recs:List HR) (N:Nat) (bef:Nat->List Nat):Prop where
 lt:∀ j i,i∈bef j->i<j
 rws:∀ j,j<N->∀ x∈wrL (recs.map (·.eff)) j,x∈(recs.getD j ⟨[],[],[],[]⟩).rd
 rwh:∀ j,j<N->∀ x∈wrL (recs.map (·.heff)) j,x∈(recs.getD j ⟨[],[],[],[]⟩).rh
 ds:∀ i j,i<N->j<N->i≠j->i∉bef j->j∉bef i->∀ r∈(recs.getD j ⟨[],[],[],[]⟩).rd,r∉wrL (recs.map (·.eff)) i
 dh:∀ i j,i<N->j<N->i≠j->i∉bef j->j∉bef i->∀ r∈(recs.getD j ⟨[],[],[],[]⟩).rh,r∉wrL (recs.map (·.heff)) i
theorem z3l (recs:List HR) (i:Nat):(recs.map (·.eff)).getD i []=(recs.getD i ⟨[],[],[],[]⟩).eff:=by
 simp only [List.getD_eq_getElem?_getD,List.getElem?_map]
 cases recs[i]?<;>rfl
theorem wjg (recs:List HR) (i:Nat):(recs.map (·.heff)).getD i []=(recs.getD i ⟨[],[],[],[]⟩).heff:=by
 simp only [List.getD_eq_getElem?_getD,List.getElem?_map]
 cases recs[i]?<;>rfl
theorem wm2 {recs:List HR} (hlen:recs.length=l.length) (h:wpu l recs=true):z4j recs l.length (fun j=>(befs l []).getD j []):=by
 simp only [wpu,Bool.and_eq_true] at h;obtain ⟨⟨h1,h2⟩,h3⟩:=h
 have hget:∀ j,j<recs.length->recs[j]? = some (recs.getD j (⟨[],[],[],[]⟩:HR)):=fun j hj=>by simp [List.getD,List.getElem?_eq_getElem hj]
 have hlt:∀ j i,i∈(befs l []).getD j []->i<j:=by
  intro j
  induction j using Nat.strongRecOn with
  | _ j ih =>
   intro i hi;by_cases hj:j<l.length
   . have hs:=(x5l l [] j l[j] (List.getElem?_eq_getElem hj) i).1 (by simpa using hi);have he:=ysw l 0 h1 j l[j] (List.getElem?_eq_getElem hj)
     rcases hs with hd | ⟨d,hd,hdl,hi'⟩
     . have:=he i hd;omega
     . have h4:=he d hd;have h5:=ih d (by omega) i hi';omega
   . simp [List.getD,List.getElem?_eq_none (show (befs l []).length<=j by rw [y69];simp;omega)] at hi
 have hmem:∀ j,j<l.length->(recs.getD j (⟨[],[],[],[]⟩:HR))∈recs:=fun j hj=>List.mem_of_getElem? (hget j (by omega))
 have hap:∀ i j,i<j->j<l.length->i∉(befs l []).getD j []->yx3 (recs.getD i ⟨[],[],[],[]⟩) (recs.getD j ⟨[],[],[],[]⟩)=true:=fun i j hij hj hb=>
  (zn9 (befs l []) recs [] 0 h3 rfl i j _ _ hij (Nat.zero_le _) (by simpa using hget i (by omega)) (by simpa using hget j (by omega))).resolve_left hb
 refine ⟨hlt,fun j hj x hx=>?_,fun j hj x hx=>?_,fun i j hi hj hne h4 h5 r hr hw=>?_,fun i j hi hj hne h4 h5 r hr hw=>?_⟩
 . have:=(List.all_eq_true.1 h2) _ (hmem j hj)
   simp only [Bool.and_eq_true] at this;unfold wrL at hx;rw [z3l] at hx
   have:=(List.all_eq_true.1 this.1) x hx
   simpa using this
 . have:=(List.all_eq_true.1 h2) _ (hmem j hj)
   simp only [Bool.and_eq_true] at this;unfold wrL at hx;rw [wjg] at hx
   have:=(List.all_eq_true.1 this.2) x hx
   simpa using this
 . unfold wrL at hw;rw [z3l] at hw
   rcases Nat.lt_or_ge i j with hlt' | hge
   . have:=hap i j hlt' hj h4
     simp only [yx3,Bool.and_eq_true] at this;have h6:=(List.all_eq_true.1 this.1.1.1) r hw;simp at h6;exact h6 hr
   . have:=hap j i (by omega) hi h5
     simp only [yx3,Bool.and_eq_true] at this;have h6:=(List.all_eq_true.1 this.1.1.2) r hw;simp at h6;exact h6 hr
 . unfold wrL at hw;rw [wjg] at hw
   rcases Nat.lt_or_ge i j with hlt' | hge
   . have:=hap i j hlt' hj h4
     simp only [yx3,Bool.and_eq_true] at this;have h6:=(List.all_eq_true.1 this.1.2) r hw;simp at h6;exact h6 hr
   . have:=hap j i (by omega) hi h5
     simp only [yx3,Bool.and_eq_true] at this;have h6:=(List.all_eq_true.1 this.2) r hw;simp at h6;exact h6 hr
abbrev stS (recs:List HR) (σ0:List SV) (X:Nat->Bool) (n:Nat):List SV:=stL (recs.map (·.eff)) σ0 X n
abbrev stH (recs:List HR) (η0:List SB) (X:Nat->Bool) (n:Nat):List SB:=stL (recs.map (·.heff)) η0 X n
theorem v05 {α:Type} {effs effs':List (List (Nat×α))} {l0:List α} {X:Nat->Bool}:∀ n,(∀ i,i<n->effs.getD i []=effs'.getD i [])->stL effs l0 X n=stL effs' l0 X n
 | 0,_=>rfl
 | n+1,h=>by
  unfold stL;rw [h n (by omega),v05 n (fun i hi=>h i (by omega))]
theorem zd8.chain:∀(r pre:List Oper) (acc:List HR) (J:List SV) (η:List SB),zd8 Γ P ops l r acc J η K->pre++r=l->acc.length=pre.length->
 J=stS acc σ0 (fun _=>true) acc.length->η=stH acc η0 (fun _=>true) acc.length->
 (∀(j:Nat) (o:Oper) (s:HR),pre[j]? = some o->acc[j]? = some s->GH Γ P ops o (stS acc σ0 (fun _=>true) j) (stH acc η0 (fun _=>true) j) s.rd s.rh s.eff s.heff)->
 ∃ recs:List HR,recs.length=l.length/\wpu l recs=true/\K (stS recs σ0 (fun _=>true) recs.length) (stH recs η0 (fun _=>true) recs.length)/\
  ∀(j:Nat) (o:Oper) (s:HR),l[j]? = some o->recs[j]? = some s->GH Γ P ops o (stS recs σ0 (fun _=>true) j) (stH recs η0 (fun _=>true) j) s.rd s.rh s.eff s.heff:=by
 intro r
 induction r with
 | nil=>
  intro pre acc J η h hl hlen hσ hη hsteps;simp only [List.append_nil] at hl;subst hl;exact ⟨acc,hlen,h.1,by rw [<-hσ,<-hη];exact h.2,hsteps⟩
 | cons o r ih=>
  intro pre acc J η h hl hlen hσ hη hsteps;obtain ⟨rd,rh,eff,heff,hg,hr⟩:=h
  have hpS:∀ n,n<=acc.length->stS (acc++[(⟨rd,rh,eff,heff⟩:HR)]) σ0 (fun _=>true) n=stS acc σ0 (fun _=>true) n:=fun n hn=>
   v05 n (fun i hi=>by rw [z3l,z3l];simp [List.getD,List.getElem?_append_left (show i<acc.length by omega)])
  have hpH:∀ n,n<=acc.length->stH (acc++[(⟨rd,rh,eff,heff⟩:HR)]) η0 (fun _=>true) n=stH acc η0 (fun _=>true) n:=fun n hn=>
   v05 n (fun i hi=>by rw [wjg,wjg];simp [List.getD,List.getElem?_append_left (show i<acc.length by omega)])
  refine ih (pre++[o]) (acc++[⟨rd,rh,eff,heff⟩]) (appL eff J) (appL heff η) hr (by rw [<-hl];simp) (by simp [hlen]) ?_ ?_ ?_
  . simp only [List.length_append,List.length_cons,List.length_nil];show _=(if true then appL _ (stL _ σ0 _ acc.length) else _)
    have:=hpS acc.length (Nat.le_refl _)
    simp only [stS] at this;rw [this,hσ,z3l];simp [List.getD]
  . simp only [List.length_append,List.length_cons,List.length_nil];show _=(if true then appL _ (stL _ η0 _ acc.length) else _)
    have:=hpH acc.length (Nat.le_refl _)
    simp only [stH] at this;rw [this,hη,wjg];simp [List.getD]
  . intro j o' s ho hs;by_cases e:j<pre.length
    . rw [List.getElem?_append_left e] at ho;rw [List.getElem?_append_left (by omega)] at hs;rw [hpS j (by omega),hpH j (by omega)];exact hsteps j o' s ho hs
    . have hj:j=pre.length:=by
       have:=(List.getElem?_eq_some_iff.1 ho).1
       simp at this;omega
      subst hj;simp at ho;subst ho;rw [<-hlen] at hs ⊢;simp at hs;subst hs;rw [hpS _ (Nat.le_refl _),hpH _ (Nat.le_refl _),<-hσ,<-hη];exact hg
theorem yug (h:J'[r]? = J[r]?):gtS J' r=gtS J r:=by unfold gtS;rw [h]
theorem xmr {recs:List HR} (hind:z4j recs ops.size (fun j=>(befs ops.toList []).getD j [])) (hlen:recs.length=ops.size) (hedge:xu5 0 ops.toList=true)
 (hsteps:∀(j:Nat) (o:Oper) (s:HR),ops.toList[j]? = some o->recs[j]? = some s->GH Γ P ops o (stS recs σ0 (fun _=>true) j) (stH recs η0 (fun _=>true) j) s.rd s.rh s.eff s.heff)
 (hQ:∀ ρ a w,RI Γ E ρ (stS recs σ0 (fun _=>true) ops.size) (stH recs η0 (fun _=>true) ops.size) a w->Q .normal a w):∀(fuel:Nat) (listed:Array Bool) (ρ:Nat->Value) (a:Act) (w:World),listed.size=ops.size->
   (listed.toList.filter (! ·)).length<=fuel->(∀ k,listed.getD k false=true->∀ i∈(befs ops.toList []).getD k [],listed.getD i false=true)->
   RI Γ E ρ (stS recs σ0 (fun i=>listed.getD i false) ops.size) (stH recs η0 (fun i=>listed.getD i false) ops.size) a w->wpAny P .any ops Q fuel listed a w:=by
 have done:∀(listed:Array Bool),listed.size=ops.size->Region.ready .any ops listed=[]->∀ i,i<ops.size->listed.getD i false=true:=by
  intro listed hsz hr i
  induction i using Nat.strongRecOn with
  | _ i ih =>
   intro hi
   cases hx:listed.getD i false with
   | true=>rfl
   | false=>
    exfalso
    have hmem:i∈Region.ready .any ops listed:=by
     rw [mem_ready];refine ⟨?_,ops[i],by simp [hi],fun e he hb=>?_⟩
     . simp only [Array.getD_eq_getD_getElem?,Array.getElem?_eq_getElem (show i<listed.size by omega),Option.getD_some] at hx ⊢;exact hx
     . have hd:e.on∈direct ops[i]:=List.mem_map.2 ⟨e,by simp [List.mem_filter,hb];exact he,rfl⟩
       have:=ysw ops.toList 0 hedge i ops[i] (by simp [hi]) e.on hd
       exact ih e.on (by omega) (by omega)
    rw [hr] at hmem
    cases hmem
 have fin:∀(listed:Array Bool) (ρ:Nat->Value) (a:Act) (w:World),(∀ i,i<ops.size->listed.getD i false=true)->RI Γ E ρ (stS recs σ0 (fun i=>listed.getD i false) ops.size) (stH recs η0 (fun i=>listed.getD i false) ops.size) a w->Q .normal a w:=fun listed ρ a w hall hR=>by
  refine hQ ρ a w ?_
  rw [show stS recs σ0 (fun _=>true) ops.size=stS recs σ0 (fun i=>listed.getD i false) ops.size from (yq9 _ σ0 ops.size (fun i hi=>hall i hi)).symm,
   show stH recs η0 (fun _=>true) ops.size=stH recs η0 (fun i=>listed.getD i false) ops.size from (yq9 _ η0 ops.size (fun i hi=>hall i hi)).symm]
  exact hR
 intro fuel
 induction fuel with
 | zero=>
  intro listed ρ a w hsz hf hcl hR
  have hall:∀ i,i<ops.size->listed.getD i false=true:=fun i hi=>by
   have hnil:listed.toList.filter (! ·)=[]:=List.eq_nil_of_length_eq_zero (by omega);rw [List.filter_eq_nil_iff] at hnil
   have:=hnil listed[i] (by simp)
   simp only [Bool.not_eq_true',Bool.not_eq_false] at this;simp [show i<listed.size by omega,this]
  have hready:Region.ready .any ops listed=[]:=by
   cases hr:Region.ready .any ops listed with
   | nil=>rfl
   | cons j _=>
    exfalso
    have hj:j∈Region.ready .any ops listed:=by rw [hr];simp
    obtain ⟨h1,o,ho,_⟩:=mem_ready.1 hj;have hjl:j<ops.size:=(Array.getElem?_eq_some_iff.1 ho).1
    have:=hall j hjl
    simp only [Array.getD_eq_getD_getElem?,Array.getElem?_eq_getElem (show j<listed.size by omega),Option.getD_some] at this h1;rw [this] at h1;cases h1
  exact ⟨hready,fin listed ρ a w hall hR⟩
 | succ fuel ih=>
  intro listed ρ a w hsz hf hcl hR;refine ⟨fun hready=>fin listed ρ a w (done listed hsz hready) hR,fun j hj=>?_⟩;obtain ⟨h1,o,ho,hall⟩:=mem_ready.1 hj;have hjl:j<ops.size:=(Array.getElem?_eq_some_iff.1 ho).1
  have hout:listed.getD j false=false:=by
   simp only [Array.getD_eq_getD_getElem?,Array.getElem?_eq_getElem (show j<listed.size by omega),Option.getD_some] at h1 ⊢;exact h1
  have hdir:∀ d∈direct o,listed.getD d false=true:=fun d hd=>by
   obtain ⟨e,he,rfl⟩:=List.mem_map.1 hd;rw [List.mem_filter] at he;exact hall e (by simpa using he.1) he.2
  have hnext:Slot.Next (fun j=>(befs ops.toList []).getD j []) (fun i=>listed.getD i false) j:=by
   refine ⟨hcl,hout,fun i hi=>?_⟩;have hs:=(x5l ops.toList [] j o (by simpa using ho) i).1 (by simpa using hi)
   rcases hs with hd | ⟨d,hd,_,hi'⟩
   . exact hdir i hd
   . exact hcl d (hdir d hd) i hi'
  have hs:recs[j]? = some (recs.getD j (⟨[],[],[],[]⟩:HR)):=by simp [List.getD,List.getElem?_eq_getElem (show j<recs.length by omega)]
  have hg:=hsteps j o _ (by simpa using ho) hs;have hagS:agS (recs.getD j (⟨[],[],[],[]⟩:HR)).rd (stS recs σ0 (fun _=>true) j) (stS recs σ0 (fun i=>listed.getD i false) ops.size):=
   ⟨by rw [v9w,v9w],fun r hr=>yug (NextL.zb8 (N:=ops.size) (rds:=fun j=>(recs.getD j (⟨[],[],[],[]⟩:HR)).rd) hind.lt hind.ds hjl hnext hr)⟩
  have hagB:agB (recs.getD j (⟨[],[],[],[]⟩:HR)).rh (stH recs η0 (fun _=>true) j) (stH recs η0 (fun i=>listed.getD i false) ops.size):=
   ⟨by rw [v9w,v9w],fun r hr=>NextL.zb8 (N:=ops.size) (rds:=fun j=>(recs.getD j (⟨[],[],[],[]⟩:HR)).rh) hind.lt hind.dh hjl hnext hr⟩
  have hstepS:=NextL.step (effs:=recs.map (·.eff)) (l0:=σ0) (N:=ops.size) (rds:=fun j=>(recs.getD j (⟨[],[],[],[]⟩:HR)).rd) hind.lt hind.ds hind.rws hjl hnext;have hstepH:=NextL.step (effs:=recs.map (·.heff)) (l0:=η0) (N:=ops.size) (rds:=fun j=>(recs.getD j (⟨[],[],[],[]⟩:HR)).rh) hind.lt hind.dh hind.rwh hjl hnext;rw [z3l] at hstepS;rw [wjg] at hstepH;have hstep:=hg E ρ _ _ a w hagS hagB hR (wpAny P .any ops Q fuel (listed.setIfInBounds j true)) Q ?_
  . unfold wpOp;rw [ho];dsimp only
    split
    . rename_i hw;rw [if_pos hw] at hstep;exact .inl hstep
    . rename_i hw;rw [if_neg hw] at hstep;exact hstep
  . intro a' w' ρ' hR';rw [hstepS,hstepH] at hR'
    have hX:∀ i,(listed.setIfInBounds j true).getD i false=(listed.getD i false||i==j):=fun i=>by
     by_cases e:i=j
     . subst e;simp [show i<listed.size by omega]
     . simp only [Array.getD_eq_getD_getElem?,Array.getElem?_setIfInBounds_ne (Ne.symm e)];simp [e]
    refine ih _ ρ' a' w' (by simpa using hsz) ?_ ?_ ?_
    . have hcount:∀(l:List Bool) (j:Nat),l[j]? = some false->((l.set j true).filter (! ·)).length+1=(l.filter (! ·)).length:=by
       intro l
       induction l with
       | nil=>intro j h;simp at h
       | cons b l ihl=>
        intro j h
        cases j with
        | zero=>simp at h;subst h;simp
        | succ j=>
         have:=ihl j (by simpa using h)
         cases b<;>simp<;>omega
      have hjb:listed.toList[j]? = some false:=by
       simp only [Array.getD_eq_getD_getElem?,Array.getElem?_eq_getElem (show j<listed.size by omega),Option.getD_some] at hout;simp [Array.getElem?_eq_getElem (show j<listed.size by omega),hout]
      have:=hcount listed.toList j hjb
      simp only [Array.toList_setIfInBounds];omega
    . intro k hk i hi;rw [hX] at hk ⊢;exact hnext.grow k hk i hi
    . rw [show stS recs σ0 (fun i=>(listed.setIfInBounds j true).getD i false) ops.size=_ from yq9 _ σ0 ops.size (fun i _=>hX i),
       show stH recs η0 (fun i=>(listed.setIfInBounds j true).getD i false) ops.size=_ from yq9 _ η0 ops.size (fun i _=>hX i)]
      exact hR'
theorem wlr {id:Nat} (hm:P.follows .mixedOrders=true)
 (hQ:∀ J η ρ a w,K J η->RI Γ E ρ J η a w->Q .normal a w) (h:zd8 Γ P ops ops.toList ops.toList [] J η K) (hR:RI Γ E ρ J η a w):(Code.region id ops true).wp P Q a w:=by
 obtain ⟨recs,hlen,hind,hK,hsteps⟩:=zd8.chain (σ0:=J) (η0:=η) ops.toList [] [] J η h rfl rfl rfl rfl (fun j o s ho=>by simp at ho)
 have hedge:xu5 0 ops.toList=true:=by
  simp only [wpu,Bool.and_eq_true] at hind;exact hind.1.1
 have hI:=wm2 hlen hind;simp only [Array.length_toList] at hlen hI
 have none0:∀{α:Type} (effs:List (List (Nat×α))) (l0:List α) (n:Nat),stL effs l0 (fun _=>false) n=l0:=fun effs l0 n=>by
  induction n with
  | zero=>rfl
  | succ n ih=>show (if false then _ else _)=_;exact ih
 refine wp_region_any hm (xmr hI hlen hedge hsteps (fun ρ a w hR=>hQ _ _ ρ a w (by rw [hlen] at hK;exact hK) hR) ops.size _ ρ a _ (by simp) (by simp) ?_ ?_)
 . intro k hk;exfalso;rw [Array.getD_eq_getD_getElem?] at hk;by_cases hk':k<ops.size
   . simp [hk'] at hk
   . rw [Array.getElem?_eq_none (by simp;omega)] at hk
     cases hk
 . have hb:Below w.heap.size w { w with drawn:=w.drawn+1 }:=(Below.refl _ w).drew
   have hz:∀ i,i<ops.size->(Array.replicate ops.size false).getD i false=false:=fun i hi=>by simp [hi]
   rw [show stS recs J (fun i=>(Array.replicate ops.size false).getD i false) ops.size=J from (yq9 _ J ops.size (fun i hi=>hz i hi)).trans (none0 _ J _),
    show stH recs η (fun i=>(Array.replicate ops.size false).getD i false) ops.size=η from (yq9 _ η ops.size (fun i hi=>hz i hi)).trans (none0 _ η _)]
   exact hR.go (Went.below hR.inv hb)
end Go.Hp
