/- The proof, part P7: Hp, Hq, Hr, Hk, Hs, Ht, Hu, Hv, Hw. -/
import Derived.Test.YtmegdbbbllffkaaGreatP6
import Derived.Scope
namespace Go.Hp
open Go Go.RowKit Go.Slot
variable {P:Program} {Γ:List (Nat×List Cell)}
variable {E:HEnv} {a:Act} {w:World} {ops:Array Oper} {x x':SB} {b:Bool} {y:Code} {T:TypeId} {h:HC} {av:AV} {f:FuncId} {res:SV} {α:Type}
theorem vkb {ρ:Nat->Value} {I:List SV} {J:List SB} {j d:Nat} (hj:(ops[j]?).bind (·.dst)=some d) (hd:d<I.length) (hI:RI Γ E ρ I J a w) :
 (∀ b,gtS I d=.one (.dat (.raw (.bool b)))->yielded ops a.tmps j=some b)/\(gtS I d=.undef->yielded ops a.tmps j=none):=by
 have hs:=hI.gt d
 have hlt:d<a.tmps.size:=by rw [hI.hs];exact hd
 unfold yielded;rw [hj];simp only [Option.bind_some];constructor
 . intro b hb;rw [hb] at hs;have e:a.tmps.getD d Go.undef=.bool b:=RdC.zb6 hs;rw [Array.getElem?_eq_getElem hlt];rw [Array.getD_eq_getD_getElem?,Array.getElem?_eq_getElem hlt] at e;simp at e;rw [e]
 . intro hb;rw [hb] at hs;have e:a.tmps.getD d Go.undef=Go.undef:=hs;rw [Array.getElem?_eq_getElem hlt];rw [Array.getD_eq_getD_getElem?,Array.getElem?_eq_getElem hlt] at e;simp at e;rw [e];rfl
theorem wxx {I:List SV} {d:Nat} {x:SV} (h:gtS I d=x) (hx:x≠.any):d<I.length:=by
 rcases Nat.lt_or_ge d I.length with h1 | h1
 . exact h1
 . unfold gtS at h;rw [List.getElem?_eq_none h1] at h;exact absurd h.symm hx
def GP (Γ:List (Nat×List Cell)) (P:Program) (ops:Array Oper) (o:Oper) (I:List SV) (J:List SB) (σ2:List SV) (η2:List SB):Prop:=
 ∀(E:HEnv) (ρ:Nat->Value) (a:Act) (w:World),RI Γ E ρ I J a w->∀(K:Act->World->Prop) (Q:Exit->Act->World->Prop),
  (∀ a' w' ρ',RI Γ E ρ' σ2 η2 a' w'->K a' w')->if Region.wanted o (yielded ops a.tmps) then o.wp P a w K Q else K (a.put o.dst Go.undef) w
def GH (Γ:List (Nat×List Cell)) (P:Program) (ops:Array Oper) (o:Oper) (I:List SV) (J:List SB) (rd rh:List Nat) (eff:List (Nat×SV)) (heff:List (Nat×SB)):Prop:=
 ∀(E:HEnv) (ρ:Nat->Value) (I':List SV) (J':List SB) (a:Act) (w:World),agS rd I I'->agB rh J J'->RI Γ E ρ I' J' a w->∀(K:Act->World->Prop) (Q:Exit->Act->World->Prop),
  (∀ a' w' ρ',RI Γ E ρ' (appL eff I') (appL heff J') a' w'->K a' w')->if Region.wanted o (yielded ops a.tmps) then o.wp P a w K Q else K (a.put o.dst Go.undef) w
theorem GP.plain {o:Oper} {I σ2:List SV} {J η2:List SB} (hg:o.guard=none) (h:wfn Γ P o I J σ2 η2):GP Γ P ops o I J σ2 η2:=
 fun E ρ a w hI K Q hK=>by simp only [Region.wanted,hg,if_true];exact h E ρ a w hI K Q hK
theorem GP.taken {o:Oper} {I σ2:List SV} {J η2:List SB} {j d:Nat} (hg:o.guard=some (j,b)) (hj:(ops[j]?).bind (·.dst)=some d) (hd:gtS I d=.one (.dat (.raw (.bool b)))) (h:wfn Γ P o I J σ2 η2) :
 GP Γ P ops o I J σ2 η2:=fun E ρ a w hI K Q hK=>by
 have hy:=(vkb hj (wxx hd (by simp)) hI).1 b hd;simp only [Region.wanted,hg,hy,beq_self_eq_true,if_true];exact h E ρ a w hI K Q hK
theorem w4q {ρ:Nat->Value} {I:List SV} {J:List SB} {o:Oper} {j d:Nat} (hI:RI Γ E ρ I J a w) (hg:o.guard=some (j,b)) (hj:(ops[j]?).bind (·.dst)=some d)
 (hd:gtS I d=.one (.dat (.raw (.bool (!b))))\/gtS I d=.undef):Region.wanted o (yielded ops a.tmps)=false:=by
 rcases hd with hd | hd
 . have hy:=(vkb hj (wxx hd (by simp)) hI).1 (!b) hd;simp only [Region.wanted,hg,hy]
   cases b<;>rfl
 . have hy:=(vkb hj (wxx hd (by simp)) hI).2 hd;simp only [Region.wanted,hg,hy];rfl
theorem GP.wae {o:Oper} {I:List SV} {J:List SB} {j d:Nat} (hg:o.guard=some (j,b)) (hj:(ops[j]?).bind (·.dst)=some d) (hd:gtS I d=.one (.dat (.raw (.bool (!b))))\/gtS I d=.undef) :
 GP Γ P ops o I J (appL (ylm o .undef) I) J:=fun E ρ a w hI K Q hK=>by
 rw [w4q hI hg hj hd];simp only [Bool.false_eq_true,if_false];exact hK _ _ ρ (hI.dst (v:=Go.undef) (x:=.undef) rfl)
theorem agS.sub {rd rd':List Nat} {I I':List SV} (h:agS rd I I') (hs:∀ r∈rd',r∈rd):agS rd' I I':=⟨h.1,fun r hr=>h.2 r (hs r hr)⟩
theorem GH.plain {o:Oper} {I:List SV} {J:List SB} {rd rh:List Nat} {eff:List (Nat×SV)} {heff:List (Nat×SB)} (hg:o.guard=none) (h:yvu Γ P o I J rd rh eff heff):GH Γ P ops o I J rd rh eff heff:=
 fun E ρ I' J' a w h1 h2 hI K Q hK=>by simp only [Region.wanted,hg,if_true];exact h E ρ I' J' a w h1 h2 hI K Q hK
theorem GH.taken {o:Oper} {I:List SV} {J:List SB} {rd rh:List Nat} {eff:List (Nat×SV)} {heff:List (Nat×SB)} {j d:Nat} (hg:o.guard=some (j,b)) (hj:(ops[j]?).bind (·.dst)=some d)
 (hd:gtS I d=.one (.dat (.raw (.bool b)))) (h:yvu Γ P o I J rd rh eff heff):GH Γ P ops o I J (d::rd) rh eff heff:=fun E ρ I' J' a w h1 h2 hI K Q hK=>by
 have hd':gtS I' d=.one (.dat (.raw (.bool b))):=by rw [h1.2 d (by simp)];exact hd
 have hy:=(vkb hj (wxx hd' (by simp)) hI).1 b hd';simp only [Region.wanted,hg,hy,beq_self_eq_true,if_true];exact h E ρ I' J' a w (h1.sub (fun r hr=>by simp [hr])) h2 hI K Q hK
theorem GH.wae {o:Oper} {I:List SV} {J:List SB} {j d:Nat} (hg:o.guard=some (j,b)) (hj:(ops[j]?).bind (·.dst)=some d) (hd:gtS I d=.one (.dat (.raw (.bool (!b))))\/gtS I d=.undef) :
 GH Γ P ops o I J (d::v9o o) [] (ylm o .undef) []:=fun E ρ I' J' a w h1 h2 hI K Q hK=>by
 rw [w4q hI hg hj (by rw [h1.2 d (by simp)];exact hd)];simp only [Bool.false_eq_true,if_false];exact hK _ _ ρ (hI.dst (v:=Go.undef) (x:=.undef) rfl)
def RunP (Γ:List (Nat×List Cell)) (P:Program) (ops:Array Oper):List Oper->List SV->List SB->(List SV->List SB->Prop)->Prop
 | [],I,J,K=>K I J
 | o::r,I,J,K=>∃ σ2 η2,GP Γ P ops o I J σ2 η2/\RunP Γ P ops r σ2 η2 K
theorem RunP.wpList {ops:Array Oper} {E:HEnv} {Q:Exit->Act->World->Prop} {K:List SV->List SB->Prop} (hQ:∀ I J ρ a w,K I J->RI Γ E ρ I J a w->Q .normal a w):∀(l:List Oper) (I:List SV) (J:List SB) (ρ:Nat->Value) (a:Act) (w:World),
 RunP Γ P ops l I J K->RI Γ E ρ I J a w->Go.wpList P ops Q l a w
 | [],I,J,ρ,a,w,h,hR=>hQ I J ρ a w h hR
 | o::r,I,J,ρ,a,w,⟨σ2,η2,hg,hr⟩,hR=>by
  refine wpList_step (fun K' hK'=>?_);exact hg E ρ a w hR K' Q (fun a' w' ρ' hR'=>hK' _ _ (RunP.wpList hQ r σ2 η2 ρ' a' w' hr hR'))
section one
variable {α:Type}
def evL (eff:List (Nat×α)) (r:Nat):Option α:=(eff.reverse.find? (fun p=>p.1==r)).map (·.2)
theorem y18 (i:Nat) (x:α) (eff:List (Nat×α)) (r:Nat):evL ((i,x)::eff) r=(evL eff r).or (if i=r then some x else none):=by
 unfold evL;rw [List.reverse_cons,List.find?_append]
 cases hf:eff.reverse.find? (fun p=>p.1==r) with
 | some q=>rfl
 | none=>
  simp only [Option.none_or,Option.map_none,List.find?_cons,List.find?_nil];by_cases h:i=r
  . simp [h]
  . have:(i==r)=false:=by simpa using h
    simp [this,h]
theorem ymv:∀(eff:List (Nat×α)) (l:List α) (r:Nat),r<l.length->(appL eff l)[r]? = (evL eff r).or l[r]?
 | [],l,r,_=>by simp [appL,evL]
 | (i,x)::eff,l,r,h=>by
  simp only [appL];rw [ymv eff (l.set i x) r (by simpa using h),y18]
  cases evL eff r with
  | some v=>rfl
  | none=>
   simp only [Option.none_or];by_cases e:i=r
   . subst e;simp [h]
   . rw [List.getElem?_set_ne e];simp [e]
theorem x4f {eff:List (Nat×α)} {r:Nat} (h:r∉eff.map (·.1)):evL eff r=none:=by
 unfold evL;rw [Option.map_eq_none_iff,List.find?_eq_none];intro p hp;simp only [beq_iff_eq]
 exact fun e=>h (List.mem_map.2 ⟨p,by simpa using hp,e⟩)
theorem xrl {eff:List (Nat×α)} {r:Nat} (h:r∈eff.map (·.1)):∃ v,evL eff r=some v:=by
 unfold evL;obtain ⟨p,hp,he⟩:=List.mem_map.1 h
 cases hf:eff.reverse.find? (fun p=>p.1==r) with
 | none=>rw [List.find?_eq_none] at hf;exact absurd (by simpa using he) (hf p (by simpa using hp))
 | some q=>exact ⟨q.2,rfl⟩
variable (effs:List (List (Nat×α))) (l0:List α)
def stL (X:Nat->Bool):Nat->List α
 | 0=>l0
 | n+1=>if X n then appL (effs.getD n []) (stL X n) else stL X n
theorem yo4 (X:Nat->Bool):∀ n,(stL effs l0 X n).length=l0.length
 | 0=>rfl
 | n+1=>by
  unfold stL
  split
  . rw [z2a,yo4 X n]
  . exact yo4 X n
def wrL (i:Nat):List Nat:=(effs.getD i []).map (·.1)
theorem wiv {X Y:Nat->Bool} {r:Nat} (hr:r<l0.length):∀ n,(∀ i,i<n->r∈wrL effs i->X i=Y i)->(stL effs l0 X n)[r]? = (stL effs l0 Y n)[r]?
 | 0,_=>rfl
 | n+1,h=>by
  have ih:=wiv hr n (fun i hi=>h i (by omega));by_cases hw:r∈wrL effs n
  . have e:=h n (by omega) hw;unfold stL;rw [<-e]
    split
    . rw [ymv _ _ _ (by rw [yo4];exact hr),ymv _ _ _ (by rw [yo4];exact hr),ih]
    . exact ih
  . have hn:evL (effs.getD n []) r=none:=x4f hw
    have one:∀ Z,(stL effs l0 Z (n+1))[r]? = (stL effs l0 Z n)[r]?:=fun Z=>by
     show (if Z n then _ else _:List α)[r]? = _
     split
     . rw [ymv _ _ _ (by rw [yo4];exact hr),hn];rfl
     . rfl
    rw [one,one,ih]
theorem yhy {Z:Nat->Bool} {r j:Nat} (hr:r<l0.length) (hj:Z j=true) {v:α} (hv:evL (effs.getD j []) r=some v):∀ n,j<n->(∀ i,j<i->i<n->Z i=true->r∉wrL effs i)->(stL effs l0 Z n)[r]? = some v
 | 0,h,_=>absurd h (by omega)
 | n + 1, h, ha => by
  by_cases e:j=n
  . subst e;unfold stL;rw [if_pos hj,ymv _ _ _ (by rw [yo4];exact hr),hv];rfl
  . have ih:=yhy hr hj hv n (by omega) (fun i h1 h2=>ha i h1 (by omega));unfold stL
    split
    . rename_i hz;rw [ymv _ _ _ (by rw [yo4];exact hr),x4f (ha n (by omega) (by omega) hz)];exact ih
    . exact ih
theorem voa {X:Nat->Bool} {j:Nat}:∀ n,j<=n->(∀ i,j<=i->i<n->X i=false)->stL effs l0 X n=stL effs l0 X j
 | 0,h,_=>by rw [show j=0 by omega]
 | n+1,h,ha=>by
  by_cases e:j=n+1
  . rw [e]
  . rw [<-voa n (by omega) (fun i h1 h2=>ha i h1 (by omega))];show (if X n then _ else _)=_;rw [ha n (by omega) (by omega)];rfl
theorem wkv {X Y:Nat->Bool}:∀ n,(∀ i,i<n->X i=Y i)->stL effs l0 X n=stL effs l0 Y n
 | 0,_=>rfl
 | n+1,h=>by
  unfold stL;rw [h n (by omega),wkv n (fun i hi=>h i (by omega))]
theorem wmg {N:Nat} (j:Nat) (hj:j<=N):stL effs l0 (fun i=>decide (i<j)) N=stL effs l0 (fun _=>true) j:=by
 rw [voa effs l0 N hj (fun i h1 _=>by simp;omega)];exact wkv effs l0 j (fun i hi=>by simp [hi])
variable {effs l0} {N:Nat} {bef:Nat->List Nat} {rds:Nat->List Nat}
theorem NextL.wwy (hlt:∀ j i,i∈bef j->i<j) (hdisj:∀ i j,i<N->j<N->i≠j->i∉bef j->j∉bef i->∀ r∈rds j,r∉wrL effs i) {X:Nat->Bool} {j:Nat} (hj:j<N) (hX:Slot.Next bef X j) {r:Nat} (hr:r∈rds j) :
 (stL effs l0 X N)[r]? = (stL effs l0 (fun _=>true) j)[r]?:=by
 by_cases hlen:r<l0.length
 . rw [← wmg (N := N) effs l0 j (by omega)];refine wiv effs l0 hlen N (fun i hi hw=>?_);by_cases e:i=j
   . subst e;rw [hX.out];simp
   . by_cases h1:i∈bef j
     . rw [hX.all i h1];simp [hlt j i h1]
     . by_cases h2:j∈bef i
       . have h3:X i=false:=by
          cases hx:X i with
          | false=>rfl
          | true=>have:=hX.closed i hx j h2;rw [hX.out] at this;cases this
         have:=hlt i j h2
         rw [h3];simp;omega
       . exact absurd hw (hdisj i j hi hj e h1 h2 r hr)
 . rw [List.getElem?_eq_none (by rw [yo4];omega),List.getElem?_eq_none (by rw [yo4];omega)]
theorem NextL.step (hlt:∀ j i,i∈bef j->i<j) (hdisj:∀ i j,i<N->j<N->i≠j->i∉bef j->j∉bef i->∀ r∈rds j,r∉wrL effs i) (hrdw:∀ j,j<N->∀ x∈wrL effs j,x∈rds j) {X:Nat->Bool} {j:Nat} (hj:j<N) (hX:Slot.Next bef X j) :
 appL (effs.getD j []) (stL effs l0 X N)=stL effs l0 (fun i=>X i||i==j) N:=by
 apply List.ext_getElem?;intro r;by_cases hr:r<l0.length
 . rw [ymv _ _ _ (by rw [yo4];exact hr)];by_cases hw:r∈wrL effs j
   . obtain ⟨v,hv⟩:=xrl hw;rw [hv];refine (yhy effs l0 hr (by simp) hv N hj (fun i hji hi hz=>?_)).symm;simp only [Bool.or_eq_true,beq_iff_eq] at hz;have hXi:X i=true:=hz.resolve_right (by omega);refine hdisj i j hi hj (by omega) (fun hb=>by have:=hlt j i hb;omega) (fun hb=>?_) r (hrdw j hj r hw)
     have:=hX.closed i hXi j hb
     rw [hX.out] at this;cases this
   . rw [x4f hw,Option.none_or];refine wiv effs l0 hr N (fun i _ hwi=>?_)
     have:i≠j:=fun e=>hw (e▸hwi)
     simp [this]
 . rw [List.getElem?_eq_none (by rw [z2a,yo4];omega),List.getElem?_eq_none (by rw [yo4];omega)]
end one
structure HR where
 rd:List Nat
 rh:List Nat
 eff:List (Nat×SV)
 heff:List (Nat×SB)
def HR.ws (s:HR):List Nat:=s.eff.map (·.1)
def HR.wh (s:HR):List Nat:=s.heff.map (·.1)
def xz0 (s t:HR):Bool:=(s.ws.all fun x=>!t.rd.contains x)&&(t.ws.all fun x=>!s.rd.contains x)&&(s.wh.all fun x=>!t.rh.contains x)&&(t.wh.all fun x=>!s.rh.contains x)
def xej (bs:List (List Nat)):Nat->List HR->List HR->Bool
 | _,_,[]=>true
 | j,before,x::r=>(before.zipIdx.all fun (y,i)=>(bs.getD j []).contains i||xz0 y x)&&xej bs (j+1) (before++[x]) r
def wfm (l:List Oper) (recs:List HR):Bool:=
 vwb 0 l&&(recs.all fun s=>(s.ws.all fun x=>s.rd.contains x)&&s.wh.all fun x=>s.rh.contains x)&&xej (befs l []) 0 [] recs
def xgw (Γ:List (Nat×List Cell)) (P:Program) (ops:Array Oper) (l:List Oper):List Oper->List HR->List SV->List SB->(List SV->List SB->Prop)->Prop
 | [],acc,I,J,K=>wfm l acc=true/\K I J
 | o::r,acc,I,J,K=>∃ rd rh eff heff,GH Γ P ops o I J rd rh eff heff/\xgw Γ P ops l r (acc++[⟨rd,rh,eff,heff⟩]) (appL eff I) (appL heff J) K
theorem vfq (bs:List (List Nat)):∀(l before:List HR) (j0:Nat),xej bs j0 before l=true->j0=before.length->
 ∀(i j:Nat) (x y:HR),i<j->j0<=j->(before++l)[i]? = some x->(before++l)[j]? = some y->i∈bs.getD j []\/xz0 x y=true:=by
 intro l
 induction l with
 | nil=>
  intro before j0 _ hj0 i j x y hij hj hx hy
  have:=(List.getElem?_eq_some_iff.1 hy).1
  simp at this;omega
 | cons z l ih=>
  intro before j0 h hj0 i j x y hij hj hx hy;simp only [xej,Bool.and_eq_true] at h;by_cases e:j=j0
  . subst e;subst hj0;rw [List.getElem?_append_right (Nat.le_refl _)] at hy;simp at hy;subst hy;rw [List.getElem?_append_left hij] at hx
    have hm:(x,i)∈before.zipIdx:=by
     rw [List.mem_zipIdx_iff_getElem?];simpa using hx
    have:=(List.all_eq_true.1 h.1) (x,i) hm
    simp only [Bool.or_eq_true,List.contains_iff_mem] at this;simpa using this
  . refine ih (before++[z]) (j0+1) h.2 (by simp [hj0]) i j x y hij (by omega) ?_ ?_
    . simpa using hx
    . simpa using hy
structure za9 (recs:List HR) (N:Nat) (bef:Nat->List Nat):Prop where
 lt:∀ j i,i∈bef j->i<j
 rws:∀ j,j<N->∀ x∈wrL (recs.map (·.eff)) j,x∈(recs.getD j ⟨[],[],[],[]⟩).rd
 rwh:∀ j,j<N->∀ x∈wrL (recs.map (·.heff)) j,x∈(recs.getD j ⟨[],[],[],[]⟩).rh
 ds:∀ i j,i<N->j<N->i≠j->i∉bef j->j∉bef i->∀ r∈(recs.getD j ⟨[],[],[],[]⟩).rd,r∉wrL (recs.map (·.eff)) i
 dh:∀ i j,i<N->j<N->i≠j->i∉bef j->j∉bef i->∀ r∈(recs.getD j ⟨[],[],[],[]⟩).rh,r∉wrL (recs.map (·.heff)) i
theorem wns (recs:List HR) (i:Nat):(recs.map (·.eff)).getD i []=(recs.getD i ⟨[],[],[],[]⟩).eff:=by
 simp only [List.getD_eq_getElem?_getD,List.getElem?_map]
 cases recs[i]?<;>rfl
theorem y2d (recs:List HR) (i:Nat):(recs.map (·.heff)).getD i []=(recs.getD i ⟨[],[],[],[]⟩).heff:=by
 simp only [List.getD_eq_getElem?_getD,List.getElem?_map]
 cases recs[i]?<;>rfl
theorem zfy {l:List Oper} {recs:List HR} (hlen:recs.length=l.length) (h:wfm l recs=true):za9 recs l.length (fun j=>(befs l []).getD j []):=by
 simp only [wfm,Bool.and_eq_true] at h;obtain ⟨⟨h1,h2⟩,h3⟩:=h
 have hget:∀ j,j<recs.length->recs[j]? = some (recs.getD j (⟨[],[],[],[]⟩:HR)):=fun j hj=>by simp [List.getD,List.getElem?_eq_getElem hj]
 have hlt:∀ j i,i∈(befs l []).getD j []->i<j:=by
  intro j
  induction j using Nat.strongRecOn with
  | _ j ih =>
   intro i hi;by_cases hj:j<l.length
   . have hs:=(zs4 l [] j l[j] (List.getElem?_eq_getElem hj) i).1 (by simpa using hi);have he:=z7k l 0 h1 j l[j] (List.getElem?_eq_getElem hj)
     rcases hs with hd | ⟨d,hd,hdl,hi'⟩
     . have:=he i hd;omega
     . have h4:=he d hd;have h5:=ih d (by omega) i hi';omega
   . simp [List.getD,List.getElem?_eq_none (show (befs l []).length<=j by rw [wiy];simp;omega)] at hi
 have hmem:∀ j,j<l.length->(recs.getD j (⟨[],[],[],[]⟩:HR))∈recs:=fun j hj=>List.mem_of_getElem? (hget j (by omega))
 have hap:∀ i j,i<j->j<l.length->i∉(befs l []).getD j []->xz0 (recs.getD i ⟨[],[],[],[]⟩) (recs.getD j ⟨[],[],[],[]⟩)=true:=fun i j hij hj hb=>
  (vfq (befs l []) recs [] 0 h3 rfl i j _ _ hij (Nat.zero_le _) (by simpa using hget i (by omega)) (by simpa using hget j (by omega))).resolve_left hb
 refine ⟨hlt,fun j hj x hx=>?_,fun j hj x hx=>?_,fun i j hi hj hne h4 h5 r hr hw=>?_,fun i j hi hj hne h4 h5 r hr hw=>?_⟩
 . have:=(List.all_eq_true.1 h2) _ (hmem j hj)
   simp only [Bool.and_eq_true] at this;unfold wrL at hx;rw [wns] at hx
   have:=(List.all_eq_true.1 this.1) x hx
   simpa using this
 . have:=(List.all_eq_true.1 h2) _ (hmem j hj)
   simp only [Bool.and_eq_true] at this;unfold wrL at hx;rw [y2d] at hx
   have:=(List.all_eq_true.1 this.2) x hx
   simpa using this
 . unfold wrL at hw;rw [wns] at hw
   rcases Nat.lt_or_ge i j with hlt' | hge
   . have:=hap i j hlt' hj h4
     simp only [xz0,Bool.and_eq_true] at this;have h6:=(List.all_eq_true.1 this.1.1.1) r hw;simp at h6;exact h6 hr
   . have:=hap j i (by omega) hi h5
     simp only [xz0,Bool.and_eq_true] at this;have h6:=(List.all_eq_true.1 this.1.1.2) r hw;simp at h6;exact h6 hr
 . unfold wrL at hw;rw [y2d] at hw
   rcases Nat.lt_or_ge i j with hlt' | hge
   . have:=hap i j hlt' hj h4
     simp only [xz0,Bool.and_eq_true] at this;have h6:=(List.all_eq_true.1 this.1.2) r hw;simp at h6;exact h6 hr
   . have:=hap j i (by omega) hi h5
     simp only [xz0,Bool.and_eq_true] at this;have h6:=(List.all_eq_true.1 this.2) r hw;simp at h6;exact h6 hr
abbrev stS (recs:List HR) (σ0:List SV) (X:Nat->Bool) (n:Nat):List SV:=stL (recs.map (·.eff)) σ0 X n
abbrev stH (recs:List HR) (η0:List SB) (X:Nat->Bool) (n:Nat):List SB:=stL (recs.map (·.heff)) η0 X n
theorem ybp {α:Type} {effs effs':List (List (Nat×α))} {l0:List α} {X:Nat->Bool}:∀ n,(∀ i,i<n->effs.getD i []=effs'.getD i [])->stL effs l0 X n=stL effs' l0 X n
 | 0,_=>rfl
 | n+1,h=>by
  unfold stL;rw [h n (by omega),ybp n (fun i hi=>h i (by omega))]
theorem xgw.chain {l:List Oper} {σ0:List SV} {η0:List SB} {K:List SV->List SB->Prop}:∀(r pre:List Oper) (acc:List HR) (I:List SV) (J:List SB),xgw Γ P ops l r acc I J K->pre++r=l->acc.length=pre.length->
 I=stS acc σ0 (fun _=>true) acc.length->J=stH acc η0 (fun _=>true) acc.length->
 (∀(j:Nat) (o:Oper) (s:HR),pre[j]? = some o->acc[j]? = some s->GH Γ P ops o (stS acc σ0 (fun _=>true) j) (stH acc η0 (fun _=>true) j) s.rd s.rh s.eff s.heff)->
 ∃ recs:List HR,recs.length=l.length/\wfm l recs=true/\K (stS recs σ0 (fun _=>true) recs.length) (stH recs η0 (fun _=>true) recs.length)/\
  ∀(j:Nat) (o:Oper) (s:HR),l[j]? = some o->recs[j]? = some s->GH Γ P ops o (stS recs σ0 (fun _=>true) j) (stH recs η0 (fun _=>true) j) s.rd s.rh s.eff s.heff:=by
 intro r
 induction r with
 | nil=>
  intro pre acc I J h hl hlen hσ hη hsteps;simp only [List.append_nil] at hl;subst hl;exact ⟨acc,hlen,h.1,by rw [<-hσ,<-hη];exact h.2,hsteps⟩
 | cons o r ih=>
  intro pre acc I J h hl hlen hσ hη hsteps;obtain ⟨rd,rh,eff,heff,hg,hr⟩:=h
  have hpS:∀ n,n<=acc.length->stS (acc++[(⟨rd,rh,eff,heff⟩:HR)]) σ0 (fun _=>true) n=stS acc σ0 (fun _=>true) n:=fun n hn=>
   ybp n (fun i hi=>by rw [wns,wns];simp [List.getD,List.getElem?_append_left (show i<acc.length by omega)])
  have hpH:∀ n,n<=acc.length->stH (acc++[(⟨rd,rh,eff,heff⟩:HR)]) η0 (fun _=>true) n=stH acc η0 (fun _=>true) n:=fun n hn=>
   ybp n (fun i hi=>by rw [y2d,y2d];simp [List.getD,List.getElem?_append_left (show i<acc.length by omega)])
  refine ih (pre++[o]) (acc++[⟨rd,rh,eff,heff⟩]) (appL eff I) (appL heff J) hr (by rw [<-hl];simp) (by simp [hlen]) ?_ ?_ ?_
  . simp only [List.length_append,List.length_cons,List.length_nil];show _=(if true then appL _ (stL _ σ0 _ acc.length) else _)
    have:=hpS acc.length (Nat.le_refl _)
    simp only [stS] at this;rw [this,hσ,wns];simp [List.getD]
  . simp only [List.length_append,List.length_cons,List.length_nil];show _=(if true then appL _ (stL _ η0 _ acc.length) else _)
    have:=hpH acc.length (Nat.le_refl _)
    simp only [stH] at this;rw [this,hη,y2d];simp [List.getD]
  . intro j o' s ho hs;by_cases e:j<pre.length
    . rw [List.getElem?_append_left e] at ho;rw [List.getElem?_append_left (by omega)] at hs;rw [hpS j (by omega),hpH j (by omega)];exact hsteps j o' s ho hs
    . have hj:j=pre.length:=by
       have:=(List.getElem?_eq_some_iff.1 ho).1
       simp at this;omega
      subst hj;simp at ho;subst ho;rw [<-hlen] at hs ⊢;simp at hs;subst hs;rw [hpS _ (Nat.le_refl _),hpH _ (Nat.le_refl _),<-hσ,<-hη];exact hg
theorem xk0 {I I':List SV} {r:Nat} (h:I'[r]? = I[r]?):gtS I' r=gtS I r:=by unfold gtS;rw [h]
theorem xr1 {recs:List HR} {σ0:List SV} {η0:List SB} (hind:za9 recs ops.size (fun j=>(befs ops.toList []).getD j [])) (hlen:recs.length=ops.size) (hedge:vwb 0 ops.toList=true)
 (hsteps:∀(j:Nat) (o:Oper) (s:HR),ops.toList[j]? = some o->recs[j]? = some s->GH Γ P ops o (stS recs σ0 (fun _=>true) j) (stH recs η0 (fun _=>true) j) s.rd s.rh s.eff s.heff) {Q:Exit->Act->World->Prop}
 (hQ:∀ ρ a w,RI Γ E ρ (stS recs σ0 (fun _=>true) ops.size) (stH recs η0 (fun _=>true) ops.size) a w->Q .normal a w):∀(fuel:Nat) (listed:Array Bool) (ρ:Nat->Value) (a:Act) (w:World),listed.size=ops.size->
   (listed.toList.filter (! ·)).length<=fuel->(∀ k,listed.getD k false=true->∀ i∈(befs ops.toList []).getD k [],listed.getD i false=true)->
   RI Γ E ρ (stS recs σ0 (fun i=>listed.getD i false) ops.size) (stH recs η0 (fun i=>listed.getD i false) ops.size) a w->wpAny P .any ops Q fuel listed a w:=by
 have done:∀(listed:Array Bool),listed.size=ops.size->Region.ready .any ops listed=[]->∀ i,i<ops.size->listed.getD i false=true:=by
  intro listed hsz hr i
  induction i using Nat.strongRecOn with
  | _ i ih =>
   intro hi
   cases hx:listed.getD i false with
   | true=>rfl
   | false=>
    exfalso
    have hmem:i∈Region.ready .any ops listed:=by
     rw [mem_ready];refine ⟨?_,ops[i],by simp [hi],fun e he hb=>?_⟩
     . simp only [Array.getD_eq_getD_getElem?,Array.getElem?_eq_getElem (show i<listed.size by omega),Option.getD_some] at hx ⊢;exact hx
     . have hd:e.on∈direct ops[i]:=List.mem_map.2 ⟨e,by simp [List.mem_filter,hb];exact he,rfl⟩
       have:=z7k ops.toList 0 hedge i ops[i] (by simp [hi]) e.on hd
       exact ih e.on (by omega) (by omega)
    rw [hr] at hmem
    cases hmem
 have fin:∀(listed:Array Bool) (ρ:Nat->Value) (a:Act) (w:World),(∀ i,i<ops.size->listed.getD i false=true)->RI Γ E ρ (stS recs σ0 (fun i=>listed.getD i false) ops.size) (stH recs η0 (fun i=>listed.getD i false) ops.size) a w->Q .normal a w:=fun listed ρ a w hall hR=>by
  refine hQ ρ a w ?_
  rw [show stS recs σ0 (fun _=>true) ops.size=stS recs σ0 (fun i=>listed.getD i false) ops.size from (wkv _ σ0 ops.size (fun i hi=>hall i hi)).symm,
   show stH recs η0 (fun _=>true) ops.size=stH recs η0 (fun i=>listed.getD i false) ops.size from (wkv _ η0 ops.size (fun i hi=>hall i hi)).symm]
  exact hR
 intro fuel
 induction fuel with
 | zero=>
  intro listed ρ a w hsz hf hcl hR
  have hall:∀ i,i<ops.size->listed.getD i false=true:=fun i hi=>by
   have hnil:listed.toList.filter (! ·)=[]:=List.eq_nil_of_length_eq_zero (by omega);rw [List.filter_eq_nil_iff] at hnil
   have:=hnil listed[i] (by simp)
   simp only [Bool.not_eq_true',Bool.not_eq_false] at this;simp [show i<listed.size by omega,this]
  have hready:Region.ready .any ops listed=[]:=by
   cases hr:Region.ready .any ops listed with
   | nil=>rfl
   | cons j _=>
    exfalso
    have hj:j∈Region.ready .any ops listed:=by rw [hr];simp
    obtain ⟨h1,o,ho,_⟩:=mem_ready.1 hj;have hjl:j<ops.size:=(Array.getElem?_eq_some_iff.1 ho).1
    have:=hall j hjl
    simp only [Array.getD_eq_getD_getElem?,Array.getElem?_eq_getElem (show j<listed.size by omega),Option.getD_some] at this h1;rw [this] at h1;cases h1
  exact ⟨hready,fin listed ρ a w hall hR⟩
 | succ fuel ih=>
  intro listed ρ a w hsz hf hcl hR;refine ⟨fun hready=>fin listed ρ a w (done listed hsz hready) hR,fun j hj=>?_⟩;obtain ⟨h1,o,ho,hall⟩:=mem_ready.1 hj;have hjl:j<ops.size:=(Array.getElem?_eq_some_iff.1 ho).1
  have hout:listed.getD j false=false:=by
   simp only [Array.getD_eq_getD_getElem?,Array.getElem?_eq_getElem (show j<listed.size by omega),Option.getD_some] at h1 ⊢;exact h1
  have hdir:∀ d∈direct o,listed.getD d false=true:=fun d hd=>by
   obtain ⟨e,he,rfl⟩:=List.mem_map.1 hd;rw [List.mem_filter] at he;exact hall e (by simpa using he.1) he.2
  have hnext:Slot.Next (fun j=>(befs ops.toList []).getD j []) (fun i=>listed.getD i false) j:=by
   refine ⟨hcl,hout,fun i hi=>?_⟩;have hs:=(zs4 ops.toList [] j o (by simpa using ho) i).1 (by simpa using hi)
   rcases hs with hd | ⟨d,hd,_,hi'⟩
   . exact hdir i hd
   . exact hcl d (hdir d hd) i hi'
  have hs:recs[j]? = some (recs.getD j (⟨[],[],[],[]⟩:HR)):=by simp [List.getD,List.getElem?_eq_getElem (show j<recs.length by omega)]
  have hg:=hsteps j o _ (by simpa using ho) hs;have hagS:agS (recs.getD j (⟨[],[],[],[]⟩:HR)).rd (stS recs σ0 (fun _=>true) j) (stS recs σ0 (fun i=>listed.getD i false) ops.size):=
   ⟨by rw [yo4,yo4],fun r hr=>xk0 (NextL.wwy (N:=ops.size) (rds:=fun j=>(recs.getD j (⟨[],[],[],[]⟩:HR)).rd) hind.lt hind.ds hjl hnext hr)⟩
  have hagB:agB (recs.getD j (⟨[],[],[],[]⟩:HR)).rh (stH recs η0 (fun _=>true) j) (stH recs η0 (fun i=>listed.getD i false) ops.size):=
   ⟨by rw [yo4,yo4],fun r hr=>NextL.wwy (N:=ops.size) (rds:=fun j=>(recs.getD j (⟨[],[],[],[]⟩:HR)).rh) hind.lt hind.dh hjl hnext hr⟩
  have hstepS:=NextL.step (effs:=recs.map (·.eff)) (l0:=σ0) (N:=ops.size) (rds:=fun j=>(recs.getD j (⟨[],[],[],[]⟩:HR)).rd) hind.lt hind.ds hind.rws hjl hnext;have hstepH:=NextL.step (effs:=recs.map (·.heff)) (l0:=η0) (N:=ops.size) (rds:=fun j=>(recs.getD j (⟨[],[],[],[]⟩:HR)).rh) hind.lt hind.dh hind.rwh hjl hnext;rw [wns] at hstepS;rw [y2d] at hstepH;have hstep:=hg E ρ _ _ a w hagS hagB hR (wpAny P .any ops Q fuel (listed.setIfInBounds j true)) Q ?_
  . unfold wpOp;rw [ho];dsimp only
    split
    . rename_i hw;rw [if_pos hw] at hstep;exact .inl hstep
    . rename_i hw;rw [if_neg hw] at hstep;exact hstep
  . intro a' w' ρ' hR';rw [hstepS,hstepH] at hR'
    have hX:∀ i,(listed.setIfInBounds j true).getD i false=(listed.getD i false||i==j):=fun i=>by
     by_cases e:i=j
     . subst e;simp [show i<listed.size by omega]
     . simp only [Array.getD_eq_getD_getElem?,Array.getElem?_setIfInBounds_ne (Ne.symm e)];simp [e]
    refine ih _ ρ' a' w' (by simpa using hsz) ?_ ?_ ?_
    . have hcount:∀(l:List Bool) (j:Nat),l[j]? = some false->((l.set j true).filter (! ·)).length+1=(l.filter (! ·)).length:=by
       intro l
       induction l with
       | nil=>intro j h;simp at h
       | cons b l ihl=>
        intro j h
        cases j with
        | zero=>simp at h;subst h;simp
        | succ j=>
         have:=ihl j (by simpa using h)
         cases b<;>simp<;>omega
      have hjb:listed.toList[j]? = some false:=by
       simp only [Array.getD_eq_getD_getElem?,Array.getElem?_eq_getElem (show j<listed.size by omega),Option.getD_some] at hout;simp [Array.getElem?_eq_getElem (show j<listed.size by omega),hout]
      have:=hcount listed.toList j hjb
      simp only [Array.toList_setIfInBounds];omega
    . intro k hk i hi;rw [hX] at hk ⊢;exact hnext.grow k hk i hi
    . rw [show stS recs σ0 (fun i=>(listed.setIfInBounds j true).getD i false) ops.size=_ from wkv _ σ0 ops.size (fun i _=>hX i),
       show stH recs η0 (fun i=>(listed.setIfInBounds j true).getD i false) ops.size=_ from wkv _ η0 ops.size (fun i _=>hX i)]
      exact hR'
theorem yt2 {I:List SV} {J:List SB} {ρ:Nat->Value} {Q:Exit->Act->World->Prop} {K:List SV->List SB->Prop} {id:Nat} (hm:P.follows .mixedOrders=true)
 (hQ:∀ I J ρ a w,K I J->RI Γ E ρ I J a w->Q .normal a w) (h:xgw Γ P ops ops.toList ops.toList [] I J K) (hR:RI Γ E ρ I J a w):(Code.region id ops true).wp P Q a w:=by
 obtain ⟨recs,hlen,hind,hK,hsteps⟩:=xgw.chain (σ0:=I) (η0:=J) ops.toList [] [] I J h rfl rfl rfl rfl (fun j o s ho=>by simp at ho)
 have hedge:vwb 0 ops.toList=true:=by
  simp only [wfm,Bool.and_eq_true] at hind;exact hind.1.1
 have hI:=zfy hlen hind;simp only [Array.length_toList] at hlen hI
 have none0:∀{α:Type} (effs:List (List (Nat×α))) (l0:List α) (n:Nat),stL effs l0 (fun _=>false) n=l0:=fun effs l0 n=>by
  induction n with
  | zero=>rfl
  | succ n ih=>show (if false then _ else _)=_;exact ih
 refine wp_region_any hm (xr1 hI hlen hedge hsteps (fun ρ a w hR=>hQ _ _ ρ a w (by rw [hlen] at hK;exact hK) hR) ops.size _ ρ a _ (by simp) (by simp) ?_ ?_)
 . intro k hk;exfalso;rw [Array.getD_eq_getD_getElem?] at hk;by_cases hk':k<ops.size
   . simp [hk'] at hk
   . rw [Array.getElem?_eq_none (by simp;omega)] at hk
     cases hk
 . have hb:Below w.heap.size w { w with drawn:=w.drawn+1 }:=(Below.refl _ w).drew
   have hz:∀ i,i<ops.size->(Array.replicate ops.size false).getD i false=false:=fun i hi=>by simp [hi]
   rw [show stS recs I (fun i=>(Array.replicate ops.size false).getD i false) ops.size=I from (wkv _ I ops.size (fun i hi=>hz i hi)).trans (none0 _ I _),
    show stH recs J (fun i=>(Array.replicate ops.size false).getD i false) ops.size=J from (wkv _ J ops.size (fun i hi=>hz i hi)).trans (none0 _ J _)]
   exact hR.go (Went.below hR.inv hb)
structure At (Γ:List (Nat×List Cell)) (e:List SB) (E:HEnv):Prop where
 eq:E.η0=e
 inv:HInv Γ E.Mo E.ρ0 E.η0 E.w0
def xkr (Γ:List (Nat×List Cell)) (E:HEnv) (Q:Exit->List SV->List SB->Prop) (x:Exit) (a:Act) (w:World):Prop:=∃ I J ρ,Q x I J/\RI Γ E ρ I J a w
def x2l (Γ:List (Nat×List Cell)) (P:Program) (e:List SB) (c:Code) (Q:Exit->List SV->List SB->Prop) (I:List SV) (J:List SB):Prop:=
 ∀(E:HEnv) (ρ:Nat->Value) (a:Act) (w:World),At Γ e E->RI Γ E ρ I J a w->c.wp P (xkr Γ E Q) a w
def y90 (next:List SV->List SB->Prop) (Q:Exit->List SV->List SB->Prop):Exit->List SV->List SB->Prop
 | .normal,I,J=>next I J
 | e,I,J=>Q e I J
def ync (id:Nat) (Q:Exit->List SV->List SB->Prop):Exit->List SV->List SB->Prop
 | .exit id',I,J=>if id'=id then Q .normal I J else Q (.exit id') I J
 | e,I,J=>Q e I J
section
variable {e:List SB} {Q Q':Exit->List SV->List SB->Prop} {I I' I'':List SV} {J J' J'':List SB}
theorem x2l.mono {c:Code} (h:x2l Γ P e c Q I J) (hq:∀ x I J,Q x I J->Q' x I J):x2l Γ P e c Q' I J:=fun E ρ a w hE hR=>
 wp_mono (h E ρ a w hE hR) (fun x _a _w ⟨I,J,ρ,h1,h2⟩=>⟨I,J,ρ,hq x I J h1,h2⟩)
theorem wi5 (h:Q .normal I J):x2l Γ P e .skip Q I J:=fun _ ρ _ _ _ hR=>wp_skip ⟨I,J,ρ,h,hR⟩
theorem zft {id:Nat} (h:Q (.exit id) I J):x2l Γ P e (.exit id) Q I J:=fun _ ρ _ _ _ hR=>wp_exit ⟨I,J,ρ,h,hR⟩
theorem vsa (h:Q .ret I J):x2l Γ P e .ret Q I J:=fun _ ρ _ _ _ hR=>wp_ret ⟨I,J,ρ,h,hR⟩
theorem v79 {x:Code} (h:x2l Γ P e x (y90 (fun I J=>x2l Γ P e y Q I J) Q) I J):x2l Γ P e (.seq x y) Q I J:=fun E ρ a w hE hR=>
 wp_seq (wp_mono (h E ρ a w hE hR) (fun x a w ⟨I,J,ρ,h1,h2⟩=>by
  cases x<;>first | exact h1 E ρ a w hE h2 | exact ⟨I,J,ρ,h1,h2⟩))
theorem zol {id:Nat} {c:Code} (h:x2l Γ P e c (ync id Q) I J):x2l Γ P e (.block id c) Q I J:=fun E ρ a w hE hR=>
 wp_block (wp_mono (h E ρ a w hE hR) (fun x a w ⟨I,J,ρ,h1,h2⟩=>by
  cases x with
  | exit id'=>
   simp only [Exit.inBlock];simp only [ync] at h1;split at h1
   . rename_i hi;rw [if_pos hi];exact ⟨I,J,ρ,h1,h2⟩
   . rename_i hi;rw [if_neg hi];exact ⟨I,J,ρ,h1,h2⟩
  | _=>exact ⟨I,J,ρ,h1,h2⟩))
theorem x3a {c:Operand} {x:Code} (hc:opdS Γ I c=.one (.dat (.raw (.bool b)))) (ht:b=true->x2l Γ P e x Q I J) (hf:b=false->x2l Γ P e y Q I J):x2l Γ P e (.cond c x y) Q I J:=fun E ρ a w hE hR=>by
 have hs:=hR.opd c;rw [hc] at hs;have e1:a.eval c=.bool b:=RdC.zb6 hs;exact wp_cond_split e1 (fun h=>ht h E ρ a w hE hR) (fun h=>hf h E ρ a w hE hR)
theorem xj9 {id:Nat} (h:RunP Γ P ops ops.toList I J (Q .normal)):x2l Γ P e (.region id ops false) Q I J:=fun _E ρ a w _ hR=>
 wp_region_list (RunP.wpList (fun I J ρ _a _w h1 h2=>⟨I,J,ρ,h1,h2⟩) _ I J ρ a w h hR)
theorem ybc {id:Nat} (hm:P.follows .mixedOrders=true) (h:xgw Γ P ops ops.toList ops.toList [] I J (Q .normal)):x2l Γ P e (.region id ops true) Q I J:=fun _E _ρ _a _w _ hR=>
 yt2 hm (fun I J ρ _a _w h1 h2=>⟨I,J,ρ,h1,h2⟩) h hR
def StH (Γ:List (Nat×List Cell)) (e:List SB) (I:List SV) (J:List SB) (I':List SV) (J':List SB):Prop:=∀(E:HEnv) (ρ:Nat->Value) (a:Act) (w:World),At Γ e E->RI Γ E ρ I J a w->∃ ρ',RI Γ E ρ' I' J' a w
theorem StH.refl:StH Γ e I J I J:=fun _ ρ _ _ _ h=>⟨ρ,h⟩
theorem StH.trans (h:StH Γ e I J I' J') (h':StH Γ e I' J' I'' J''):StH Γ e I J I'' J'':=fun E ρ a w hE hR=>let ⟨ρ',h1⟩:=h E ρ a w hE hR;h' E ρ' a w hE h1
theorem x2l.le {c:Code} (h:StH Γ e I J I' J') (hc:x2l Γ P e c Q I' J'):x2l Γ P e c Q I J:=fun E ρ a w hE hR=>let ⟨ρ',h1⟩:=h E ρ a w hE hR;hc E ρ' a w hE h1
end
inductive HCle:HC->HC->Prop
 | refl (h:HC):HCle h h
 | any (h:HC):HCle h .any
 | dat {c c':Cell} (h:Cell.Le c c'):HCle (.dat c) (.dat c')
inductive yp2:List HC->List HC->Prop
 | nil:yp2 [] []
 | cons {h h':HC} {l l':List HC} (a:HCle h h') (t:yp2 l l'):yp2 (h::l) (h'::l')
inductive SVle:SV->SV->Prop
 | refl (x:SV):SVle x x
 | any (x:SV):SVle x .any
 | one {h h':HC} (a:HCle h h'):SVle (.one h) (.one h')
 | agg {l l':List HC} (a:yp2 l l'):SVle (.agg l) (.agg l')
inductive vma:List SV->List SV->Prop
 | nil:vma [] []
 | cons {x x':SV} {l l':List SV} (a:SVle x x') (t:vma l l'):vma (x::l) (x'::l')
section
variable {J:List SB} {ρ:Nat->Value} {M:Nat->Nat->Prop} {w:World}
theorem HRd.le {v:Value} {h h':HC} (hl:HCle h h') (hr:HRd J ρ M w v h):HRd J ρ M w v h':=by
 cases hl with
 | refl=>exact hr
 | any=>exact HRd.one hr
 | dat h=>exact RdC.le h hr
theorem HRL.le:∀{vs:List Value} {l l':List HC},yp2 l l'->HRL J ρ M w vs l->HRL J ρ M w vs l'
 | _vs,_,_,.nil,h=>h
 | [],_,_,.cons _ _,h=>h.elim
 | _::_,_,_,.cons a t,h=>⟨h.1.le a,HRL.le t h.2⟩
theorem SVR0.le {v:Value} {x x':SV} (hl:SVle x x') (hr:SVR0 J ρ M w v x):SVR0 J ρ M w v x':=by
 cases hl with
 | refl=>exact hr
 | any=>trivial
 | one a=>exact HRd.le a hr
 | agg a=>obtain ⟨vs,e,h⟩:=hr;exact ⟨vs,e,h.le a⟩
theorem SRL.le:∀{vs:List Value} {l l':List SV},vma l l'->SRL J ρ M w vs l->SRL J ρ M w vs l'
 | _vs,_,_,.nil,h=>h
 | [],_,_,.cons _ _,h=>h.elim
 | _::_,_,_,.cons a t,h=>⟨h.1.le a,SRL.le t h.2⟩
theorem SVR.le {v:Value} {x x':SV} (hl:SVle x x') (hr:SVR J ρ M w v x):SVR J ρ M w v x':=by
 cases hl with
 | refl=>exact hr
 | any=>trivial
 | one a=>exact HRd.le a hr
 | agg a=>obtain ⟨vs,e,h⟩:=hr;exact ⟨vs,e,h.le a⟩
end
theorem vma.length:∀{l l':List SV},vma l l'->l.length=l'.length
 | _,_,.nil=>rfl
 | _,_,.cons _ t=>by simp [t.length]
theorem vma.get:∀{l l':List SV},vma l l'->∀(i:Nat) (y:SV),l'[i]? = some y->∃ x,l[i]? = some x/\SVle x y
 | _,_,.nil,i,y,h=>by simp at h
 | _,_,.cons a t,0,y,h=>by simp at h;subst h;exact ⟨_,by simp,a⟩
 | _,_,.cons a t,i+1,y,h=>by simpa using t.get i y (by simpa using h)
theorem StH.wph {e:List SB} {I I':List SV} {J:List SB} (h:vma I I'):StH Γ e I J I' J:=fun E ρ a w _ hR=>
 ⟨ρ,hR.hd,by rw [hR.hs,h.length],fun i y hi=>by
  obtain ⟨x,hx,hl⟩:=h.get i y hi
  exact (hR.slot i x hx).le hl,hR.went⟩
def wue:List Nat->Nat->List SV->List SV
 | _,_,[]=>[]
 | [],i,_::l=>.any::wue [] (i+1) l
 | k::ks,i,x::l=>match k==i with
  | true=>x::wue ks (i+1) l
  | false=>.any::wue (k::ks) (i+1) l
theorem vpa:∀(l:List SV) (ks:List Nat) (i:Nat),vma l (wue ks i l)
 | [],_,_=>by unfold wue;exact .nil
 | x::l,[],i=>by unfold wue;exact .cons (.any _) (vpa l [] (i+1))
 | x::l,k::ks,i=>by
  unfold wue
  split
  . exact .cons (.refl _) (vpa l ks (i+1))
  . exact .cons (.any _) (vpa l (k::ks) (i+1))
theorem StH.only {e:List SB} {I:List SV} {J:List SB} (ks:List Nat):StH Γ e I J (wue ks 0 I) J:=StH.wph (vpa I ks 0)
inductive SBle:SB->SB->Prop
 | dead (x:SB):SBle x .dead
 | box {l l':List HC} {T:Option TypeId} (a:yp2 l l'):SBle (.box l T) (.box l' T)
 | boxT {l:List HC} {T:Option TypeId}:SBle (.box l T) (.box l none)
 | arrT {c:Cell} {k:Nat} {T:Option TypeId}:SBle (.arr c k T) (.arr c k none)
theorem Went.sble {Mo:Nat->Nat->Prop} {ρ:Nat->Value} {J:List SB} (h:HInv Γ Mo ρ J w) {b:Nat} (hx:J[b]? = some x) (hl:SBle x x'):Went Γ Mo ρ J w ρ (J.set b x') w:=by
 have hs:=h.blk b x hx
 cases hl with
 | dead=>exact Went.kill h hx
 | box a=>exact Went.less h hx (by simp) (fun _=>rfl) (fun o h=>h) (fun m=>by
  obtain ⟨bb,vs,T,e,hh,hr,ht⟩:=hs.mv m (fun _ _=>rfl)
  exact ⟨bb,vs,T,e,hh,hr.le a,ht⟩)
 | boxT=>exact Went.less h hx (by simp) (fun _=>rfl) (fun o h=>h) (fun m=>by
  obtain ⟨bb,vs,T,e,hh,hr,ht⟩:=hs.mv m (fun _ _=>rfl)
  exact ⟨bb,vs,T,e,hh,hr,fun t' ht'=>by cases ht'⟩)
 | arrT=>exact Went.less h hx (by simp) (fun _=>rfl) (fun o h=>h) (fun m=>by
  obtain ⟨hu,h0 | ⟨bb,vs,q,T,e,hh,hr,ht⟩⟩:=hs.mv m (fun _ _=>rfl)
  . exact ⟨hu,.inl h0⟩
  . exact ⟨hu,.inr ⟨bb,vs,q,T,e,hh,hr,fun t' ht'=>by cases ht'⟩⟩)
theorem StH.block {e:List SB} {I:List SV} {J:List SB} {b:Nat} (hx:J[b]? = some x) (hl:SBle x x'):StH Γ e I J I (J.set b x'):=fun _E ρ _a _w _ hR=>⟨ρ,hR.go (Went.sble hR.inv hx hl)⟩
theorem StH.empty {e:List SB} {I:List SV} {J:List SB} {d:Nat} {c0 c:Cell} {es:Nat} {T:Option TypeId} (hd:gtS I d=.one (.dat c0)) (hz:isZc c0=true) (hu:c.uni) (hc:c.cnt=0):StH Γ e I J (I.set d (.one (.sl J.length es 0 0))) (J++[.arr c 0 T]):=fun E ρ a w _ hR=>by
 have h1:=hR.go (Went.extend hR.inv 1)
 have hf:(J++[SB.fresh])[J.length]? = some .fresh:=by simp
 have hw:=Went.new h1.inv (zgs w) hf (v:=.pointer none) (x:=.arr c 0 T) (by simp) (fun _ hr=>absurd rfl hr) (fun m=>⟨⟨hu,Nat.zero_le _⟩,.inl ⟨hc,rfl⟩⟩);have h2:=h1.go hw;rw [show (J++List.replicate 1 SB.fresh).set J.length (.arr c 0 T)=J++[.arr c 0 T] by simp] at h2;refine ⟨upd ρ J.length (.pointer none),?_⟩;have hs:=h2.gt d;rw [hd] at hs;obtain ⟨ad,hv⟩:=wwu (τ:=fun _=>⟨Go.undef,0⟩) hz (RdT.of (show RdC _ w (a.tmps.getD d Go.undef) c0 from hs));have hlt:d<I.length:=wxx hd (by simp);have hp:=h2.put (d:=d) (v:=a.tmps.getD d Go.undef) (x:=.one (.sl J.length es 0 0)) ⟨⟨_,by simp;rfl,by simp⟩,ad,0,hv,Nat.le_refl _,fun h=>absurd rfl h⟩
 have ha:a.put (some d) (a.tmps.getD d Go.undef)=a:=by
  unfold Act.put
  have:a.tmps.setIfInBounds d (a.tmps.getD d Go.undef)=a.tmps:=by
   apply Array.ext
   . simp
   . intro i h1 h2;rw [Array.getElem_setIfInBounds]
     split
     . rename_i e1;subst e1;simp [h2]
     . rfl
  simp only [this]
 rw [ha] at hp;exact hp
def yj9:HC->List Nat
 | .ptr b _ | .pel b _ _ _ | .sl b _ _ _ | .mp b | .fnr b=>[b]
 | _=>[]
def vp6:SV->List Nat
 | .one h=>yj9 h
 | .agg l=>l.flatMap yj9
 | .tup l=>l.flatMap fun x=>match x with
  | .one h=>yj9 h
  | .agg l=>l.flatMap yj9
  | _=>[]
 | _=>[]
def z0y:SB->List Nat
 | .box l _=>l.flatMap yj9
 | .map es=>es.flatMap fun p=>vp6 p.2
 | .clo _ l=>l.flatMap vp6
 | _=>[]
theorem wnl {J:List SB} {b:Nat} (h:okB J b):b<J.length:=by
 obtain ⟨x,hx,_⟩:=h;exact (List.getElem?_eq_some_iff.1 hx).1
section
variable {J:List SB} {ρ:Nat->Value} {M:Nat->Nat->Prop} {w:World}
theorem HRd.refs {v:Value} (hr:HRd J ρ M w v h):∀ b∈yj9 h,okB J b:=by
 intro b hb
 cases h<;>simp only [yj9,List.mem_singleton,List.not_mem_nil] at hb<;>first | (subst hb;exact hr.1) | exact hb.elim
theorem HRL.refs:∀{vs:List Value} {l:List HC},HRL J ρ M w vs l->∀ b∈l.flatMap yj9,okB J b
 | [],[],_,b,hb=>by simp at hb
 | _::_,_::_,h,b,hb=>by
  rw [List.flatMap_cons,List.mem_append] at hb;exact hb.elim (h.1.refs b) (h.2.refs b)
theorem SVR0.refs {v:Value} {x:SV} (hr:SVR0 J ρ M w v x):∀ b∈vp6 x,okB J b:=by
 cases x with
 | one h=>exact HRd.refs hr
 | agg l=>obtain ⟨vs,_,h⟩:=hr;exact h.refs
 | tup l=>exact hr.elim
 | _=>intro b hb;cases hb
theorem SRL.refs:∀{vs:List Value} {l:List SV},SRL J ρ M w vs l->∀ b∈l.flatMap vp6,okB J b
 | [],[],_,b,hb=>by simp at hb
 | _::_,_::_,h,b,hb=>by
  rw [List.flatMap_cons,List.mem_append] at hb;exact hb.elim (h.1.refs b) (h.2.refs b)
theorem EnR.refs:∀{es:List MapEntry} {l:List (Value×SV)},EnR J ρ M w es l->∀ b∈l.flatMap (fun p=>vp6 p.2),okB J b
 | [],[],_,b,hb=>by simp at hb
 | _::_,_::_,h,b,hb=>by
  rw [List.flatMap_cons,List.mem_append] at hb;exact hb.elim (h.1.2.refs b) (h.2.refs b)
theorem SBR.refs {v:Value} {x:SB} (hr:SBR J ρ M w v x):∀ b∈z0y x,okB J b:=by
 cases x with
 | box l T=>obtain ⟨_,_,_,_,_,h,_⟩:=hr;exact h.refs
 | map es=>obtain ⟨_,_,_,_,_,h⟩:=hr;exact h.refs
 | clo f l=>obtain ⟨_,_,h⟩:=hr;exact h.refs
 | _=>intro b hb;cases hb
theorem HRd.at {J':List SB} {ρ':Nat->Value} {M':Nat->Nat->Prop} (hM:∀ b o,M' b o->M b o) {v:Value} (hr:HRd J ρ M w v h) (hb:∀ b∈yj9 h,okB J' b/\ρ' b=ρ b):HRd J' ρ' M' w v h:=by
 cases h with
 | any=>exact hr
 | dat c=>exact RdC.keep (ya3.shrink w hM) hr
 | ptr b off=>obtain ⟨h1,h2⟩:=hb b (by simp [yj9]);exact ⟨h1,by rw [h2];exact hr.2⟩
 | pel b es i f=>obtain ⟨h1,h2⟩:=hb b (by simp [yj9]);exact ⟨h1,by rw [h2];exact hr.2⟩
 | sl b es lo n=>obtain ⟨h1,h2⟩:=hb b (by simp [yj9]);exact ⟨h1,by rw [h2];exact hr.2⟩
 | mp b=>obtain ⟨h1,h2⟩:=hb b (by simp [yj9]);exact ⟨h1,by rw [h2];exact hr.2⟩
 | fnr b=>obtain ⟨h1,h2⟩:=hb b (by simp [yj9]);exact ⟨h1,by rw [h2];exact hr.2⟩
theorem HRL.at {J':List SB} {ρ':Nat->Value} {M':Nat->Nat->Prop} (hM:∀ b o,M' b o->M b o):∀{vs:List Value} {l:List HC},HRL J ρ M w vs l->(∀ b∈l.flatMap yj9,okB J' b/\ρ' b=ρ b)->HRL J' ρ' M' w vs l
 | [],[],_,_=>trivial
 | _::_,_::_,h,hb=>⟨h.1.at hM (fun b hh=>hb b (by rw [List.flatMap_cons,List.mem_append];exact .inl hh)),HRL.at hM h.2 (fun b hh=>hb b (by rw [List.flatMap_cons,List.mem_append];exact .inr hh))⟩
theorem SVR0.at {J':List SB} {ρ':Nat->Value} {M':Nat->Nat->Prop} (hM:∀ b o,M' b o->M b o) {v:Value} {x:SV} (hr:SVR0 J ρ M w v x) (hb:∀ b∈vp6 x,okB J' b/\ρ' b=ρ b):SVR0 J' ρ' M' w v x:=by
 cases x with
 | one h=>exact HRd.at hM hr hb
 | agg l=>obtain ⟨vs,e,h⟩:=hr;exact ⟨vs,e,h.at hM hb⟩
 | tup l=>exact hr.elim
 | any=>trivial
 | undef=>exact hr
 | elt cs=>obtain ⟨b,off,vs,e,h1,h2⟩:=hr;exact ⟨b,off,vs,e,fun j u hj=>⟨fun h=>(h1 j u hj).1 (hM _ _ h),(h1 j u hj).2⟩,h2.keep (ya3.shrink w hM)⟩
theorem SRL.at {J':List SB} {ρ':Nat->Value} {M':Nat->Nat->Prop} (hM:∀ b o,M' b o->M b o):∀{vs:List Value} {l:List SV},SRL J ρ M w vs l->(∀ b∈l.flatMap vp6,okB J' b/\ρ' b=ρ b)->SRL J' ρ' M' w vs l
 | [],[],_,_=>trivial
 | _::_,_::_,h,hb=>⟨h.1.at hM (fun b hh=>hb b (by rw [List.flatMap_cons,List.mem_append];exact .inl hh)),SRL.at hM h.2 (fun b hh=>hb b (by rw [List.flatMap_cons,List.mem_append];exact .inr hh))⟩
theorem z0k {l:List SV}:vp6 (.tup l)=l.flatMap fun x=>match x with
 | .one h=>yj9 h
 | .agg l=>l.flatMap yj9
 | _=>[]:=rfl
theorem SRL.z0k:∀{vs:List Value} {l:List SV},SRL J ρ M w vs l->(l.flatMap fun x=>match x with
 | .one h=>yj9 h
 | .agg l=>l.flatMap yj9
 | _=>[])=l.flatMap vp6
 | [],[],_=>rfl
 | _::_,x::_,h=>by
  rw [List.flatMap_cons,List.flatMap_cons,h.2.z0k]
  congr 1
  cases x<;>first | rfl | exact h.1.elim
theorem SVR.at {J':List SB} {ρ':Nat->Value} {M':Nat->Nat->Prop} (hM:∀ b o,M' b o->M b o) {v:Value} {x:SV} (hr:SVR J ρ M w v x) (hb:∀ b∈vp6 x,okB J' b/\ρ' b=ρ b):SVR J' ρ' M' w v x:=by
 cases x with
 | tup l=>
  obtain ⟨vs,e,h⟩:=hr;rw [Hp.z0k,h.z0k] at hb;exact ⟨vs,e,h.at hM hb⟩
 | any=>trivial
 | one h=>exact SVR0.at (x:=.one h) hM hr hb
 | agg l=>exact SVR0.at (x:=.agg l) hM hr hb
 | undef=>exact hr
 | elt cs=>exact SVR0.at (J:=J) (J':=J') (ρ':=ρ') (x:=.elt cs) hM hr hb
theorem EnR.at {J':List SB} {ρ':Nat->Value} {M':Nat->Nat->Prop} (hM:∀ b o,M' b o->M b o):∀{es:List MapEntry} {l:List (Value×SV)},EnR J ρ M w es l->(∀ b∈l.flatMap (fun p=>vp6 p.2),okB J' b/\ρ' b=ρ b)->EnR J' ρ' M' w es l
 | [],[],_,_=>trivial
 | _::_,_::_,h,hb=>⟨⟨h.1.1,h.1.2.at hM (fun b hh=>hb b (by rw [List.flatMap_cons,List.mem_append];exact .inl hh))⟩,EnR.at hM h.2 (fun b hh=>hb b (by rw [List.flatMap_cons,List.mem_append];exact .inr hh))⟩
theorem SBR.at {J':List SB} {ρ':Nat->Value} {M':Nat->Nat->Prop} (hM:∀ b o,M' b o->M b o) {v:Value} {x:SB} (hr:SBR J ρ M w v x) (hb:∀ b∈z0y x,okB J' b/\ρ' b=ρ b):SBR J' ρ' M' w v x:=by
 cases x with
 | fresh=>trivial
 | dead=>trivial
 | box l T=>obtain ⟨b,vs,T',e,h1,h2,h3⟩:=hr;exact ⟨b,vs,T',e,h1,h2.at hM hb,h3⟩
 | arr c k T=>
  obtain ⟨hu,h0 | ⟨b,vs,q,T',e,h1,h2,h3⟩⟩:=hr
  . exact ⟨hu,.inl h0⟩
  . exact ⟨hu,.inr ⟨b,vs,q,T',e,h1,h2.keep (ya3.shrink w hM),h3⟩⟩
 | map es=>obtain ⟨b,ents,clk,e,h1,h2⟩:=hr;exact ⟨b,ents,clk,e,h1,h2.at hM hb⟩
 | clo f l=>obtain ⟨cv,e,h⟩:=hr;exact ⟨cv,e,h.at hM hb⟩
end
theorem Went.cut {e:List SB} (hE:At Γ e E) {ρ:Nat->Value} {J:List SB} (h:Went Γ E.Mo E.ρ0 E.η0 E.w0 ρ J w) {m:Nat} (hm:e.length<=m) (hr:∀(i:Nat) (x:SB),i<m->J[i]? = some x->e[i]? = some x\/∀ b∈z0y x,b<m) :
 Went Γ E.Mo E.ρ0 E.η0 E.w0 ρ (J.take m) w:=by
 have hget:∀ i x,(J.take m)[i]? = some x->i<m/\J[i]? = some x:=fun i x hi=>by
  rw [List.getElem?_take] at hi;split at hi
  . rename_i hlt;exact ⟨hlt,hi⟩
  . cases hi
 have hM:∀ b o,MX E.Mo ρ (J.take m) b o->MX E.Mo ρ J b o:=by
  rintro b o (hm | ⟨i,x,hi,hx⟩)
  . exact .inl hm
  . exact .inr ⟨i,x,(hget i x hi).2,hx⟩
 have hok:∀ b,b<m->okB J b->okB (J.take m) b:=fun b hb ⟨x,hx,hf⟩=>⟨x,by rw [List.getElem?_take,if_pos hb];exact hx,hf⟩
 refine ⟨fun b hb=>hok b (Nat.lt_of_lt_of_le (wnl hb) (by rw [hE.eq];exact hm)) (h.ok b hb),h.rho,h.keep.trans (ya3.shrink w hM),h.grow,⟨h.inv.bnd,fun i x hi=>?_,fun i j x y hi hj=>h.inv.inj i j x y (hget i x hi).2 (hget j y hj).2,fun i x hi=>h.inv.sep i x (hget i x hi).2,h.inv.glob.keep (ya3.shrink w hM)⟩,h.size,h.os,h.tape,h.output,h.frame,fun k ⟨i,x,hi,hx⟩=>h.fresh k ⟨i,x,(hget i x hi).2,hx⟩⟩;obtain ⟨hlt,hi'⟩:=hget i x hi;have hsb:=h.inv.blk i x hi';refine hsb.at hM (fun b hb=>⟨hok b ?_ (hsb.refs b hb),rfl⟩)
 rcases hr i x hlt hi' with h1 | h1
 . have h2:=(hE.inv.blk i x (by rw [hE.eq];exact h1)).refs b hb
   have:=wnl h2
   rw [hE.eq] at this;omega
 . exact h1 b hb
theorem StH.cut {e:List SB} {I:List SV} {J:List SB} {m:Nat} (hm:e.length<=m) (hs:∀(i:Nat) (x:SV),I[i]? = some x->∀ b∈vp6 x,b<m) (hr:∀(i:Nat) (x:SB),i<m->J[i]? = some x->e[i]? = some x\/∀ b∈z0y x,b<m):StH Γ e I J I (J.take m):=fun E ρ a w hE hR=>by
 have hw:=Went.cut hE hR.went hm hr;refine ⟨ρ,hR.hd,hR.hs,fun i x hi=>?_,hw⟩
 have hM:∀ b o,MX E.Mo ρ (J.take m) b o->MX E.Mo ρ J b o:=by
  rintro b o (hm | ⟨i,x,hi,hx⟩)
  . exact .inl hm
  . rw [List.getElem?_take] at hi;split at hi
    . exact .inr ⟨i,x,hi,hx⟩
    . cases hi
 have hsl:=hR.slot i x hi;refine hsl.at hM (fun b hb=>⟨?_,rfl⟩)
 have hok:okB J b:=by
  cases x with
  | tup l=>
   obtain ⟨vs,_,h⟩:=hsl;rw [Hp.z0k,h.z0k] at hb;exact h.refs b hb
  | one h=>exact SVR0.refs (x:=.one h) hsl b hb
  | agg l=>exact SVR0.refs (x:=.agg l) hsl b hb
  | _=>cases hb
 obtain ⟨y,hy,hf⟩:=hok;exact ⟨y,by rw [List.getElem?_take,if_pos (hs i x hi b hb)];exact hy,hf⟩
def sw (i j b:Nat):Nat:=if b=i then j else if b=j then i else b
theorem xfs (i j b:Nat):sw i j (sw i j b)=b:=by
 unfold sw;by_cases h1:b=i
 . subst h1;by_cases h2:j=b
   . simp [h2]
   . simp [h2]
 . by_cases h2:b=j
   . subst h2;simp [h1]
   . simp [h1,h2]
def swHC (i j:Nat):HC->HC
 | .ptr b o=>.ptr (sw i j b) o
 | .pel b es k f=>.pel (sw i j b) es k f
 | .sl b es lo n=>.sl (sw i j b) es lo n
 | .mp b=>.mp (sw i j b)
 | .fnr b=>.fnr (sw i j b)
 | h=>h
def wmy (i j:Nat):SV->SV
 | .one h=>.one (swHC i j h)
 | .agg l=>.agg (l.map (swHC i j))
 | x=>x
def swSV (i j:Nat):SV->SV
 | .tup l=>.tup (l.map (wmy i j))
 | x=>wmy i j x
def swSB (i j:Nat):SB->SB
 | .box l T=>.box (l.map (swHC i j)) T
 | .map es=>.map (es.map fun p=>(p.1,wmy i j p.2))
 | .clo f l=>.clo f (l.map (wmy i j))
 | x=>x
theorem vlt {i j:Nat}:(swSB i j x).own=x.own:=by cases x<;>rfl
theorem wp4 {i j o:Nat}:(swSB i j x).mut o↔x.mut o:=by cases x<;>exact Iff.rfl
theorem zq9 {i j:Nat} (h:x≠.fresh):swSB i j x≠.fresh:=by cases x<;>first | exact absurd rfl h | simp [swSB]
section
variable {i j:Nat} {J J':List SB} {ρ:Nat->Value} {M:Nat->Nat->Prop} {w:World}
theorem HRd.sw (hok:∀ b,okB J b->okB J' (Hp.sw i j b)) {v:Value} {h:HC} (hr:HRd J ρ M w v h):HRd J' (fun b=>ρ (Hp.sw i j b)) M w v (swHC i j h):=by
 cases h with
 | any=>exact hr
 | dat c=>exact hr
 | ptr b o=>exact ⟨hok b hr.1,by show v=_;simp only [xfs];exact hr.2⟩
 | pel b es k f=>exact ⟨hok b hr.1,by show v=_;simp only [xfs];exact hr.2⟩
 | sl b es lo n=>exact ⟨hok b hr.1,by simp only [xfs];exact hr.2⟩
 | mp b=>exact ⟨hok b hr.1,by simp only [xfs];exact hr.2⟩
 | fnr b=>exact ⟨hok b hr.1,by simp only [xfs];exact hr.2⟩
theorem HRL.sw (hok:∀ b,okB J b->okB J' (Hp.sw i j b)):∀{vs:List Value} {l:List HC},HRL J ρ M w vs l->HRL J' (fun b=>ρ (Hp.sw i j b)) M w vs (l.map (swHC i j))
 | [],[],_=>trivial
 | _::_,_::_,h=>⟨h.1.sw hok,h.2.sw hok⟩
theorem SVR0.sw (hok:∀ b,okB J b->okB J' (Hp.sw i j b)) {v:Value} {x:SV} (hr:SVR0 J ρ M w v x):SVR0 J' (fun b=>ρ (Hp.sw i j b)) M w v (wmy i j x):=by
 cases x with
 | one h=>exact HRd.sw hok hr
 | agg l=>obtain ⟨vs,e,h⟩:=hr;exact ⟨vs,e,h.sw hok⟩
 | _=>exact hr
theorem SRL.sw (hok:∀ b,okB J b->okB J' (Hp.sw i j b)):∀{vs:List Value} {l:List SV},SRL J ρ M w vs l->SRL J' (fun b=>ρ (Hp.sw i j b)) M w vs (l.map (wmy i j))
 | [],[],_=>trivial
 | _::_,_::_,h=>⟨h.1.sw hok,h.2.sw hok⟩
theorem SVR.sw (hok:∀ b,okB J b->okB J' (Hp.sw i j b)) {v:Value} {x:SV} (hr:SVR J ρ M w v x):SVR J' (fun b=>ρ (Hp.sw i j b)) M w v (swSV i j x):=by
 cases x with
 | tup l=>obtain ⟨vs,e,h⟩:=hr;exact ⟨vs,e,h.sw hok⟩
 | one h=>exact HRd.sw hok hr
 | agg l=>obtain ⟨vs,e,h⟩:=hr;exact ⟨vs,e,h.sw hok⟩
 | any=>trivial
 | undef=>exact hr
 | elt cs=>exact hr
theorem EnR.sw (hok:∀ b,okB J b->okB J' (Hp.sw i j b)):∀{es:List MapEntry} {l:List (Value×SV)},EnR J ρ M w es l->EnR J' (fun b=>ρ (Hp.sw i j b)) M w es (l.map fun p=>(p.1,wmy i j p.2))
 | [],[],_=>trivial
 | _::_,_::_,h=>⟨⟨h.1.1,h.1.2.sw hok⟩,h.2.sw hok⟩
theorem SBR.sw (hok:∀ b,okB J b->okB J' (Hp.sw i j b)) {v:Value} {x:SB} (hr:SBR J ρ M w v x):SBR J' (fun b=>ρ (Hp.sw i j b)) M w v (swSB i j x):=by
 cases x with
 | fresh=>trivial
 | dead=>trivial
 | box l T=>obtain ⟨b,vs,T',e,h1,h2,h3⟩:=hr;exact ⟨b,vs,T',e,h1,h2.sw hok,h3⟩
 | arr c k T=>exact hr
 | map es=>obtain ⟨b,ents,clk,e,h1,h2⟩:=hr;exact ⟨b,ents,clk,e,h1,h2.sw hok⟩
 | clo f l=>obtain ⟨cv,e,h⟩:=hr;exact ⟨cv,e,h.sw hok⟩
end
theorem vbn {i j n:Nat} (hi:n<=i) (hj:n<=j) (hb:∀ b∈yj9 h,b<n):swHC i j h=h:=by
 have key:∀ b,b<n->sw i j b=b:=fun b hb=>by unfold sw;rw [if_neg (by omega),if_neg (by omega)]
 cases h<;>simp only [swHC]<;>rw [key _ (hb _ (by simp [yj9]))]
theorem wag {i j n:Nat} (hi:n<=i) (hj:n<=j) {l:List HC} (hb:∀ b∈l.flatMap yj9,b<n):l.map (swHC i j)=l:=by
 induction l with
 | nil=>rfl
 | cons h l ih=>
  simp only [List.flatMap_cons,List.mem_append] at hb;simp only [List.map_cons];rw [vbn hi hj (fun b hh=>hb b (.inl hh)),ih (fun b hh=>hb b (.inr hh))]
theorem zt8 {i j n:Nat} (hi:n<=i) (hj:n<=j) {x:SV} (hb:∀ b∈vp6 x,b<n):wmy i j x=x:=by
 cases x with
 | one h=>simp only [wmy];rw [vbn hi hj hb]
 | agg l=>simp only [wmy];rw [wag hi hj hb]
 | _=>rfl
theorem vdc {i j n:Nat} (hi:n<=i) (hj:n<=j) (hb:∀ b∈z0y x,b<n):swSB i j x=x:=by
 cases x with
 | box l T=>simp only [swSB];rw [wag hi hj hb]
 | map es=>
  simp only [swSB]
  congr 1
  simp only [z0y,List.mem_flatMap] at hb
  have:∀ p∈es,(p.1,wmy i j p.2)=p:=fun p hp=>by
   rw [zt8 hi hj (fun b hh=>hb b ⟨p,hp,hh⟩)]
  exact (List.map_congr_left this).trans (List.map_id es)
 | clo f l=>
  simp only [swSB]
  congr 1
  simp only [z0y,List.mem_flatMap] at hb
  have:∀ x∈l,wmy i j x=x:=fun x hx=>zt8 hi hj (fun b hh=>hb b ⟨x,hx,hh⟩)
  exact (List.map_congr_left this).trans (List.map_id l)
 | _=>rfl
theorem StH.swap {e:List SB} {I:List SV} {J J':List SB} {i j:Nat} (hi:e.length<=i) (hj:e.length<=j) (hil:i<J.length) (hjl:j<J.length)
 (hη:∀ b x,J[b]? = some x->(J'[sw i j b]? = some (swSB i j x)\/(e[b]? = some x/\J'[b]? = some x))) (hlen:J'.length=J.length):StH Γ e I J (I.map (swSV i j)) J':=fun E ρ a w hE hR=>by
 have hlow:∀ b,b<e.length->sw i j b=b:=fun b hb=>by unfold sw;rw [if_neg (by omega),if_neg (by omega)]
 have hswl:∀ b,b<J.length->sw i j b<J.length:=fun b hb=>by
  unfold sw
  split
  . exact hjl
  . split
    . exact hil
    . exact hb
 have fwd:∀ b x,J[b]? = some x->J'[sw i j b]? = some (swSB i j x):=fun b x hx=>by
  rcases hη b x hx with h | ⟨h1,h2⟩
  . exact h
  . have hb:b<e.length:=(List.getElem?_eq_some_iff.1 h1).1;rw [hlow b hb,h2];have hrefs:=(hE.inv.blk b x (by rw [hE.eq];exact h1)).refs;rw [vdc hi hj (fun c hc=>by have:=wnl (hrefs c hc);rw [hE.eq] at this;exact this)]
 have bwd:∀ b y,J'[b]? = some y->∃ x,J[sw i j b]? = some x/\y=swSB i j x:=fun b y hy=>by
  have hb:b<J.length:=by rw [<-hlen];exact (List.getElem?_eq_some_iff.1 hy).1
  obtain ⟨x,hx⟩:∃ x,J[sw i j b]? = some x:=⟨_,List.getElem?_eq_getElem (hswl b hb)⟩
  have:=fwd _ _ hx
  rw [xfs,hy] at this
  cases this;exact ⟨x,hx,rfl⟩
 have hok:∀ b,okB J b->okB J' (sw i j b):=fun b ⟨x,hx,hf⟩=>⟨_,fwd b x hx,zq9 hf⟩
 have hM:∀ b o,MX E.Mo (fun b=>ρ (sw i j b)) J' b o↔MX E.Mo ρ J b o:=fun b o=>by
  constructor
  . rintro (hm | ⟨c,y,hc,hy,hr,hb⟩)
    . exact .inl hm
    . obtain ⟨x,hx,rfl⟩:=bwd c y hc;exact .inr ⟨_,x,hx,wp4.1 hy,hr,hb⟩
  . rintro (hm | ⟨c,x,hc,hx,hr,hb⟩)
    . exact .inl hm
    . exact .inr ⟨sw i j c,_,fwd c x hc,wp4.2 hx,by simp only [xfs];exact hr,by simp only [xfs];exact hb⟩
 have hMe:MX E.Mo (fun b=>ρ (sw i j b)) J'=MX E.Mo ρ J:=funext fun b=>funext fun o=>propext (hM b o)
 have hX:∀ k,Xb (fun b=>ρ (sw i j b)) J' k->Xb ρ J k:=fun k ⟨c,y,hc,hy,hr,hb⟩=>by
  obtain ⟨x,hx,rfl⟩:=bwd c y hc;exact ⟨_,x,hx,by rw [<-vlt (i:=i) (j:=j)];exact hy,hr,hb⟩
 have hw:=hR.went;refine ⟨fun b=>ρ (sw i j b),hR.hd,by simpa using hR.hs,fun d x hd=>?_,⟨fun b hb=>?_,fun b hb=>?_,?_,hw.grow,⟨hw.inv.bnd,fun b y hb=>?_,fun b c y z hb hc hy hz hrb hrc he=>?_,fun b y hb hy hr=>?_,?_⟩,hw.size,hw.os,hw.tape,hw.output,hw.frame,fun k hk=>hw.fresh k (hX k hk)⟩⟩
 . rw [List.getElem?_map] at hd;obtain ⟨x0,hx0,rfl⟩:=Option.map_eq_some_iff.1 hd;rw [hMe];exact (hR.slot d x0 hx0).sw hok
 . have hb':=wnl hb;rw [hE.eq] at hb'
   have:=hok b (hw.ok b hb)
   rw [hlow b hb'] at this;exact this
 . have hb':=wnl hb;rw [hE.eq] at hb';show ρ (sw i j b)=_;rw [hlow b hb'];exact hw.rho b hb
 . rw [hMe];exact hw.keep
 . obtain ⟨x,hx,rfl⟩:=bwd b y hb;rw [hMe]
   have:=(hw.inv.blk _ x hx).sw (i:=i) (j:=j) hok
   exact this
 . obtain ⟨x,hx,rfl⟩:=bwd b y hb;obtain ⟨x',hx',rfl⟩:=bwd c z hc
   have:=hw.inv.inj _ _ x x' hx hx' (by rw [<-vlt (i:=i) (j:=j)];exact hy) (by rw [<-vlt (i:=i) (j:=j)];exact hz) hrb hrc he
   have h2:=congrArg (sw i j) this;rw [xfs,xfs] at h2;exact h2
 . obtain ⟨x,hx,rfl⟩:=bwd b y hb;exact hw.inv.sep _ x hx (by rw [<-vlt (i:=i) (j:=j)];exact hy) hr
 . rw [hMe];exact hw.inv.glob
def vzj (P:Program) (I:List SV) (J:List SB):ResultVar->Option SV
 | .tmp t=>match gtS I t with
  | .tup _=>none
  | x=>some x
 | .cell a T=>match mkTI P T,seeH J (gtS I a) with
  | some ti,some (_,hs)=>y05 ti hs
  | _,_=>none
def yrk (P:Program) (I:List SV) (J:List SB):List ResultVar->Option (List SV)
 | []=>some []
 | r::rs=>match vzj P I J r,yrk P I J rs with
  | some x,some l=>some (x::l)
  | _,_=>none
def zf4 (P:Program) (I:List SV) (J:List SB) (rs:List ResultVar):Option SV:=match yrk P I J rs with
 | some [x]=>some x
 | some l=>some (.tup l)
 | none=>none
theorem yss {ρ:Nat->Value} {I:List SV} {J:List SB} (hI:RI Γ E ρ I J a w) {r:ResultVar} {x:SV} (h:vzj P I J r=some x):∃ v,(v29 a.tmps r).run P w=.ok v w/\SVR0 J ρ (MX E.Mo ρ J) w v x:=by
 cases r with
 | tmp t=>
  have ht:=hI.gt t;simp only [vzj] at h;split at h
  . cases h
  . rename_i y hne
    cases h;refine ⟨_,rfl,ht.to0 ?_⟩;generalize gtS I t=z at hne
    cases z<;>first | rfl | exact absurd rfl (hne _)
 | cell t T=>
  have ht:=hI.gt t;simp only [vzj] at h;split at h
  . rename_i ti rh hs hti hsee;obtain ⟨b,off,vs,e,hc,hr⟩:=xlq hI ht hsee;obtain ⟨v,h1,h2⟩:=run_load (vnz hti) hc hr h;refine ⟨v,by simp [v29,e,asAddr,h1],h2.to0 ?_⟩;unfold y05 at h;split at h
    . split at h<;>cases h;rfl
    . split at h<;>cases h;rfl
    . cases h
  . cases h
theorem wnc {E:HEnv} {ρ:Nat->Value} {I:List SV} {J:List SB} {a:Act} {w:World} (hI:RI Γ E ρ I J a w):∀(rs:List ResultVar) (l:List SV),yrk P I J rs=some l->∃ vs:List Value,(rs.mapM (v29 a.tmps)).run P w=.ok vs w/\SRL J ρ (MX E.Mo ρ J) w vs l
 | [],l,h=>by cases h;exact ⟨[],rfl,trivial⟩
 | r::rs,l,h=>by
  simp only [yrk] at h;split at h
  . rename_i x l' h1 h2
    cases h;obtain ⟨v,h3,h4⟩:=yss hI h1;obtain ⟨vs,h5,h6⟩:=wnc hI rs l' h2;refine ⟨v::vs,?_,h4,h6⟩;simp only [List.mapM_cons,Sem.run_bind,h3,Result.andThen_ok,h5];rfl
  . cases h
theorem w6r {fn:Func} {ρ:Nat->Value} {I:List SV} {J:List SB} (hI:RI Γ E ρ I J a w) {x:SV} (h:zf4 P I J fn.results.toList=some x):∃ v,(results fn a.tmps).run P w=.ok v w/\SVR J ρ (MX E.Mo ρ J) w v x:=by
 have key:∀ l,yrk P I J fn.results.toList=some l->∃ vs:List Value,(results fn a.tmps).run P w=.ok (if h:vs.toArray.size=1 then vs.toArray[0] else .tuple vs.toArray) w/\SRL J ρ (MX E.Mo ρ J) w vs l:=fun l hl=>by
  obtain ⟨vs,hvs,hrs⟩:=wnc hI fn.results.toList l hl;refine ⟨vs,?_,hrs⟩
  have hres:results fn a.tmps=(fn.results.mapM (v29 a.tmps) >>= fun vs=>pure (if h:vs.size=1 then vs[0] else .tuple vs)):=by
   unfold results;refine congrArg (fun g:ResultVar->Sem Value=>(fn.results.mapM g >>= fun vs=>(pure (if h:vs.size=1 then vs[0] else .tuple vs):Sem Value))) (funext fun r=>?_)
   cases r<;>rfl
  rw [hres,Array.mapM_eq_mapM_toList];simp only [Sem.run_bind,Sem.run_map,hvs];rfl
 unfold zf4 at h;split at h
 . rename_i y hl
   cases h;obtain ⟨vs,hrun,hrs⟩:=key _ hl
   cases vs with
   | nil=>exact hrs.elim
   | cons v vs=>
    cases vs with
    | cons _ _=>exact hrs.2.elim
    | nil=>exact ⟨v,hrun,SVR.of0 hrs.1⟩
 . rename_i l hne hl
   cases h;obtain ⟨vs,hrun,hrs⟩:=key _ hl;have hlen:=hrs.length
   have hn1:vs.toArray.size≠1:=fun e1=>by
    simp only [List.size_toArray] at e1
    have:l.length=1:=by omega
    match l,this,hne with
    | [z],_,hne=>exact hne z rfl
   rw [dif_neg hn1] at hrun;exact ⟨_,hrun,vs,rfl,hrs⟩
 . cases h
def wle (J:List SB):SV->Option (AV×List Nat)
 | .tup l=>(zfh J l).map fun p=>(.tup p.1,p.2)
 | x=>argD J x
theorem vcz {J:List SB} {x:SV} {bs:List Nat} (h:argD J x=some (av,bs)):av.vy8=false:=by
 unfold argD at h;split at h
 . obtain ⟨p,hp,e⟩:=Option.map_eq_some_iff.1 h;cases e;rfl
 . obtain ⟨p,hp,e⟩:=Option.map_eq_some_iff.1 h;cases e;rfl
 . cases h;rfl
 . cases h;rfl
 . cases h
theorem wxu {J:List SB} {x:SV} {bs:List Nat} (h:wle J x=some (av,bs)):av.vy8=false:=by
 unfold wle at h;split at h
 . obtain ⟨p,hp,e⟩:=Option.map_eq_some_iff.1 h;cases e;rfl
 . exact vcz h
def retD (P:Program) (rs:List ResultVar) (res:AV):Exit->List SV->List SB->Prop
 | .ret,I,J | .normal,I,J=>∃ x av bs,zf4 P I J rs=some x/\wle J x=some (av,bs)/\RLe av res
 | _,_,_=>False
theorem RI.start {Mo:Nat->Nat->Prop} {ρ:Nat->Value} {J:List SB} (h:HInv Γ Mo ρ J w) {vs:List Value} {l:List SV} (hr:SRL J ρ (MX Mo ρ J) w vs l) (n:Nat) :
 RI Γ ⟨w,Mo,ρ,J⟩ ρ (l++List.replicate n .undef) J { tmps:=vs.toArray++Array.replicate n Go.undef,defers:=[] } w:=by
 have hlen:=hr.length;refine ⟨rfl,by simp [hlen],fun i x hi=>?_,Went.refl h⟩;by_cases hlt:i<l.length
 . rw [List.getElem?_append_left hlt] at hi;obtain ⟨v,hv,hx⟩:=hr.get i x hi
   have hvl:i<vs.length:=by omega
   rw [List.getElem?_eq_getElem hvl] at hv;simp at hv
   have:(vs.toArray++Array.replicate n Go.undef).getD i Go.undef=v:=by
    simp [Array.getD_eq_getD_getElem?,Array.getElem?_append,hvl,hv]
   show SVR _ _ _ _ ((vs.toArray++Array.replicate n Go.undef).getD i Go.undef) x;rw [this];exact SVR.of0 hx
 . rw [List.getElem?_append_right (by omega)] at hi;have hx:x=.undef:=(List.mem_replicate.1 (List.mem_of_getElem? hi)).2;subst hx
   have:(vs.toArray++Array.replicate n Go.undef).getD i Go.undef=Go.undef:=by
    simp only [Array.getD_eq_getD_getElem?,Array.getElem?_append];rw [if_neg (by simp;omega)];simp only [Array.getElem?_replicate]
    split<;>rfl
   show SVR _ _ _ _ ((vs.toArray++Array.replicate n Go.undef).getD i Go.undef) .undef;rw [this];exact rfl
theorem HInv.nil {Mo:Nat->Nat->Prop} (hb:Bounded Mo w) (hg:y7g Γ Mo w):HInv Γ Mo (fun _=>Go.undef) [] w:=by
 have hM:∀ b o,MX Mo (fun _=>Go.undef) [] b o->Mo b o:=by
  rintro b o (h | ⟨i,x,hi,_⟩)
  . exact h
  . simp at hi
 exact ⟨hb,fun i x hi=>by simp at hi,fun i j x y hi=>by simp at hi,fun i x hi=>by simp at hi,hg.keep (ya3.shrink w hM)⟩
theorem CallsD.of {fn:Func} {c:Code} {args:List AV} {sl:List SV} {res:AV} (hf:P.funcs[f]? = some fn) (hb:fn.body=some c) (hname:(fn.name == "runtime.NumGoroutine")=false) (ha:zsa args=some sl)
 (h:x2l Γ P [] c (retD P fn.results.toList res) (sl++List.replicate (fn.ntmps-sl.length) .undef) []):CallsD Γ P f args res:=by
 refine ⟨⟨fn,hf,hname,by rw [hb];rfl⟩,fun M w vs hM hg hrd=>?_⟩;have hinv:=HInv.nil hM hg
 have hM0:∀ b o,MX M (fun _=>Go.undef) [] b o->M b o:=by
  rintro b o (h | ⟨i,x,hi,_⟩)
  . exact h
  . simp at hi
 have hsr:SRL [] (fun _=>Go.undef) (MX M (fun _=>Go.undef) []) w vs sl:=v9u ha (hrd.keep (ya3.shrink w hM0));have hlen:=hsr.length;refine calls_of_wp hf hb ?_
 have hsz:vs.toArray.size=sl.length:=by simp [hlen]
 rw [hsz];have hst:=RI.start hinv hsr (fn.ntmps-sl.length);refine wp_mono (h _ _ _ w ⟨rfl,hinv⟩ hst) ?_;rintro e a w' ⟨I,J,ρ,hq,hR⟩
 have fin:(∃ x av bs,zf4 P I J fn.results.toList=some x/\wle J x=some (av,bs)/\RLe av res)->a.defers=[]/\∃ v,(results fn a.tmps).run P w'=.ok v w'/\Back M w res (.returned v) w':=by
  rintro ⟨x,av,bs,h1,h2,h3⟩;obtain ⟨v,hrun,hv⟩:=w6r (fn:=fn) hR h1
  have harr:∀ b∈bs,vfv (gB J b)=true:=by
   unfold wle at h2;split at h2
   . obtain ⟨p,hp,e⟩:=Option.map_eq_some_iff.1 h2;cases e;exact vw0 hp
   . exact yjf h2
  obtain ⟨hw1,_,hfz⟩:=Went.frz bs J hR.inv rfl harr (fun _=>.inl rfl)
  have hMM:∀ b o,M b o->MX M ρ (appL (frzE J bs) J) b o:=fun b o hm=>.inl hm
  have hrd:RdR M w' v av:=by
   have hv1:=hv.mv hw1.mv;unfold wle at h2;split at h2
   . obtain ⟨p,hp,e⟩:=Option.map_eq_some_iff.1 h2
     cases e;obtain ⟨vs',e,hl⟩:=hv1;exact ⟨vs',e,(xp6 hw1.inv hp hfz hl).keep (ya3.shrink w' hMM)⟩
   . rename_i hnt;have hr0:SVR0 (appL (frzE J bs) J) ρ (MX M ρ (appL (frzE J bs) J)) w' v x:=hv1.to0 (by cases x<;>first | rfl | exact absurd rfl (hnt _))
     have:=(vi1 hw1.inv h2 hfz hr0).keep (ya3.shrink w' hMM)
     cases av with
     | tup l=>exact this.elim
     | arr _ _ _=>exact this.elim
     | _=>exact this
  have hw:=hR.went;refine ⟨hR.hd,v,hrun,v,rfl,⟨hw.os,hw.tape,hw.output,hw.size,fun k hk=>hw.frame k hk (fun ⟨i,x,hi,_⟩=>by simp at hi)⟩,hrd.le h3,fun hh=>?_⟩
  have:=h3.vy8 hh
  rw [wxu h2] at this
  cases this
 cases e with
 | normal=>exact fin hq
 | ret=>exact fin hq
 | _=>exact hq.elim
def retH (Γ:List (Nat×List Cell)) (P:Program) (e:List SB) (rs:List ResultVar) (J':List SB) (res:SV):Exit->List SV->List SB->Prop
 | .ret,I,J | .normal,I,J=>∃ x,zf4 P I J rs=some x/\StH Γ e [x] J [res] J'
 | _,_,_=>False
theorem vfe.of {fn:Func} {c:Code} {J J':List SB} {args:List SV} (hf:P.funcs[f]? = some fn) (hb:fn.body=some c) (hname:(fn.name == "runtime.NumGoroutine")=false)
 (h:x2l Γ P J c (retH Γ P J fn.results.toList J' res) (args++List.replicate (fn.ntmps-args.length) .undef) J):vfe Γ P f J args J' res:=by
 refine ⟨⟨fn,hf,hname,by rw [hb];rfl⟩,fun Mo ρ w vs hinv hsr=>?_⟩;have hlen:=hsr.length;refine calls_of_wp hf hb ?_
 have hsz:vs.toArray.size=args.length:=by simp [hlen]
 rw [hsz];have hst:=RI.start hinv hsr (fn.ntmps-args.length);refine wp_mono (h _ _ _ w ⟨rfl,hinv⟩ hst) ?_;rintro e a w' ⟨I,η1,ρ1,hq,hR⟩
 have fin:(∃ x,zf4 P I η1 fn.results.toList=some x/\StH Γ J [x] η1 [res] J')->a.defers=[]/\∃ v,(results fn a.tmps).run P w'=.ok v w'/\wzi Γ Mo ρ J w J' res (.returned v) w':=by
  rintro ⟨x,h1,h3⟩;obtain ⟨v,hrun,hv⟩:=w6r (fn:=fn) hR h1
  have hI1:RI Γ ⟨w,Mo,ρ,J⟩ ρ1 [x] η1 { tmps:=#[v],defers:=[] } w':=⟨rfl,rfl,fun i y hi=>by
   cases i with
   | zero=>simp at hi;subst hi;exact hv
   | succ i=>simp at hi,hR.went⟩
  obtain ⟨ρ2,hI2⟩:=h3 _ ρ1 _ w' ⟨rfl,hinv⟩ hI1;exact ⟨hR.hd,v,hrun,v,ρ2,rfl,hI2.went,hI2.slot 0 res rfl⟩
 cases e with
 | normal=>exact fin hq
 | ret=>exact fin hq
 | _=>exact hq.elim
def w4j:SV->SV->Option (Value×Value)
 | .one (.dat (.raw a)),.one (.dat (.raw b))=>some (a,b)
 | _,_=>none
def rawS:SV->Option Value
 | .one (.dat (.raw a))=>some a
 | _=>none
theorem w5q {o:Oper} {I:List SV} {J:List SB} {op:BinOp} {U:TypeId} {x y:Operand} {d:Nat} (ho:o.op=.binOp op T x y U) (hdst:o.dst=some d) {p q v:Value} (hx:w4j (opdS Γ I x) (opdS Γ I y)=some (p,q)) (hab:abin op p q=some v) :
 yvu Γ P o I J (d::(orr x++orr y)) [] [(d,.one (.dat (.raw v)))] []:=by
 have hxy:opdS Γ I x=.one (.dat (.raw p))/\opdS Γ I y=.one (.dat (.raw q)):=by
  unfold w4j at hx;split at hx
  . rename_i a b h1 h2;cases hx;exact ⟨h1,h2⟩
  . cases hx
 refine yvu.pure hdst (fun E ρ I' J' a w hag hah hI=>⟨v,?_,RdC.raw (v4y hab)⟩);have sx:=hI.opd x;have sy:=hI.opd y;rw [hag.opd (fun t ht=>by simp [ht]),hxy.1] at sx;rw [hag.opd (fun t ht=>by simp [ht]),hxy.2] at sy;have ex:a.eval x=p:=RdC.zb6 sx;have ey:a.eval y=q:=RdC.zb6 sy;simp [execOp,ho,ex,ey,y46 hab,zn6 hab]
theorem s_un {o:Oper} {I:List SV} {J:List SB} {op:UnOp} {x:Operand} {d:Nat} (ho:o.op=.unOp op T x) (hdst:o.dst=some d) {p v:Value} (hx:rawS (opdS Γ I x)=some p) (hab:aun op p=some v) :
 yvu Γ P o I J (d::orr x) [] [(d,.one (.dat (.raw v)))] []:=by
 have hxx:opdS Γ I x=.one (.dat (.raw p)):=by
  unfold rawS at hx;split at hx
  . rename_i a h1;cases hx;exact h1
  . cases hx
 have hone:v.oneCell'=true:=by unfold aun at hab;split at hab<;>first | (cases hab;rfl) | cases hab
 refine yvu.pure hdst (fun E ρ I' J' a w hag hah hI=>⟨v,?_,RdC.raw hone⟩);have sx:=hI.opd x;rw [hag.opd (fun t ht=>by simp [ht]),hxx] at sx;have ex:a.eval x=p:=RdC.zb6 sx;unfold aun at hab;split at hab
 . cases hab;simp [execOp,ho,ex,Op.unary,Op.intArith]
 . cases hab;simp [execOp,ho,ex,Op.unary]
 . cases hab
theorem ws2 {o:Oper} {I:List SV} {J:List SB} {x:Operand} {d:Nat} (ho:o.op=.call { callee:=.builtin .len,args:=#[x],argTypes:=#[T] }) (hdst:o.dst=some d) {ti:TI} (hti:mkTI P T=some ti) {c:Cell} {n:Nat}
 (hx:opdS Γ I x=.one (.dat c)) (hok:y3p ti c=true) (hl:lenC c=some n):yvu Γ P o I J (d::orr x) [] [(d,.one (.dat (.raw (.int .i64 (n:Int)))))] []:=by
 refine yvu.pure hdst (fun E ρ I' J' a w hag hah hI=>⟨_,?_,RdC.raw rfl⟩);have sx:=hI.opd x;rw [hag.opd (fun t ht=>by simp [ht]),hx] at sx;have hti':=vnz hti;have hrd:RdT (MX E.Mo ρ J') w (fun _=>⟨Go.undef,0⟩) (a.eval x) c:=RdT.of sx
 have key:(Builtin.len_ #[T] o.type #[a.eval x]).run P w=.ok (.int .i64 n) w:=by
  rcases hrd.len hl with ⟨ad,cap,hv,hns⟩ | ⟨s,rfl,hv,rfl⟩
  . rw [hv]
    have:∃ e es eb ik,ti.sh=.slice e es eb ik:=by
     unfold y3p at hok;split at hok
     . exact absurd rfl (hns _)
     . split at hok
       . rename_i h;exact ⟨_,_,_,_,h⟩
       . cases hok
    obtain ⟨e,es,eb,ik,hsh⟩:=this;exact Slot.run_len_slice hti' hsh _ _ _ _ w
  . rw [hv]
    have hsh:ti.sh=.string:=by
     simp only [y3p] at hok;split at hok
     . assumption
     . cases hok
    obtain ⟨dd,i,z,hd,hi,hz,_,_,_,_,_,hsh'⟩:=hti'.ex
    have:=zms (hsh'.symm.trans hsh)
    subst this;simp [Builtin.len_,voj hd,goInt]
 rw [x6y ho,show (#[x]:Array Operand).map a.eval=#[a.eval x] from by simp]
 have:∀ cs,(builtin .len #[T] o.type cs #[a.eval x]).run P w=.ok (.value (.int .i64 n)) w:=fun cs=>by
  simp only [builtin,Sem.run_bind,key];rfl
 exact this _
section
variable (P:Program) (Γ:List (Nat×List Cell)) (lit fn:Bool) (I:List SV) (J:List SB) (nb:Nat) (o:Oper)
def yiv (x:Operand):HO:=vO o (orr x) [] (some (opdS Γ I x))
def y9n (c x y:Operand):HO:=match y8q (opdS Γ I c) (opdS Γ I x) (opdS Γ I y) with
 | some v=>vO o (orr c++orr x++orr y) [] (some v)
 | none=>oldO P I nb o
def fBin (op:BinOp) (x y:Operand):HO:=match w4j (opdS Γ I x) (opdS Γ I y) with
 | some (p,q)=>match abin op p q with
  | some v=>vO o (orr x++orr y) [] (some (.one (.dat (.raw v))))
  | none=>opP P Γ I J nb o
 | none=>opP P Γ I J nb o
def fUn (op:UnOp) (x:Operand):HO:=match rawS (opdS Γ I x) with
 | some p=>match aun op p with
  | some v=>vO o (orr x) [] (some (.one (.dat (.raw v))))
  | none=>opP P Γ I J nb o
 | none=>opP P Γ I J nb o
def vza (T:TypeId) (x:Operand):HO:=x40 P T fun ti=>match seeH J (opdS Γ I x) with
 | some (rh,hs)=>vO o (orr x) rh (y05 ti hs)
 | none=>.bad
def wgc (T:TypeId) (x y:Operand):HO:=match o.dst with
 | none=>x40 P T fun ti=>match ymo (opdS Γ I y) with
  | some us=>if us.length=ti.size then match ztk J ti.size (opdS Γ I x) us with
   | some (b,z)=>.eff (orr x++orr y) [b] [] [(b,z)] none
   | none=>.bad
   else .bad
  | none=>.bad
 | some _=>.bad
def yg6 (S:TypeId) (x:Operand) (f:Nat):HO:=x40 P S fun ti=>match ti.sh with
 | .struct fs=>match fs[f]? with
  | some (off,_,_)=>vO o (orr x) [] (ywi (opdS Γ I x) off)
  | none=>.bad
 | _=>.bad
def v04 (T:TypeId) (x y:Operand):HO:=x40 P T fun ti=>match z9d ti.sh (opdS Γ I x) (opdS Γ I y) with
 | some v=>vO o (orr x++orr y) [] (some v)
 | none=>oldO P I nb o
def vms (T:TypeId) (x:Operand) (f:Nat):HO:=x40 P T fun ti=>match ti.sh with
 | .struct fs=>match fs[f]? with
  | some (off,_,ft)=>x40 P ft fun tf=>vO o (orr x) [] (yk4 off tf (opdS Γ I x))
  | none=>.bad
 | _=>.bad
def zr9 (T:TypeId) (x y:Operand):HO:=x40 P T fun ti=>match ti.sh with
 | .array n e es=>x40 P e fun te=>match intS (opdS Γ I y) with
  | some ix=>if (0<=ix/\ix<n)/\es=te.size then vO o (orr x++orr y) [] (yk4 (ix.toNat*es) te (opdS Γ I x)) else .bad
  | none=>.bad
 | .string=>vO o (orr x++orr y) [] (zrb (opdS Γ I x) (opdS Γ I y))
 | _=>.bad
def fLen (x:Operand) (T:TypeId):HO:=match opdS Γ I x,mkTI P T with
 | .one (.dat c),some ti=>match y3p ti c,lenC c with
  | true,some n=>vO o (orr x) [] (some (.one (.dat (.raw (.int .i64 (n:Int))))))
  | _,_=>opH P Γ lit fn I J nb o
 | _,_=>opH P Γ lit fn I J nb o
def zw2 (c:Call):HO:=match c.callee with
 | .value x=>zbg P Γ I J o x c.args.toList
 | .builtin .len=>match c.args.toList,c.argTypes.toList with
  | [x],[T]=>fLen P Γ lit fn I J nb o x T
  | _,_=>opH P Γ lit fn I J nb o
 | .builtin _=>opH P Γ lit fn I J nb o
 | _=>.bad
def wwh (x:Operand) (n:Nat):HO:=vO o (orr x) [] (w9o (opdS Γ I x) n)
def fNil (x:Operand):HO:=if ptrH (opdS Γ I x)=true then vO o (orr x) [] (some (opdS Γ I x)) else .bad
def vw7 (T:TypeId) (ps:Array (Nat×Operand)):HO:=x40 P T fun ti=>if xjd ti=true/\ti.sh.agg=true then vO o (orrs ps.toList) [] ((xl4 (placeOf ti.sh) (ti.zc.map .dat) (vmp Γ I ps.toList)).map .agg) else .bad
def www (T:TypeId):HO:=x40 P T fun ti=>nO o [] [] (.one (.ptr nb 0)) [] (.box (ti.zc.map .dat) (some T))
def fBox (T:TypeId) (x:Operand):HO:=match ymo (opdS Γ I x) with
 | some hs=>nO o (orr x) [] (.one (.ptr nb 0)) [] (.box hs (some T))
 | none=>.bad
def opF:HO:=match o.op with
 | .move x=>yiv Γ I o x
 | .assign x=>yiv Γ I o x
 | .pick c x y=>y9n P Γ I nb o c x y
 | .binOp op _ x y _=>fBin P Γ I J nb o op x y
 | .unOp op _ x=>fUn P Γ I J nb o op x
 | .load T x=>vza P Γ I J o T x
 | .store T x y=>wgc P Γ I J o T x y
 | .fieldAddr S x f=>yg6 P Γ I o S x f
 | .indexAddr T x y=>v04 P Γ I nb o T x y
 | .field T x f=>vms P Γ I o T x f
 | .index T x y=>zr9 P Γ I o T x y
 | .extract x n=>wwh Γ I o x n
 | .nilCheck x=>fNil Γ I o x
 | .build T ps=>vw7 P Γ I o T ps
 | .alloc T=>www P nb o T
 | .box T x=>fBox Γ I nb o T x
 | .call c=>zw2 P Γ lit fn I J nb o c
 | _=>opH P Γ lit fn I J nb o
end
theorem zoz {lit fn:Bool} {I:List SV} {J:List SB} {nb:Nat} {o:Oper}:opF P Γ lit fn I J nb o=opH P Γ lit fn I J nb o\/(∃ rd rh e h new,opF P Γ lit fn I J nb o=.eff rd rh e h new/\Sound Γ P o I J nb rd rh e h new):=by
 have hv:∀{rd:List Nat} {v:SV},(∀ d,o.dst=some d->yvu Γ P o I J (d::rd) [] [(d,v)] [])->vO o rd [] (some v)=.bad\/∃ rd' rh e h new,vO o rd [] (some v)=.eff rd' rh e h new/\Sound Γ P o I J nb rd' rh e h new:=by
  intro rd v h;unfold vO
  cases hd:o.dst with
  | none=>exact .inl rfl
  | some d=>exact .inr ⟨_,_,_,_,_,rfl,h d hd⟩
 unfold opF
 split
 case h_4 op T x y U ho=>
  unfold fBin
  have e:opH P Γ lit fn I J nb o=opP P Γ I J nb o:=by unfold opH;rw [ho]
  split
  . rename_i p q hpq
    split
    . rename_i v hab
      cases hd:o.dst with
      | none=>
       left
       have:opP P Γ I J nb o=.bad:=by
        unfold opP;rw [ho];simp only [vO,oldO,hd]
        repeat' split
        all_goals first | rfl | simp_all
       rw [e,this];unfold vO;rw [hd]
      | some d=>
       right
       refine ⟨_,_,_,_,_,by unfold vO;rw [hd],?_⟩;exact w5q ho hd hpq hab
    . exact .inl e.symm
  . exact .inl e.symm
 case h_5 op T x ho=>
  unfold fUn
  have e:opH P Γ lit fn I J nb o=opP P Γ I J nb o:=by unfold opH;rw [ho]
  split
  . rename_i p hp
    split
    . rename_i v hab
      cases hd:o.dst with
      | none=>
       left
       have:opP P Γ I J nb o=.bad:=by
        unfold opP;rw [ho];simp only;unfold oldO;rw [hd]
       rw [e,this];unfold vO;rw [hd]
      | some d=>
       right
       refine ⟨_,_,_,_,_,by unfold vO;rw [hd],?_⟩;exact s_un ho hd hp hab
    . exact .inl e.symm
  . exact .inl e.symm
 case h_17 c ho=>
  unfold zw2
  split
  . rename_i x hc;left;unfold opH;rw [ho];simp only [hc]
  . rename_i hc
    split
    . rename_i x T ha ht;unfold fLen
      split
      . rename_i cc ti hx hti
        split
        . rename_i n hok hl
          have ho':o.op=.call { callee:=.builtin .len,args:=#[x],argTypes:=#[T] }:=by
           rw [ho];obtain ⟨cal,args,tys⟩:=c;simp only at hc ha ht;rw [hc,yw4 ha,ww7 ht]
          cases hd:o.dst with
          | none=>
           left
           have:opH P Γ lit fn I J nb o=.bad:=by
            unfold opH;rw [ho'];simp only [hx,xzp,oldO,hd]
           rw [this];unfold vO;rw [hd]
          | some d=>
           right
           refine ⟨_,_,_,_,_,by unfold vO;rw [hd],?_⟩;exact ws2 ho' hd hti hx hok hl
        . exact .inl rfl
      . exact .inl rfl
    . exact .inl rfl
  . exact .inl rfl
  . rename_i h1 h2 h3
    left;unfold opH;rw [ho]
    cases hcc:c.callee with
    | value x=>exact absurd hcc (h1 x)
    | builtin b=>exact absurd hcc (h3 b)
    | _=>simp only [hcc]
 all_goals first
  | exact .inl rfl
  | (rename_i ho;left;unfold opH;rw [ho];simp only;unfold opP;rw [ho];rfl)
  | (rename_i ho;left;unfold opH;rw [ho];rfl)
theorem SRL.of {J:List SB} {ρ:Nat->Value} {M:Nat->Nat->Prop}:∀{l:List AV} {r:List SV} {vs:List Value},zsa l=some r->RdBL M w vs l->SRL J ρ M w vs r:=v9u
theorem v4k {lit fn:Bool} {I:List SV} {J:List SB} {nb:Nat} {o:Oper} {l:List AV} {rd rh bs:List Nat} (h:opH P Γ lit fn I J nb o=.callD f l rd rh bs) {sl:List SV} (hl:zsa l=some sl) {J':List SB} (hc:vfe Γ P f (appL (frzE J bs) J) sl J' res) :
 wfn Γ P o I J (appL (ylm o res) I) J':=by
 obtain ⟨x,xs,ts,ho⟩:=vz0 h (.inl ⟨_,_,_,_,_,rfl⟩);rw [x5a ho] at h
 have ho':o.op=.call { callee:=.value x,args:=xs.toList.toArray,argTypes:=ts }:=by rw [ho]
 have hG:∀{f':FuncId} {caps:List SV} {rd' rh':List Nat},wq8 Γ I J x=some (f',caps,rd',rh')->zbg.callG Γ I J o xs.toList f' caps rd' rh'=.callD f l rd rh bs->wfn Γ P o I J (appL (ylm o res) I) J':=fun {f' caps rd' rh'} hcal hg=>by
  unfold zbg.callG at hg;split at hg
  . rename_i l' bs' ha
    cases hg;have harr:=vw0 ha;intro E ρ a w hI K Q hK;have hnt:=z0h ha
    have hnt1:vtv (wb2 Γ I xs.toList)=true:=by
     unfold vtv at hnt ⊢;rw [List.all_append,Bool.and_eq_true] at hnt;exact hnt.1
    obtain ⟨cv,hcv,hcr⟩:=yht hI hcal;have hsr:=(wmx hI xs.toList hnt1).append hcr;obtain ⟨hw1,_,hfz⟩:=Went.frz bs J hI.inv rfl harr (fun _=>.inl rfl);have hrb:=xp6 hw1.inv ha hfz (hsr.mv hw1.mv);have hcalls:=hc.2 _ ρ w _ hw1.inv (SRL.of hl hrb);unfold Oper.wp;rw [vkn ho' hcv hc.1 w];show Calls P f _ w _
    have e1:xs.toList.toArray.map a.eval++cv.toArray=(xs.toList.map a.eval++cv).toArray:=by simp
    rw [e1];refine hcalls.mono ?_;rintro e w' ⟨v,ρ',rfl,hw,hv⟩;exact hK _ _ ρ' (((hI.go hw1).go hw).dst hv)
  . split at hg<;>cases hg
 unfold zbg at h;split at h
 . split at h
   . split at h
     . unfold vO at h;repeat' split at h
       all_goals cases h
     . cases h
   . exact hG rfl h
 . rename_i t;split at h
   . split at h<;>cases h
   . split at h
     . rename_i f' caps rd' rh' hcal;exact hG hcal h
     . cases h
 . cases h
theorem SVR.refs {J:List SB} {ρ:Nat->Value} {M:Nat->Nat->Prop} {w:World} {v:Value} {x:SV} (h:SVR J ρ M w v x):∀ b∈vp6 x,okB J b:=fun b hb=>by
 cases x with
 | tup l=>
  obtain ⟨vs,_,h⟩:=h;rw [Hp.z0k,h.z0k] at hb;exact h.refs b hb
 | one h'=>exact SVR0.refs (x:=.one h') h b hb
 | agg l=>exact SVR0.refs (x:=.agg l) h b hb
 | _=>cases hb
theorem RI.zjd {J:List SB} {ρ:Nat->Value} {I:List SV} (h:RI Γ E ρ I (J++[.fresh]) a w):RI Γ E ρ I J a w:=by
 have hget:∀(i:Nat) (x:SB),J[i]? = some x->(J++[SB.fresh])[i]? = some x:=fun i x hi=>by rw [List.getElem?_append_left (List.getElem?_eq_some_iff.1 hi).1];exact hi
 have hok:∀ b,okB (J++[.fresh]) b->okB J b:=fun b ⟨x,hx,hf⟩=>by
  rw [List.getElem?_append] at hx;split at hx
  . exact ⟨x,hx,hf⟩
  . rename_i hlt
    cases hn:b-J.length with
    | zero=>rw [hn] at hx;simp at hx;exact absurd hx.symm hf
    | succ n=>rw [hn] at hx;simp at hx
 have hM:∀ b o,MX E.Mo ρ J b o->MX E.Mo ρ (J++[.fresh]) b o:=by
  rintro b o (hm | ⟨i,x,hi,hx⟩)
  . exact .inl hm
  . exact .inr ⟨i,x,hget i x hi,hx⟩
 have hw:=h.went
 refine ⟨h.hd,h.hs,fun i x hi=>(h.slot i x hi).at hM (fun b hb=>⟨hok b ((h.slot i x hi).refs b hb),rfl⟩),fun b hb=>hok b (hw.ok b hb),hw.rho,hw.keep.trans (ya3.shrink w hM),hw.grow,
  ⟨hw.inv.bnd,fun i x hi=>(hw.inv.blk i x (hget i x hi)).at hM (fun b hb=>⟨hok b ((hw.inv.blk i x (hget i x hi)).refs b hb),rfl⟩),fun i j x y hi hj=>hw.inv.inj i j x y (hget i x hi) (hget j y hj),fun i x hi=>hw.inv.sep i x (hget i x hi),hw.inv.glob.keep (ya3.shrink w hM)⟩,
  hw.size,hw.os,hw.tape,hw.output,hw.frame,fun k ⟨i,x,hi,hx⟩=>hw.fresh k ⟨i,x,hget i x hi,hx⟩⟩
theorem StH.zjd {e:List SB} {I:List SV} {J:List SB}:StH Γ e I (J++[.fresh]) I J:=fun _ ρ _ _ _ h=>⟨ρ,h.zjd⟩
inductive GR where
 | plain
 | when (d:Nat) (c b:Bool)
 | skip (d:Nat)
 | bad
def znr (ops:List Oper) (I:List SV) (o:Oper):GR:=match o.guard with
 | none=>.plain
 | some (j,b)=>match (ops[j]?).bind (·.dst) with
  | some d=>match gtS I d with
   | .one (.dat (.raw (.bool c)))=>.when d c b
   | .undef=>.skip d
   | _=>.bad
  | none=>.bad
theorem wy8 {I:List SV} {o:Oper}:(znr ops.toList I o=.plain->o.guard=none)/\(∀ d c b,znr ops.toList I o=.when d c b->∃ j,o.guard=some (j,b)/\(ops[j]?).bind (·.dst)=some d/\gtS I d=.one (.dat (.raw (.bool c))))/\
 (∀ d,znr ops.toList I o=.skip d->∃ j b,o.guard=some (j,b)/\(ops[j]?).bind (·.dst)=some d/\gtS I d=.undef):=by
 unfold znr
 cases hg:o.guard with
 | none=>exact ⟨fun _=>rfl,fun d c b h=>(by cases h),fun d h=>(by cases h)⟩
 | some p=>
  obtain ⟨j,b⟩:=p;simp only [Array.getElem?_toList]
  cases hd:(ops[j]?).bind (·.dst) with
  | none=>exact ⟨fun h=>(by cases h),fun d c b h=>(by cases h),fun d h=>(by cases h)⟩
  | some d=>
   simp only []
   split
   . rename_i c hc;refine ⟨fun h=>(by cases h),fun d' c' b' h=>?_,fun d h=>(by cases h)⟩
     cases h;exact ⟨j,rfl,hd,hc⟩
   . rename_i hc;refine ⟨fun h=>(by cases h),fun d' c' b' h=>(by cases h),fun d' h=>?_⟩
     cases h;exact ⟨j,b,rfl,hd,hc⟩
   . exact ⟨fun h=>(by cases h),fun d c b h=>(by cases h),fun d h=>(by cases h)⟩
section
variable {β:Type}
end
def y3w (ops:List Oper):Option Nat->Bool
 | none=>false
 | some d=>ops.any fun o=>match o.op with
  | .call c=>match c.callee with
   | .builtin .append=>match c.args.toList with
    | [_,.tmp t]=>t==d
    | _=>false
   | _=>false
  | _=>false
section
variable (cD:FuncId->List AV->Option AV) (cH:FuncId->List SB->List SV->Option (List SB×SV×List Nat))
def vo2 (n:Nat) (J:List SB):List SB:=match J.drop n with
 | [.fresh]=>J.take n
 | _=>J
end
def Fr (J J':List SB) (wl:List Nat):Prop:=J.length<=J'.length/\∀ i,i<J.length->i∉wl->J'[i]? = J[i]?
theorem Fr.mono {J J':List SB} {wl wl':List Nat} (h:Fr J J' wl) (hs:∀ i∈wl,i∈wl'):Fr J J' wl':=⟨h.1,fun i hi hn=>h.2 i hi (fun hm=>hn (hs i hm))⟩
theorem ys4 {e:List (Nat×α)} {l:List α} {i:Nat} (hi:i<l.length) (h:i∉e.map (·.1)):(appL e l)[i]? = l[i]?:=by
 rw [ymv e l i hi,x4f h];rfl
theorem Fr.app {J:List SB} {e:List (Nat×SB)}:Fr J (appL e J) (e.map (·.1)):=⟨by rw [z2a];exact Nat.le_refl _,fun i hi hn=>ys4 hi hn⟩
theorem Fr.push {J:List SB} {e:List (Nat×SB)}:Fr J (appL e J++[x]) (e.map (·.1)):=⟨by rw [List.length_append,z2a];omega,fun i hi hn=>by
 rw [List.getElem?_append_left (by rw [z2a];exact hi)];exact ys4 hi hn⟩
theorem vzv {g:Nat->α} {ch:List Nat} {i:Nat} (h:i∈ch):evL (ch.map fun i=>(i,g i)) i=some (g i):=by
 obtain ⟨v,hv⟩:=xrl (eff:=ch.map fun i=>(i,g i)) (r:=i) (by simpa using h);rw [hv];unfold evL at hv;obtain ⟨p,hp,e⟩:=Option.map_eq_some_iff.1 hv;have hm:=List.mem_of_find?_eq_some hp;have hq:=List.find?_some hp;simp only [List.mem_reverse,List.mem_map] at hm;obtain ⟨j,_,rfl⟩:=hm;simp only [beq_iff_eq] at hq;subst hq;exact congrArg some e.symm
theorem Fr.eff {J J':List SB} {ch:List Nat} (h:Fr J J' ch) (hl:J'.length=J.length):J'=appL (ch.map fun i=>(i,gB J' i)) J:=by
 refine List.ext_getElem? (fun i=>?_);by_cases hi:i<J.length
 . rw [ymv _ _ _ hi];by_cases hc:i∈ch
   . rw [vzv (g:=gB J') hc];have hi':i<J'.length:=hl.symm▸hi;unfold gB;rw [List.getElem?_eq_getElem hi'];rfl
   . rw [x4f (by simpa using hc),h.2 i hi hc];rfl
 . rw [List.getElem?_eq_none (by omega),List.getElem?_eq_none (by rw [z2a];omega)]
def OkD (Γ:List (Nat×List Cell)) (P:Program) (cD:FuncId->List AV->Option AV):Prop:=∀ f l r,cD f l=some r->CallsD Γ P f l r
section
variable {cD:FuncId->List AV->Option AV} {cH:FuncId->List SB->List SV->Option (List SB×SV×List Nat)}
theorem ya7 {lit fn:Bool} {o:Oper} {I:List SV} {J:List SB} {nb:Nat} {rd rh:List Nat} {e:List (Nat×SV)} {h:List (Nat×SB)} {new:Option SB} (hr:opF P Γ lit fn I J nb o=.eff rd rh e h new):Sound Γ P o I J nb rd rh e h new:=by
 rcases zoz (P:=P) (Γ:=Γ) (lit:=lit) (fn:=fn) (o:=o) (I:=I) (J:=J) (nb:=nb) with he | ⟨_,_,_,_,_,he,hs⟩
 . have hs:=ykw (P:=P) (Γ:=Γ) (lit:=lit) (fn:=fn) (o:=o) (I:=I) (J:=J) (nb:=nb);rw [<-he,hr] at hs;exact hs
 . rw [hr] at he
   cases he;exact hs
theorem v5r {lit fn:Bool} {o:Oper} {I:List SV} {J:List SB} {nb:Nat} {r:HO} (hr:opF P Γ lit fn I J nb o=r) (hn:∀ rd rh e h new,r≠.eff rd rh e h new):opH P Γ lit fn I J nb o=r:=by
 rcases zoz (P:=P) (Γ:=Γ) (lit:=lit) (fn:=fn) (o:=o) (I:=I) (J:=J) (nb:=nb) with he | ⟨_,_,_,_,_,he,_⟩
 . exact he.symm.trans hr
 . exact absurd (hr.symm.trans he) (hn _ _ _ _ _)
theorem yvu.sub {o:Oper} {I:List SV} {J:List SB} {rd rd' rh:List Nat} {eff:List (Nat×SV)} {heff:List (Nat×SB)} (h:yvu Γ P o I J rd rh eff heff) (hs:∀ r∈rd,r∈rd'):yvu Γ P o I J rd' rh eff heff:=fun E ρ I' J' a w h1 h2 hI K Q hK=>h E ρ I' J' a w (h1.sub hs) h2 hI K Q hK
theorem GH.sub {ops:Array Oper} {o:Oper} {I:List SV} {J:List SB} {rd rd' rh:List Nat} {eff:List (Nat×SV)} {heff:List (Nat×SB)} (h:GH Γ P ops o I J rd rh eff heff) (hs:∀ r∈rd,r∈rd'):GH Γ P ops o I J rd' rh eff heff:=fun E ρ I' J' a w h1 h2 hI K Q hK=>h E ρ I' J' a w (h1.sub hs) h2 hI K Q hK
def SubM (ms:List Nat) (ls:List (List Nat)):Prop:=ms.length=ls.length/\∀ j i,(ms.getD j 0).testBit i=true->i∈ls.getD j []
theorem SubM.push {ms:List Nat} {ls:List (List Nat)} (h:SubM ms ls) {m:Nat} {l:List Nat} (hm:∀ i,m.testBit i=true->i∈l):SubM (ms++[m]) (ls++[l]):=by
 refine ⟨by simp [h.1],fun j i hj=>?_⟩;simp only [List.getD,List.getElem?_append,h.1] at hj ⊢
 split
 . rename_i hlt;simp only [hlt,if_true] at hj;exact h.2 j i hj
 . rename_i hlt;simp only [hlt,if_false] at hj
   cases hk:j-ls.length with
   | zero=>rw [hk] at hj;exact hm i (by simpa using hj)
   | succ n=>rw [hk] at hj;simp at hj
theorem x2l.post {e:List SB} {c:Code} {Q Q':Exit->List SV->List SB->Prop} {I:List SV} {J:List SB} (h:x2l Γ P e c Q I J) (hq:∀ x s t,Q x s t->∃ s' t',StH Γ e s t s' t'/\Q' x s' t'):x2l Γ P e c Q' I J:=fun E ρ a w hE hR=>
 wp_mono (h E ρ a w hE hR) (fun x a w ⟨s,t,ρ,h1,h2⟩=>by
  obtain ⟨s',t',h3,h4⟩:=hq x s t h1;obtain ⟨ρ',h5⟩:=h3 E ρ a w hE h2
  exact ⟨s',t',ρ',h4,h5⟩)
def vyv (Γ:List (Nat×List Cell)) (P:Program) (e:List SB) (c:Code) (Q:Exit->List SV->List SB->Prop) (I:List SV) (J:List SB):Prop:=
 ∀(E:HEnv) (ρ:Nat->Value) (a:Act) (w:World),At Γ e E->RI Γ E ρ I J a w->∀(b:Frame) (k:List Item) (cs:List Frame),∃ x a' w',xkr Γ E Q x a' w'/\Arrives P (lone (b.at a (.code c::.inLoop c::k)) cs w) b k cs x a' w'
theorem vyv.loop {e:List SB} {c:Code} {Q:Exit->List SV->List SB->Prop} {I:List SV} {J:List SB} (h:vyv Γ P e c Q I J):x2l Γ P e (.loop c) Q I J:=fun E ρ a w hE hR b k cs=>by
 obtain ⟨x,a',w',hq,harr⟩:=h E ρ a w hE hR b k cs;exact ⟨x,a',w',hq,.of_steps (.one step_loop) harr⟩
theorem vyv.round {e:List SB} {c:Code} {Q:Exit->List SV->List SB->Prop} {I:List SV} {J:List SB} (h:x2l Γ P e c (y90 (fun I J=>vyv Γ P e c Q I J) Q) I J):vyv Γ P e c Q I J:=fun E ρ a w hE hR b k cs=>by
 obtain ⟨ex,a1,w1,⟨I',J',ρ',hq,hR'⟩,harr⟩:=h E ρ a w hE hR b (.inLoop c::k) cs
 cases ex with
 | normal=>
  obtain ⟨e2,a2,w2,hq2,harr2⟩:=hq E ρ' a1 w1 hE hR' b k cs;exact ⟨e2,a2,w2,hq2,.of_steps (Steps.trans harr (.one step_inLoop)) harr2⟩
 | exit id=>exact ⟨_,a1,w1,⟨I',J',ρ',hq,hR'⟩,.pass (x:=.inLoop c) rfl (fun _ _=>.inl (by simp)) harr⟩
 | goto l=>exact ⟨_,a1,w1,⟨I',J',ρ',hq,hR'⟩,.pass (x:=.inLoop c) rfl (fun _ _=>.inl (by simp)) harr⟩
 | ret=>exact ⟨_,a1,w1,⟨I',J',ρ',hq,hR'⟩,.pass (x:=.inLoop c) rfl (fun _ _=>.inl (by simp)) harr⟩
 | panic ch=>exact ⟨_,a1,w1,⟨I',J',ρ',hq,hR'⟩,.pass (x:=.inLoop c) rfl (fun _ _=>.inl (by simp)) harr⟩
 | outgrown=>exact ⟨_,a1,w1,⟨I',J',ρ',hq,hR'⟩,.pass (x:=.inLoop c) rfl (fun _ _=>.inl (by simp)) harr⟩
end
section
variable {known:FuncId->List AV->Option AV}
theorem OkD.none:OkD Γ P (fun _ _=>none):=fun _ _ _ h=>by cases h
end
end Go.Hp
namespace Go.Hp
open Go Go.RowKit Go.Slot
abbrev CD:=FuncId->List AV->Option AV
abbrev CH:=FuncId->List SB->List SV->Option (List SB×SV×List Nat)
abbrev Kr:=CD->CH->List SV->List SB->List Nat->Option (List SV×List SB×List Nat)
noncomputable section
variable (P:Program) (Γ:List (Nat×List Cell))
variable (gen:Oper->Kr->(List SV->List SB->HO)->Kr)
variable {P Γ}
end
noncomputable section
variable (P:Program) (Γ:List (Nat×List Cell)) (gen:Oper->Kr->(List SV->List SB->HO)->Kr)
variable {P Γ}
variable (P Γ)
variable {P Γ}
end
end Go.Hp
namespace Go.Hp
open Go Go.RowKit Go.Slot
variable {P:Program} {Γ:List (Nat×List Cell)}
theorem OkD.or {k k':FuncId->List AV->Option AV} (h:OkD Γ P k) (h':OkD Γ P k'):OkD Γ P (fun f l=>match k f l with
 | .some r=>.some r
 | .none=>k' f l):=fun f l r e=>by
 simp only at e;split at e
 . rename_i x hx;cases e;exact h _ _ _ hx
 . exact h' _ _ _ e
end Go.Hp
