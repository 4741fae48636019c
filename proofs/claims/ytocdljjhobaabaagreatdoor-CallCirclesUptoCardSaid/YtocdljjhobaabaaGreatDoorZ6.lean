/- The proof, part Z6: Mm. -/
import Derived.Test.YtocdljjhobaabaaGreatDoorZ5
namespace Go.Slot
open Go Go.RowKit
variable {P:Program}
def GStep (P:Program) (ops:Array Oper) (o:Oper) (σ:List AV) (rd tk:List Nat) (eff:List (Nat×AV)):Prop:=
 (∀ t∈tk,∀ i,(gt σ i).y1a t->i∈rd)/\
 ∀(E:Env) (σ':List AV) (a:Act) (w:World),agree rd σ σ'->(∀ t∈tk,∀ i,(gt σ' i).y1a t->i∈rd)->Rel E σ' a w->∀(K:Act->World->Prop) (Q:Exit->Act->World->Prop),
  (∀ a' w',Rel E (app eff σ') a' w'->K a' w')->if Region.wanted o (yielded ops a.tmps) then o.wp P a w K Q else K (a.put o.dst Go.undef) w
theorem GStep.plain {ops:Array Oper} {o:Oper} {σ:List AV} {rd tk:List Nat} {eff:List (Nat×AV)} (hg:o.guard=none) (ht:∀ t∈tk,∀ i,(gt σ i).y1a t->i∈rd) (h:ztu P o σ rd tk eff):GStep P ops o σ rd tk eff:=
 ⟨ht,fun E σ' a w hag htk hR K Q hK=>by simp only [Region.wanted,hg,if_true];exact h E σ' a w hag htk hR K Q hK⟩
theorem agree.sub {rd rd':List Nat} {σ σ':List AV} (h:agree rd σ σ') (hs:∀ r∈rd',r∈rd):agree rd' σ σ':=⟨h.1,fun r hr=>h.2 r (hs r hr)⟩
theorem xwe {ops:Array Oper} {j d:Nat} (hj:(ops[j]?).bind (·.dst)=some d) {E:Env} {τ:Nat->TV} {M:Nat->Nat->Prop} {σ:List AV} {a:Act} {w:World} (hI:RelI E τ M σ a w) :
 (∀ b,gt σ d=.one (.raw (.bool b))->yielded ops a.tmps j=some b)/\(gt σ d=.undef->yielded ops a.tmps j=none):=by
 have hs:=hI.gt d;unfold yielded;rw [hj];simp only [Option.bind_some];constructor
 . intro b hb;rw [hb] at hs;have e:a.tmps.getD d Go.undef=.bool b:=RdC.xcn hs;have hlt:d<a.tmps.size:=hI.lt (w3d hb (by simp));rw [Array.getElem?_eq_getElem hlt];rw [Array.getD_eq_getD_getElem?,Array.getElem?_eq_getElem hlt] at e;simp at e;rw [e]
 . intro hb;rw [hb] at hs;have e:a.tmps.getD d Go.undef=Go.undef:=hs;have hlt:d<a.tmps.size:=hI.lt (w3d hb (by simp));rw [Array.getElem?_eq_getElem hlt];rw [Array.getD_eq_getD_getElem?,Array.getElem?_eq_getElem hlt] at e;simp at e;rw [e];rfl
theorem GStep.taken {ops:Array Oper} {o:Oper} {σ:List AV} {rd:List Nat} {eff:List (Nat×AV)} {j d:Nat} {b:Bool} (hg:o.guard=some (j,b)) (hj:(ops[j]?).bind (·.dst)=some d)
 (hd:gt σ d=.one (.raw (.bool b))) (h:ztu P o σ rd [] eff):GStep P ops o σ (d::rd) [] eff:=by
 refine ⟨(by intro t ht;cases ht),?_⟩;intro E σ' a w hag _ hR K Q hK;obtain ⟨τ,M,hI⟩:=hR;have hy:=(xwe hj hI).1 b (by rw [hag.2 d (by simp)];exact hd);simp only [Region.wanted,hg,hy,beq_self_eq_true,if_true];exact h E σ' a w (hag.sub (fun r hr=>by simp [hr])) (fun t ht=>by cases ht) ⟨τ,M,hI⟩ K Q hK
theorem GStep.vcu {ops:Array Oper} {o:Oper} {σ:List AV} {j d:Nat} {b:Bool} (hg:o.guard=some (j,b)) (hj:(ops[j]?).bind (·.dst)=some d)
 (hd:gt σ d=.one (.raw (.bool (!b)))\/gt σ d=.undef) {e:Nat} (ho:o.dst=some e) (hn:nh σ e=true):GStep P ops o σ [d,e] [] [(e,.undef)]:=by
 refine ⟨(by intro t ht;cases ht),?_⟩;intro E σ' a w hag _ hR K Q hK;obtain ⟨τ,M,hI⟩:=hR
 have hw:Region.wanted o (yielded ops a.tmps)=false:=by
  rcases hd with hd | hd
  . have hy:=(xwe hj hI).1 (!b) (by rw [hag.2 d (by simp)];exact hd);simp only [Region.wanted,hg,hy]
    cases b<;>rfl
  . have hy:=(xwe hj hI).2 (by rw [hag.2 d (by simp)];exact hd);simp only [Region.wanted,hg,hy];rfl
 simp only [hw,Bool.false_eq_true,if_false];obtain ⟨old,h1,h2⟩:=z5w (hag.nh (by simp) hn);rw [ho];exact hK _ _ ⟨τ,M,hI.put h1 h2 Go.undef .undef rfl rfl (fun s b hr=>by cases hr) (fun t ht=>ht.elim)⟩
def Run (P:Program) (ops:Array Oper):List Oper->List AV->(List AV->Prop)->Prop
 | [],σ,K=>K σ
 | o::r,σ,K=>∃ rd tk eff,GStep P ops o σ rd tk eff/\Run P ops r (app eff σ) K
theorem Run.wpList {ops:Array Oper} {E:Env} {Q:Exit->Act->World->Prop} {K:List AV->Prop} (hQ:∀ σ a w,K σ->Rel E σ a w->Q .normal a w):∀(l:List Oper) (σ:List AV) (a:Act) (w:World),
 Run P ops l σ K->Rel E σ a w->Go.wpList P ops Q l a w
 | [],σ,a,w,h,hR=>hQ σ a w h hR
 | o::r,σ,a,w,⟨rd,tk,eff,hg,hr⟩,hR=>by
  refine wpList_step (fun K' hK'=>?_);exact hg.2 E σ a w ⟨rfl,fun _ _=>rfl⟩ hg.1 hR K' Q (fun a' w' hR'=>hK' _ _ (Run.wpList hQ r (app eff σ) a' w' hr hR'))
structure SR where
 rd:List Nat
 tk:List Nat
 eff:List (Nat×AV)
def SR.writes (s:SR):List Nat:=s.eff.map (·.1)
def direct (o:Oper):List Nat:=(o.after.toList.filter (Region.binds .any)).map (·.on)
def befs:List Oper->List (List Nat)->List (List Nat)
 | [],acc=>acc
 | o::r,acc=>befs r (acc++[(direct o++(direct o).flatMap fun d=>acc.getD d []).eraseDups])
def xef (s t:SR) (σi σj:List AV):Bool:=
 (s.writes.all fun x=>!t.rd.contains x)&&(t.writes.all fun x=>!s.rd.contains x)&&
 (t.tk.all fun x=>s.eff.all fun p=>p.2.x6p x&&(gt σi p.1).x6p x)&&(s.tk.all fun x=>t.eff.all fun p=>p.2.x6p x&&(gt σj p.1).x6p x)
def vuq:List SR->List AV->List (SR×List AV)
 | [],_=>[]
 | s::r,σ=>(s,σ)::vuq r (app s.eff σ)
def yaf (bs:List (List Nat)):Nat->List (SR×List AV)->List (SR×List AV)->Bool
 | _,_,[]=>true
 | j,before,x::r=>(before.zipIdx.all fun (y,i)=>(bs.getD j []).contains i||xef y.1 x.1 y.2 x.2)&&yaf bs (j+1) (before++[x]) r
def vwe:Nat->List Oper->Bool
 | _,[]=>true
 | j,o::r=>(direct o).all (· < j)&&vwe (j+1) r
def indep (l:List Oper) (recs:List SR) (σ:List AV):Bool:=
 vwe 0 l&&(recs.all fun s=>s.writes.all fun x=>s.rd.contains x)&&yaf (befs l []) 0 [] (vuq recs σ)
def RunD (P:Program) (ops:Array Oper) (l:List Oper) (σ0:List AV):List Oper->List SR->List AV->(List AV->Prop)->Prop
 | [],acc,σ,K=>indep l acc σ0=true/\K σ
 | o::r,acc,σ,K=>∃ rd tk eff,GStep P ops o σ rd tk eff/\RunD P ops l σ0 r (acc++[⟨rd,tk,eff⟩]) (app eff σ) K
def ev (eff:List (Nat×AV)) (r:Nat):Option AV:=(eff.reverse.find? (fun p=>p.1==r)).map (·.2)
theorem zn0 (eff:List (Nat×AV)) {σ:List AV} {r:Nat} (h:r<σ.length):gt (app eff σ) r=(ev eff r).getD (gt σ r):=ze6 eff σ r h
theorem zqa {eff:List (Nat×AV)} {r:Nat} (h:r∉eff.map (·.1)):ev eff r=none:=by
 unfold ev;rw [Option.map_eq_none_iff,List.find?_eq_none];intro p hp;simp only [beq_iff_eq]
 exact fun e=>h (List.mem_map.2 ⟨p,by simpa using hp,e⟩)
theorem wda {eff:List (Nat×AV)} {r:Nat} (h:r∈eff.map (·.1)):∃ v,ev eff r=some v/\(r,v)∈eff:=by
 unfold ev;obtain ⟨p,hp,he⟩:=List.mem_map.1 h
 cases hf:eff.reverse.find? (fun p=>p.1==r) with
 | none=>rw [List.find?_eq_none] at hf;exact absurd (by simpa using he) (hf p (by simpa using hp))
 | some q=>
  refine ⟨q.2,rfl,?_⟩;have h1:=List.find?_some hf;have h2:=List.mem_of_find?_eq_some hf;simp only [beq_iff_eq] at h1;rw [<-h1];simpa using h2
section any
variable (recs:List SR) (σ0:List AV)
def st (X:Nat->Bool):Nat->List AV
 | 0=>σ0
 | n+1=>if X n then app (recs.getD n ⟨[],[],[]⟩).eff (st X n) else st X n
theorem vid (X:Nat->Bool):∀ n,(st recs σ0 X n).length=σ0.length
 | 0=>rfl
 | n+1=>by
  unfold st
  split
  . rw [v7o,vid X n]
  . exact vid X n
def wr (i:Nat):List Nat:=(recs.getD i ⟨[],[],[]⟩).writes
theorem zpq {X Y:Nat->Bool} {r:Nat} (hr:r<σ0.length):∀ n,(∀ i,i<n->r∈wr recs i->X i=Y i)->gt (st recs σ0 X n) r=gt (st recs σ0 Y n) r
 | 0,_=>rfl
 | n+1,h=>by
  have ih:=zpq hr n (fun i hi=>h i (by omega));by_cases hw:r∈wr recs n
  . have e:=h n (by omega) hw;unfold st;rw [<-e]
    split
    . rw [zn0 _ (by rw [vid];exact hr),zn0 _ (by rw [vid];exact hr),ih]
    . exact ih
  . have hn:ev (recs.getD n ⟨[],[],[]⟩).eff r=none:=zqa hw
    have one:∀ Z,gt (st recs σ0 Z (n+1)) r=gt (st recs σ0 Z n) r:=fun Z=>by
     show gt (if Z n then _ else _) r=_
     split
     . rw [zn0 _ (by rw [vid];exact hr),hn];rfl
     . rfl
    rw [one,one,ih]
theorem wfw {Z:Nat->Bool} {r j:Nat} (hr:r<σ0.length) (hj:Z j=true) {v:AV} (hv:ev (recs.getD j ⟨[],[],[]⟩).eff r=some v):∀ n,j<n->(∀ i,j<i->i<n->Z i=true->r∉wr recs i)->gt (st recs σ0 Z n) r=v
 | 0,h,_=>absurd h (by omega)
 | n + 1, h, ha => by
  by_cases e:j=n
  . subst e;unfold st;rw [if_pos hj,zn0 _ (by rw [vid];exact hr),hv];rfl
  . have ih:=wfw hr hj hv n (by omega) (fun i h1 h2=>ha i h1 (by omega));unfold st
    split
    . rename_i hz;rw [zn0 _ (by rw [vid];exact hr),zqa (ha n (by omega) (by omega) hz)];exact ih
    . exact ih
theorem zpr {X:Nat->Bool} {j:Nat}:∀ n,j<=n->(∀ i,j<=i->i<n->X i=false)->st recs σ0 X n=st recs σ0 X j
 | 0,h,_=>by rw [show j=0 by omega]
 | n+1,h,ha=>by
  by_cases e:j=n+1
  . rw [e]
  . rw [<-zpr n (by omega) (fun i h1 h2=>ha i h1 (by omega))];show (if X n then _ else _)=_;rw [ha n (by omega) (by omega)];rfl
theorem v5p {X Y:Nat->Bool}:∀ n,(∀ i,i<n->X i=Y i)->st recs σ0 X n=st recs σ0 Y n
 | 0,_=>rfl
 | n+1,h=>by
  unfold st;rw [h n (by omega),v5p n (fun i hi=>h i (by omega))]
variable (N:Nat) (bef:Nat->List Nat)
structure xq0:Prop where
 lt:∀ j i,i∈bef j->i<j
 rdw:∀ j,j<N->∀ x∈wr recs j,x∈(recs.getD j ⟨[],[],[]⟩).rd
 ap:∀ i j,i<j->j<N->i∉bef j->xef (recs.getD i ⟨[],[],[]⟩) (recs.getD j ⟨[],[],[]⟩) (st recs σ0 (fun _=>true) i) (st recs σ0 (fun _=>true) j)=true
variable {recs σ0 N bef}
theorem xq0.disj (h:xq0 recs σ0 N bef) {i j:Nat} (hi:i<N) (hj:j<N) (hne:i≠j) (h1:i∉bef j) (h2:j∉bef i) {r:Nat} (hr:r∈(recs.getD j ⟨[],[],[]⟩).rd):r∉wr recs i:=by
 intro hw
 rcases Nat.lt_or_ge i j with hlt | hge
 . have:=h.ap i j hlt hj h1
   simp only [xef,Bool.and_eq_true] at this;have h3:=(List.all_eq_true.1 this.1.1.1) r hw;simp at h3;exact h3 hr
 . have:=h.ap j i (by omega) hi h2
   simp only [xef,Bool.and_eq_true] at this;have h3:=(List.all_eq_true.1 this.1.1.2) r hw;simp at h3;exact h3 hr
theorem xq0.tok (h:xq0 recs σ0 N bef) {i j:Nat} (hi:i<N) (hj:j<N) (hne:i≠j) (h1:i∉bef j) (h2:j∉bef i) {t:Nat} (ht:t∈(recs.getD j ⟨[],[],[]⟩).tk) {r:Nat} {v:AV} (hv:(r,v)∈(recs.getD i ⟨[],[],[]⟩).eff) :
 ¬v.y1a t/\¬(gt (st recs σ0 (fun _=>true) i) r).y1a t:=by
 have key:(v.x6p t&&(gt (st recs σ0 (fun _=>true) i) r).x6p t)=true:=by
  rcases Nat.lt_or_ge i j with hlt | hge
  . have:=h.ap i j hlt hj h1
    simp only [xef,Bool.and_eq_true] at this;exact (List.all_eq_true.1 ((List.all_eq_true.1 this.1.2) t ht)) (r,v) hv
  . have:=h.ap j i (by omega) hi h2
    simp only [xef,Bool.and_eq_true] at this;exact (List.all_eq_true.1 ((List.all_eq_true.1 this.2) t ht)) (r,v) hv
 simp only [Bool.and_eq_true] at key;exact ⟨AV.ydj key.1,AV.ydj key.2⟩
structure Next (bef:Nat->List Nat) (X:Nat->Bool) (j:Nat):Prop where
 closed:∀ k,X k=true->∀ i∈bef k,X i=true
 out:X j=false
 all:∀ i∈bef j,X i=true
theorem zqf (j:Nat) (hj:j<=N):st recs σ0 (fun i=>decide (i<j)) N=st recs σ0 (fun _=>true) j:=by
 rw [zpr recs σ0 N hj (fun i h1 _=>by simp;omega)];exact v5p recs σ0 j (fun i hi=>by simp [hi])
theorem Next.agree (h:xq0 recs σ0 N bef) {X:Nat->Bool} {j:Nat} (hj:j<N) (hX:Next bef X j):agree (recs.getD j ⟨[],[],[]⟩).rd (st recs σ0 (fun _=>true) j) (st recs σ0 X N):=by
 refine ⟨by rw [vid,vid],fun r hr=>?_⟩;by_cases hlen:r<σ0.length
 . rw [← zqf (N := N) j (by omega)];refine zpq recs σ0 hlen N (fun i hi hw=>?_);by_cases e:i=j
   . subst e;rw [hX.out];simp
   . by_cases h1:i∈bef j
     . rw [hX.all i h1];simp [h.lt j i h1]
     . by_cases h2:j∈bef i
       . have h3:X i=false:=by
          cases hx:X i with
          | false=>rfl
          | true=>have:=hX.closed i hx j h2;rw [hX.out] at this;cases this
         have:=h.lt i j h2
         rw [h3];simp;omega
       . exact absurd hw (h.disj hi hj e h1 h2 hr)
 . have e1:∀ Z n,gt (st recs σ0 Z n) r=.any:=fun Z n=>by
    unfold gt;rw [List.getElem?_eq_none (by rw [vid];omega)];rfl
   rw [e1,e1]
theorem Next.tok (h : xq0 recs σ0 N bef) {X : Nat → Bool} {j : Nat} (hj : j < N) (hX : Next bef X j) {t : Nat} (ht : t ∈ (recs.getD j ⟨[], [], []⟩).tk) {r : Nat} (hr : (gt (st recs σ0 X N) r).y1a t) :
 (gt (st recs σ0 (fun _=>true) j) r).y1a t:=by
 by_cases hlen:r<σ0.length
 . rw [← zqf (N := N) j (by omega)]
   have key:∀ n,n<=N->(gt (st recs σ0 X n) r).y1a t->(gt (st recs σ0 (fun i=>decide (i<j)) n) r).y1a t:=by
    intro n
    induction n with
    | zero=>exact fun _ h=>h
    | succ n ih=>
     intro hn hh;have ih:=ih (by omega)
     have hX1:gt (st recs σ0 X (n+1)) r=if X n then (ev (recs.getD n ⟨[],[],[]⟩).eff r).getD (gt (st recs σ0 X n) r) else gt (st recs σ0 X n) r:=by
      show gt (if X n then _ else _) r=_
      split
      . rw [zn0 _ (by rw [vid];exact hlen)]
      . rfl
     have hY1:gt (st recs σ0 (fun i=>decide (i<j)) (n+1)) r=if decide (n<j) then (ev (recs.getD n ⟨[],[],[]⟩).eff r).getD (gt (st recs σ0 (fun i=>decide (i<j)) n) r) else gt (st recs σ0 (fun i=>decide (i<j)) n) r:=by
      show gt (if decide (n<j) then _ else _) r=_
      split
      . rw [zn0 _ (by rw [vid];exact hlen)]
      . rfl
     rw [hX1] at hh;rw [hY1];by_cases hw:r∈wr recs n
     . obtain ⟨v,hv,hvm⟩:=wda hw;rw [hv] at hh ⊢;simp only [Option.getD_some] at hh ⊢;by_cases e:n=j
       . subst e;rw [hX.out] at hh;simp only [Bool.false_eq_true,if_false] at hh;simpa using ih hh
       . by_cases h1:n∈bef j
         . rw [hX.all n h1] at hh
           have:=h.lt j n h1
           simp only [this,decide_true,if_true];simpa using hh
         . by_cases h2:j∈bef n
           . have hlt:=h.lt n j h2
             have h3:X n=false:=by
              cases hx:X n with
              | false=>rfl
              | true=>have:=hX.closed n hx j h2;rw [hX.out] at this;cases this
             rw [h3] at hh
             have h4:¬n<j:=by omega
             simp only [h4,decide_false,Bool.false_eq_true,if_false];simp only [Bool.false_eq_true,if_false] at hh;exact ih hh
           . obtain ⟨hnv,hno⟩:=h.tok (by omega) hj e h1 h2 ht hvm
             cases hx:X n with
             | true=>rw [hx] at hh;exact absurd hh hnv
             | false=>
              rw [hx] at hh;simp only [Bool.false_eq_true,if_false] at hh;have hih:=ih hh
              split
              . rename_i hlt;exfalso;refine hno ?_
                have hlt':n<j:=by simpa using hlt
                have:st recs σ0 (fun i=>decide (i<j)) n=st recs σ0 (fun _=>true) n:=v5p recs σ0 n (fun i hi=>by simp;omega)
                rw [<-this];exact hih
              . exact hih
     . have hn':ev (recs.getD n ⟨[],[],[]⟩).eff r=none:=zqa hw;rw [hn'] at hh ⊢;simp only [Option.getD_none,ite_self] at hh ⊢;exact ih hh
   exact key N (Nat.le_refl _) hr
 . exfalso;unfold gt at hr;rw [List.getElem?_eq_none (by rw [vid];omega)] at hr;exact hr
theorem Next.step (h:xq0 recs σ0 N bef) {X:Nat->Bool} {j:Nat} (hj:j<N) (hX:Next bef X j):app (recs.getD j ⟨[],[],[]⟩).eff (st recs σ0 X N)=st recs σ0 (fun i=>X i||i==j) N:=by
 apply y8c
 . rw [v7o,vid,vid]
 . intro r hr;rw [v7o,vid] at hr;rw [zn0 _ (by rw [vid];exact hr)];by_cases hw:r∈wr recs j
   . obtain ⟨v,hv,_⟩:=wda hw;rw [hv];refine (wfw recs σ0 hr (by simp) hv N hj (fun i hji hi hz=>?_)).symm;simp only [Bool.or_eq_true,beq_iff_eq] at hz;have hXi:X i=true:=hz.resolve_right (by omega);refine h.disj hi hj (by omega) (fun hb=>by have:=h.lt j i hb;omega) (fun hb=>?_) (h.rdw j hj r hw)
     have:=hX.closed i hXi j hb
     rw [hX.out] at this;cases this
   . rw [zqa hw];refine zpq recs σ0 hr N (fun i _ hwi=>?_)
     have:i≠j:=fun e=>hw (e▸hwi)
     simp [this]
theorem Next.grow {X:Nat->Bool} {j:Nat} (hX:Next bef X j):∀ k,(X k||k==j)=true->∀ i∈bef k,(X i||i==j)=true:=fun k hk i hi=>by
 simp only [Bool.or_eq_true,beq_iff_eq] at hk ⊢
 rcases hk with hk | rfl
 . exact .inl (hX.closed k hk i hi)
 . exact .inl (hX.all i hi)
end any
theorem yl8 (l:List Oper):∀(acc:List (List Nat)) (j:Nat),(∀ i∈(befs l acc).getD j [],j<acc.length->i∈acc.getD j [])/\(j<acc.length->(befs l acc).getD j []=acc.getD j []):=by
 induction l with
 | nil=>intro acc j;exact ⟨fun i hi _=>hi,fun _=>rfl⟩
 | cons o l ih=>
  intro acc j
  have hkeep:j<acc.length->(befs (o::l) acc).getD j []=acc.getD j []:=fun hj=>by
   simp only [befs];rw [(ih _ j).2 (by simp;omega)];simp [List.getD,List.getElem?_append_left hj]
  exact ⟨fun i hi hj=>by rw [<-hkeep hj];exact hi,hkeep⟩
theorem zao (l:List Oper):∀ acc,(befs l acc).length=acc.length+l.length:=by
 induction l with
 | nil=>intro acc;simp [befs]
 | cons o l ih=>intro acc;simp only [befs];rw [ih];simp;omega
theorem ygp (l:List Oper):∀(acc:List (List Nat)) (j:Nat) (o:Oper),l[j]? = some o->
 ∀ i,i∈(befs l acc).getD (acc.length+j) []↔i∈direct o\/∃ d∈direct o,d<acc.length+j/\i∈(befs l acc).getD d []:=by
 induction l with
 | nil=>intro acc j o h;simp at h
 | cons o' l ih=>
  intro acc j o h i
  cases j with
  | zero=>
   simp at h;subst h
   have hb:(befs (o'::l) acc).getD acc.length []=(direct o'++(direct o').flatMap fun d=>acc.getD d []).eraseDups:=by
    simp only [befs];rw [(yl8 l _ acc.length).2 (by simp)];simp [List.getD]
   rw [Nat.add_zero,hb];simp only [List.mem_eraseDups,List.mem_append,List.mem_flatMap];constructor
   . rintro (h | ⟨d,hd,hi⟩)
     . exact .inl h
     . refine .inr ⟨d,hd,?_⟩;by_cases hdl:d<acc.length
       . refine ⟨hdl,?_⟩;rw [show (befs (o'::l) acc).getD d []=acc.getD d [] from (yl8 (o'::l) acc d).2 hdl];exact hi
       . simp [List.getD,List.getElem?_eq_none (show acc.length<=d by omega)] at hi
   . rintro (h | ⟨d,hd,hdl,hi⟩)
     . exact .inl h
     . refine .inr ⟨d,hd,?_⟩;rw [show (befs (o'::l) acc).getD d []=acc.getD d [] from (yl8 (o'::l) acc d).2 hdl] at hi;exact hi
  | succ j=>
   have:=ih (acc++[(direct o'++(direct o').flatMap fun d=>acc.getD d []).eraseDups]) j o (by simpa using h) i
   simp only [List.length_append,List.length_cons,List.length_nil,Nat.zero_add] at this;simp only [befs];rw [show acc.length+(j+1)=acc.length+1+j by omega];exact this
theorem wi5:∀(l:List Oper) (k:Nat),vwe k l=true->∀(j:Nat) (o:Oper),l[j]? = some o->∀ d∈direct o,d<k+j
 | [],k,_,j,o,h=>by simp at h
 | o'::l,k,h,j,o,ho=>by
  simp only [vwe,Bool.and_eq_true] at h
  cases j with
  | zero=>
   simp at ho;subst ho;intro d hd
   have:=(List.all_eq_true.1 h.1) d hd
   simpa using this
  | succ j=>
   intro d hd
   have:=wi5 l (k+1) h.2 j o (by simpa using ho) d hd
   omega
theorem wky : ∀ (recs : List SR) (σ : List AV) (k : Nat) (s : SR), recs[k]? = some s → (vuq recs σ)[k]? = some (s, st recs σ (fun _ => true) k) := by
 have gen:∀(recs pre:List SR) (σ0:List AV) (k:Nat) (s:SR),recs[k]? = some s->(vuq recs (st (pre++recs) σ0 (fun _=>true) pre.length))[k]? = some (s,st (pre++recs) σ0 (fun _=>true) (pre.length+k)):=by
  intro recs
  induction recs with
  | nil=>intro pre σ0 k s h;simp at h
  | cons r recs ih=>
   intro pre σ0 k s h
   cases k with
   | zero=>simp at h;subst h;rfl
   | succ k=>
    have h':recs[k]? = some s:=by simpa using h
    have:=ih (pre++[r]) σ0 k s h'
    simp only [List.append_assoc,List.cons_append,List.nil_append,List.length_append,List.length_cons,List.length_nil,Nat.zero_add] at this
    have hst:st (pre++r::recs) σ0 (fun _=>true) (pre.length+1)=app r.eff (st (pre++r::recs) σ0 (fun _=>true) pre.length):=by
     show (if true then _ else _)=_;simp [List.getD]
    rw [hst] at this;simp only [vuq,List.getElem?_cons_succ];rw [this,show pre.length+1+k=pre.length+(k+1) by omega]
 intro recs σ k s h
 have:=gen recs [] σ k s h
 simpa [st] using this
theorem yd0 (bs:List (List Nat)):∀(l before:List (SR×List AV)) (j0:Nat),yaf bs j0 before l=true->j0=before.length->
 ∀(i j:Nat) (x y:SR×List AV),i<j->j0<=j->(before++l)[i]? = some x->(before++l)[j]? = some y->i∈bs.getD j []\/xef x.1 y.1 x.2 y.2=true:=by
 intro l
 induction l with
 | nil=>
  intro before j0 _ hj0 i j x y hij hj hx hy
  have:=(List.getElem?_eq_some_iff.1 hy).1
  simp at this;omega
 | cons z l ih=>
  intro before j0 h hj0 i j x y hij hj hx hy;simp only [yaf,Bool.and_eq_true] at h;by_cases e:j=j0
  . subst e;subst hj0;rw [List.getElem?_append_right (Nat.le_refl _)] at hy;simp at hy;subst hy;rw [List.getElem?_append_left hij] at hx
    have hm:(x,i)∈before.zipIdx:=by
     rw [List.mem_zipIdx_iff_getElem?];simpa using hx
    have:=(List.all_eq_true.1 h.1) (x,i) hm
    simp only [Bool.or_eq_true,List.contains_iff_mem] at this;simpa using this
  . refine ih (before++[z]) (j0+1) h.2 (by simp [hj0]) i j x y hij (by omega) ?_ ?_
    . simpa using hx
    . simpa using hy
theorem v0b {l:List Oper} {recs:List SR} {σ0:List AV} (hlen:recs.length=l.length) (h:indep l recs σ0=true):xq0 recs σ0 l.length (fun j=>(befs l []).getD j []):=by
 simp only [indep,Bool.and_eq_true] at h;obtain ⟨⟨h1,h2⟩,h3⟩:=h
 have hget:∀ j,j<recs.length->recs[j]? = some (recs.getD j (⟨[],[],[]⟩:SR)):=fun j hj=>by simp [List.getD,List.getElem?_eq_getElem hj]
 refine ⟨?_,fun j hj x hx=>?_,fun i j hij hj hb=>?_⟩
 . intro j
   induction j using Nat.strongRecOn with
   | _ j ih =>
    intro i hi;by_cases hj:j<l.length
    . have hs:=(ygp l [] j l[j] (List.getElem?_eq_getElem hj) i).1 (by simpa using hi);have he:=wi5 l 0 h1 j l[j] (List.getElem?_eq_getElem hj)
      rcases hs with hd | ⟨d,hd,hdl,hi'⟩
      . have:=he i hd;omega
      . have h4:=he d hd;have h5:=ih d (by omega) i hi';omega
    . simp [List.getD,List.getElem?_eq_none (show (befs l []).length<=j by rw [zao];simp;omega)] at hi
 . have hm:recs.getD j (⟨[],[],[]⟩:SR)∈recs:=List.mem_of_getElem? (hget j (by omega))
   have:=(List.all_eq_true.1 ((List.all_eq_true.1 h2) _ hm)) x hx
   simpa using this
 . have hi':=wky recs σ0 i _ (hget i (by omega));have hj':=wky recs σ0 j _ (hget j (by omega));exact (yd0 (befs l []) (vuq recs σ0) [] 0 h3 rfl i j _ _ hij (Nat.zero_le _) (by simpa using hi') (by simpa using hj')).resolve_left hb
theorem RunD.chain {ops:Array Oper} {l:List Oper} {σ0:List AV} {K:List AV->Prop}:∀(r pre:List Oper) (acc:List SR) (σ:List AV),RunD P ops l σ0 r acc σ K->pre++r=l->acc.length=pre.length->
 σ=st acc σ0 (fun _=>true) acc.length->(∀(j:Nat) (o:Oper) (s:SR),pre[j]? = some o->acc[j]? = some s->GStep P ops o (st acc σ0 (fun _=>true) j) s.rd s.tk s.eff)->
 ∃ recs:List SR,recs.length=l.length/\indep l recs σ0=true/\K (st recs σ0 (fun _=>true) recs.length)/\∀(j:Nat) (o:Oper) (s:SR),l[j]? = some o->recs[j]? = some s->GStep P ops o (st recs σ0 (fun _=>true) j) s.rd s.tk s.eff:=by
 intro r
 induction r with
 | nil=>
  intro pre acc σ h hl hlen hσ hsteps;simp only [List.append_nil] at hl;subst hl;exact ⟨acc,hlen,h.1,by rw [<-hσ];exact h.2,hsteps⟩
 | cons o r ih=>
  intro pre acc σ h hl hlen hσ hsteps;obtain ⟨rd,tk,eff,hg,hr⟩:=h
  have hpre:∀ n,n<=acc.length->st (acc++[(⟨rd,tk,eff⟩:SR)]) σ0 (fun _=>true) n=st acc σ0 (fun _=>true) n:=by
   intro n
   induction n with
   | zero=>intro _;rfl
   | succ n ihn=>
    intro hn;show (if true then app ((acc++[(⟨rd,tk,eff⟩:SR)]).getD n (⟨[],[],[]⟩:SR)).eff _ else _)=(if true then app (acc.getD n (⟨[],[],[]⟩:SR)).eff _ else _);rw [ihn (by omega)];simp [List.getD,List.getElem?_append_left (show n<acc.length by omega)]
  refine ih (pre++[o]) (acc++[⟨rd,tk,eff⟩]) (app eff σ) hr (by rw [<-hl];simp) (by simp [hlen]) ?_ ?_
  . simp only [List.length_append,List.length_cons,List.length_nil];show _=(if true then app ((acc++[(⟨rd,tk,eff⟩:SR)]).getD acc.length (⟨[],[],[]⟩:SR)).eff (st _ σ0 _ acc.length) else _);rw [hpre acc.length (Nat.le_refl _),hσ];simp [List.getD]
  . intro j o' s ho hs;by_cases e:j<pre.length
    . rw [List.getElem?_append_left e] at ho;rw [List.getElem?_append_left (by omega)] at hs;rw [hpre j (by omega)];exact hsteps j o' s ho hs
    . have hj:j=pre.length:=by
       have:=(List.getElem?_eq_some_iff.1 ho).1
       simp at this;omega
      subst hj;simp at ho;subst ho;rw [<-hlen] at hs ⊢;simp at hs;subst hs;rw [hpre _ (Nat.le_refl _),<-hσ];exact hg
theorem xdm {ops:Array Oper} {recs:List SR} {σ0:List AV} (hind:xq0 recs σ0 ops.size (fun j=>(befs ops.toList []).getD j [])) (hlen:recs.length=ops.size) (hedge:vwe 0 ops.toList=true)
 (hsteps:∀(j:Nat) (o:Oper) (s:SR),ops.toList[j]? = some o->recs[j]? = some s->GStep P ops o (st recs σ0 (fun _=>true) j) s.rd s.tk s.eff) {E:Env} {Q:Exit->Act->World->Prop}
 (hQ:∀ a w,Rel E (st recs σ0 (fun _=>true) ops.size) a w->Q .normal a w):∀(fuel:Nat) (listed:Array Bool) (a:Act) (w:World),listed.size=ops.size->
   (listed.toList.filter (! ·)).length<=fuel->(∀ k,listed.getD k false=true->∀ i∈(befs ops.toList []).getD k [],listed.getD i false=true)->
   Rel E (st recs σ0 (fun i=>listed.getD i false) ops.size) a w->wpAny P .any ops Q fuel listed a w:=by
 have done:∀(listed:Array Bool),listed.size=ops.size->Region.ready .any ops listed=[]->∀ i,i<ops.size->listed.getD i false=true:=by
  intro listed hsz hr i
  induction i using Nat.strongRecOn with
  | _ i ih =>
   intro hi
   cases hx:listed.getD i false with
   | true=>rfl
   | false=>
    exfalso
    have hmem:i∈Region.ready .any ops listed:=by
     rw [mem_ready];refine ⟨?_,ops[i],by simp [hi],fun e he hb=>?_⟩
     . simp only [Array.getD_eq_getD_getElem?,Array.getElem?_eq_getElem (show i<listed.size by omega),Option.getD_some] at hx ⊢;exact hx
     . have hd:e.on∈direct ops[i]:=List.mem_map.2 ⟨e,by simp [List.mem_filter,hb];exact he,rfl⟩
       have:=wi5 ops.toList 0 hedge i ops[i] (by simp [hi]) e.on hd
       exact ih e.on (by omega) (by omega)
    rw [hr] at hmem
    cases hmem
 intro fuel
 induction fuel with
 | zero=>
  intro listed a w hsz hf hcl hR
  have hall:∀ i,i<ops.size->listed.getD i false=true:=fun i hi=>by
   have hnil:listed.toList.filter (! ·)=[]:=List.eq_nil_of_length_eq_zero (by omega);rw [List.filter_eq_nil_iff] at hnil
   have:=hnil listed[i] (by simp)
   simp only [Bool.not_eq_true',Bool.not_eq_false] at this;simp [show i<listed.size by omega,this]
  have hready:Region.ready .any ops listed=[]:=by
   cases hr:Region.ready .any ops listed with
   | nil=>rfl
   | cons j _=>
    exfalso
    have hj:j∈Region.ready .any ops listed:=by rw [hr];simp
    obtain ⟨h1,o,ho,_⟩:=mem_ready.1 hj;have hjl:j<ops.size:=(Array.getElem?_eq_some_iff.1 ho).1
    have:=hall j hjl
    simp only [Array.getD_eq_getD_getElem?,Array.getElem?_eq_getElem (show j<listed.size by omega),Option.getD_some] at this h1;rw [this] at h1;cases h1
  refine ⟨hready,hQ a w ?_⟩;rw [<-v5p recs σ0 ops.size (fun i hi=>hall i hi)];exact hR
 | succ fuel ih=>
  intro listed a w hsz hf hcl hR;refine ⟨fun hready=>hQ a w ?_,fun j hj=>?_⟩
  . rw [<-v5p recs σ0 ops.size (fun i hi=>done listed hsz hready i hi)];exact hR
  . obtain ⟨h1,o,ho,hall⟩:=mem_ready.1 hj;have hjl:j<ops.size:=(Array.getElem?_eq_some_iff.1 ho).1
    have hout:listed.getD j false=false:=by
     simp only [Array.getD_eq_getD_getElem?,Array.getElem?_eq_getElem (show j<listed.size by omega),Option.getD_some] at h1 ⊢;exact h1
    have hdir:∀ d∈direct o,listed.getD d false=true:=fun d hd=>by
     obtain ⟨e,he,rfl⟩:=List.mem_map.1 hd;rw [List.mem_filter] at he;exact hall e (by simpa using he.1) he.2
    have hnext:Next (fun j=>(befs ops.toList []).getD j []) (fun i=>listed.getD i false) j:=by
     refine ⟨hcl,hout,fun i hi=>?_⟩;have hs:=(ygp ops.toList [] j o (by simpa using ho) i).1 (by simpa using hi)
     rcases hs with hd | ⟨d,hd,_,hi'⟩
     . exact hdir i hd
     . exact hcl d (hdir d hd) i hi'
    have hs:recs[j]? = some (recs.getD j (⟨[],[],[]⟩:SR)):=by simp [List.getD,List.getElem?_eq_getElem (show j<recs.length by omega)]
    have hg:=hsteps j o _ (by simpa using ho) hs;have hag:=hnext.agree hind hjl;have hstep:=hg.2 E _ a w hag (fun t ht i hi=>hg.1 t ht i (hnext.tok hind hjl ht hi)) hR (wpAny P .any ops Q fuel (listed.setIfInBounds j true)) Q ?_
    . unfold wpOp;rw [ho];dsimp only
      split
      . rename_i hw;rw [if_pos hw] at hstep;exact .inl hstep
      . rename_i hw;rw [if_neg hw] at hstep;exact hstep
    . intro a' w' hR';rw [hnext.step hind hjl] at hR'
      have hX:∀ i,(listed.setIfInBounds j true).getD i false=(listed.getD i false||i==j):=fun i=>by
       by_cases e:i=j
       . subst e;simp [show i<listed.size by omega]
       . simp only [Array.getD_eq_getD_getElem?,Array.getElem?_setIfInBounds_ne (Ne.symm e)];simp [e]
      refine ih _ a' w' (by simpa using hsz) ?_ ?_ ?_
      . have hcount:∀(l:List Bool) (j:Nat),l[j]? = some false->((l.set j true).filter (! ·)).length+1=(l.filter (! ·)).length:=by
         intro l
         induction l with
         | nil=>intro j h;simp at h
         | cons b l ihl=>
          intro j h
          cases j with
          | zero=>simp at h;subst h;simp
          | succ j=>
           have:=ihl j (by simpa using h)
           cases b<;>simp<;>omega
        have hjb:listed.toList[j]? = some false:=by
         simp only [Array.getD_eq_getD_getElem?,Array.getElem?_eq_getElem (show j<listed.size by omega),Option.getD_some] at hout;simp [Array.getElem?_eq_getElem (show j<listed.size by omega),hout]
        have:=hcount listed.toList j hjb
        simp only [Array.toList_setIfInBounds];omega
      . intro k hk i hi;rw [hX] at hk ⊢;exact hnext.grow k hk i hi
      . rw [v5p recs σ0 ops.size (fun i _=>hX i)];exact hR'
theorem wo1 {ops:Array Oper} {σ:List AV} {E:Env} {Q:Exit->Act->World->Prop} {K:List AV->Prop} {id:Nat} (hm:P.follows .mixedOrders=true) (hQ:∀ σ a w,K σ->Rel E σ a w->Q .normal a w)
 (h:RunD P ops ops.toList σ ops.toList [] σ K) {a:Act} {w:World} (hR:Rel E σ a w):(Code.region id ops true).wp P Q a w:=by
 obtain ⟨recs,hlen,hind,hK,hsteps⟩:=RunD.chain ops.toList [] [] σ h rfl rfl rfl (fun j o s ho=>by simp at ho)
 have hedge:vwe 0 ops.toList=true:=by
  simp only [indep,Bool.and_eq_true] at hind;exact hind.1.1
 have hI:=v0b hlen hind;simp only [Array.length_toList] at hlen hI;refine wp_region_any hm (xdm hI hlen hedge hsteps (fun a w hR=>hQ _ a w (by rw [hlen] at hK;exact hK) hR) ops.size _ a _ (by simp) (by simp) ?_ ?_)
 . intro k hk;exfalso;rw [Array.getD_eq_getD_getElem?] at hk;by_cases hk':k<ops.size
   . simp [hk'] at hk
   . rw [Array.getElem?_eq_none (by simp;omega)] at hk
     cases hk
 . have hb:Below w.heap.size w { w with drawn:=w.drawn+1 }:=(Below.refl _ w).drew
   have h0:st recs σ (fun i=>(Array.replicate ops.size false).getD i false) ops.size=σ:=by
    have:st recs σ (fun i=>(Array.replicate ops.size false).getD i false) ops.size=st recs σ (fun _=>false) ops.size:=v5p recs σ ops.size (fun i hi=>by simp [hi])
    rw [this]
    have:∀ n,st recs σ (fun _=>false) n=σ:=fun n=>by
     induction n with
     | zero=>rfl
     | succ n ih=>show (if false then _ else _)=_;exact ih
    exact this _
   rw [h0];exact hR.below hb
end Go.Slot
