/- The proof, part Y25: 1b, Iy, P1, P5, Ir, P6, P7. -/
import Derived.Test.YtocdljjhobaabaaGreatDoorY24
import Derived.Test.YtocdljjhobaabaaGreatDoorY15
import Derived.Test.YtocdljjhobaabaaGreatDoorY23
import Derived.Test.YtocdljjhobaabaaGreatDoorY22
import Derived.Test.YtocdljjhobaabaaGreatDoorY18
namespace Go.Hp.T
open Go Go.RowKit Go.Slot Go.Hp Go.Slot.T
set_option maxRecDepth 10000
theorem Ex.wcm {S:Type} {g:S->Ex->S×Bool} {P:S->Prop} {R:Ex->S->Prop}:∀(l:List Ex),
 (∀ z∈l,∀ t,P t->(z.anyS g t).2=false->P (z.anyS g t).1/\(∀ y,Ex.Nd y z->R y (z.anyS g t).1)/\(∀ y,R y t->R y (z.anyS g t).1))->
 ∀ t,P t->(Ex.y4w g l t).2=false->P (Ex.y4w g l t).1/\(∀ z∈l,∀ y,Ex.Nd y z->R y (Ex.y4w g l t).1)/\(∀ y,R y t->R y (Ex.y4w g l t).1)
 | [],_,t,hP,_=>by rw [Ex.y4w];exact ⟨hP,(fun _ h=>by cases h),fun _ h=>h⟩
 | z::l,hz,t,hP,h=>by
  rw [Ex.y4w] at h ⊢
  cases hr:z.anyS g t with
  | mk t1 b=>
   have h1:=hz z (by simp) t hP;rw [hr] at h1 h
   cases b with
   | true=>cases h
   | false=>
    obtain ⟨a1,a2,a3⟩:=h1 rfl;obtain ⟨b1,b2,b3⟩:=Ex.wcm l (fun z hz'=>hz z (by simp [hz'])) t1 a1 h;refine ⟨b1,fun w hw y hy=>?_,fun y hy=>b3 y (a3 y hy)⟩
    cases List.mem_cons.1 hw with
    | inl e=>subst e;exact b3 y (a2 y hy)
    | inr e=>exact b2 w e y hy
theorem Ex.z2s {S:Type} {g:S->Ex->S×Bool} {P:S->Prop} {R:Ex->S->Prop}:∀ x:Ex,
 (∀ t y,Ex.Nd y x->P t->(g t y).2=false->P (g t y).1/\R y (g t y).1/\(∀ z,R z t->R z (g t y).1))->
 ∀ t,P t->(x.anyS g t).2=false->P (x.anyS g t).1/\(∀ y,Ex.Nd y x->R y (x.anyS g t).1)/\(∀ y,R y t->R y (x.anyS g t).1):=by
 refine Ex.ind (fun x ih hg t hP h=>?_);rw [Ex.zvm] at h ⊢;have h0:=hg t x .here hP
 cases hr:g t x with
 | mk t1 b=>
  rw [hr] at h h0
  cases b with
  | true=>cases h
  | false=>
   obtain ⟨a1,a2,a3⟩:=h0 rfl;obtain ⟨b1,b2,b3⟩:=Ex.wcm x.args (fun z hz t' hP' h'=>ih z hz (fun t'' y hy=>hg t'' y (.arg hz hy)) t' hP' h') t1 a1 h;refine ⟨b1,fun y hy=>?_,fun y hy=>b3 y (a3 y hy)⟩
   cases hy with
   | here=>exact b3 _ a2
   | arg hz h2=>exact b2 _ hz y h2
theorem Ex.zcq {S:Type} {g:S->Ex->S×Bool} {P:S->Prop} {C:Prop}:∀(l:List Ex),
 (∀ z∈l,∀ t,P t->(z.anyS g t).2=true->C)->(∀ z∈l,∀ t,P t->(z.anyS g t).2=false->P (z.anyS g t).1)->
 ∀ t,P t->(Ex.y4w g l t).2=true->C
 | [],_,_,t,_,h=>by rw [Ex.y4w] at h;cases h
 | z::l,hz,hz2,t,hP,h=>by
  rw [Ex.y4w] at h
  cases hr:z.anyS g t with
  | mk t1 b=>
   have h1:=hz z (by simp) t hP;have h2:=hz2 z (by simp) t hP;rw [hr] at h1 h2 h
   cases b with
   | true=>exact h1 rfl
   | false=>exact Ex.zcq l (fun z hz'=>hz z (by simp [hz'])) (fun z hz'=>hz2 z (by simp [hz'])) t1 (h2 rfl) h
theorem Ex.x7p {S:Type} {g:S->Ex->S×Bool} {P:S->Prop} {C:Prop}:∀ x:Ex,
 (∀ t y,Ex.Nd y x->P t->(g t y).2=true->C)->(∀ t y,Ex.Nd y x->P t->(g t y).2=false->P (g t y).1)->
 ∀ t,P t->(x.anyS g t).2=true->C:=by
 refine Ex.ind (fun x ih hg hg2 t hP h=>?_);rw [Ex.zvm] at h
 cases hr:g t x with
 | mk t1 b=>
  have h0:=hg t x .here hP;have h2:=hg2 t x .here hP;rw [hr] at h h0 h2
  cases b with
  | true=>exact h0 rfl
  | false=>
   refine Ex.zcq x.args (fun z hz t' hP' h'=>ih z hz (fun t'' y hy=>hg t'' y (.arg hz hy)) (fun t'' y hy=>hg2 t'' y (.arg hz hy)) t' hP' h') (fun z hz t' hP' h'=>?_) t1 (h2 rfl) h;exact (Ex.z2s (R:=fun _ _=>True) z (fun t'' y hy hp hf=>⟨hg2 t'' y (.arg hz hy) hp hf,trivial,fun _ _=>trivial⟩) t' hP' h').1
theorem Ex.xy3 {S:Type} {g:S->Ex->S×Bool} {P:S->Prop}:∀ x:Ex,
 (∀ t y,Ex.Nd y x->P t->P (g t y).1)->∀ t,P t->P (x.anyS g t).1:=by
 have hL:∀ l:List Ex,(∀ z∈l,∀ t,P t->P (z.anyS g t).1)->∀ t,P t->P (Ex.y4w g l t).1:=by
  intro l
  induction l with
  | nil=>intro _ t h;rw [Ex.y4w];exact h
  | cons z l ih=>
   intro hz t h;rw [Ex.y4w];have h1:=hz z (by simp) t h
   cases hr:z.anyS g t with
   | mk t1 b=>
    rw [hr] at h1
    cases b with
    | true=>exact h1
    | false=>exact ih (fun z hz'=>hz z (by simp [hz'])) t1 h1
 refine Ex.ind (fun x ih hg t h=>?_);rw [Ex.zvm];have h1:=hg t x .here h
 cases hr:g t x with
 | mk t1 b=>
  rw [hr] at h1
  cases b with
  | true=>exact h1
  | false=>exact hL x.args (fun z hz t' h'=>ih z hz (fun t'' y hy=>hg t'' y (.arg hz hy)) t' h') t1 h1
def x0t (F:List Fnc) (i j:Nat):Prop:=∃ y,Ex.Nd y (F.getD i default).body/\y.op=3/\(findF F y.name).toNat=j
inductive Path (E:Nat->Nat->Prop):Nat->Nat->Prop
 | one {i j:Nat} (h:E i j):Path E i j
 | more {i j k:Nat} (h:Path E i j) (h2:E j k):Path E i k
theorem Path.rank {E:Nat->Nat->Prop} {r:Nat->Nat} (hr:∀ i j,E i j->r j<r i) {i j:Nat} (h:Path E i j):r j<r i:=by
 induction h with
 | one h=>exact hr _ _ h
 | more _ h2 ih=>exact Nat.lt_trans (hr _ _ h2) ih
def stG (F:List Fnc) (st:List Int):Prop:=st.length=F.length/\∃ r:Nat->Nat,∀ i,st.getD i 0=2->∀ j,x0t F i j->st.getD j 0=2/\r j<r i
def stLe (s t:List Int):Prop:=∀ i,(s.getD i 0=2->t.getD i 0=2)/\(s.getD i 0=1↔t.getD i 0=1)
theorem stLe.refl (s:List Int):stLe s s:=fun _=>⟨id,Iff.rfl⟩
theorem stLe.trans {a b c:List Int} (h:stLe a b) (h2:stLe b c):stLe a c:=fun i=>⟨fun e=>(h2 i).1 ((h i).1 e),(h i).2.trans (h2 i).2⟩
theorem whv {st:List Int} {i:Nat} (h:i<st.length) (v:Int):(st.set i v).getD i 0=v:=by simp [h]
theorem getD_set_ne {st:List Int} {i j:Nat} (h:j≠i) (v:Int):(st.set i v).getD j 0=st.getD j 0:=by
 simp [List.getElem?_set_ne (Ne.symm h)]
def wlq (st:List Int):Nat:=st.countP fun s=>decide (s=0)
theorem wqn {v:Int} (hv:v≠0):∀{st:List Int} {i:Nat},i<st.length->st.getD i 0=0->wlq (st.set i v)+1=wlq st
 | [],i,h,_=>by simp at h
 | s::st,0,_,h0=>by
  simp only [List.getD_cons_zero] at h0;subst h0;simp [wlq,hv]
 | s::st,i+1,h,h0=>by
  have ih:=wqn hv (st:=st) (i:=i) (by simpa using h) (by simpa using h0);unfold wlq at ih ⊢;rw [List.set_cons_succ,List.countP_cons,List.countP_cons];omega
theorem za5 {v:Int} (hv:v≠0):∀{st:List Int} {i:Nat},wlq (st.set i v)<=wlq st
 | [],_=>by simp [wlq]
 | s::st,0=>by
  unfold wlq;rw [List.set_cons_zero,List.countP_cons,List.countP_cons];simp [hv]
 | s::st,i+1=>by
  have ih:=za5 hv (st:=st) (i:=i);unfold wlq at ih ⊢;rw [List.set_cons_succ,List.countP_cons,List.countP_cons];omega
theorem zqj (F : List Fnc) : ∀ (k : Nat) (st : List Int) (i : Int), (thrF F k st i).1.length = st.length ∧ wlq (thrF F k st i).1 ≤ wlq st
 | 0,_,_=>by rw [thrF];exact ⟨rfl,Nat.le_refl _⟩
 | k + 1, st, i => by
  rw [thrF]
  cases decide (st.getD i.toNat 0=0) with
  | false=>exact ⟨rfl,Nat.le_refl _⟩
  | true=>
   simp only [Bool.not_true,cond_false]
   have:=Ex.xy3 (P:=fun t:List Int=>t.length=st.length/\wlq t<=wlq st) (g:=fun t y=>bif decide (y.op=3) then thrF F k t (findF F y.name) else (t,false)) (F.getD i.toNat default).body (fun t y _ ht=>by
    cases decide (y.op=3) with
    | false=>exact ht
    | true=>
     have:=zqj F k t (findF F y.name)
     exact ⟨this.1.trans ht.1,Nat.le_trans this.2 ht.2⟩) (st.set i.toNat 1) ⟨by simp,za5 (by decide)⟩
   refine ⟨by rw [List.length_set];exact this.1,Nat.le_trans (za5 (by decide)) this.2⟩
theorem wuh {α:Type} (p:α->Bool):∀ l:List α,l≠[]->(idxF p l).toNat<l.length
 | [],h=>absurd rfl h
 | [x],_=>by unfold idxF idxF;cases p x<;>simp
 | x::y::l,_=>by
  have ih:=wuh p (y::l) (by simp);have h3:=zah p (y::l);rw [idxF]
  cases p x with
  | true=>simp
  | false=>
   rw [cond_false];by_cases h:idxF p (y::l) = -1
   . simp [h]
   . rw [decide_eq_false h,cond_false];rw [List.length_cons];omega
theorem x4n {F:List Fnc} {i:Nat} (h:i<F.length) (s:ByteArray):(findF F s).toNat<F.length:=wuh _ F (fun e=>by subst e;simp at h)
abbrev thrG (F:List Fnc) (k:Nat):List Int->Ex->List Int×Bool:=fun t y=>bif decide (y.op=3) then thrF F k t (findF F y.name) else (t,false)
theorem v00:∀{l:List Nat} {x:Nat},x∈l->x<=l.sum
 | [],_,h=>by cases h
 | y::l,x,h=>by
  rw [List.sum_cons]
  rcases List.mem_cons.1 h with e | e
  . omega
  . have:=v00 e
    omega
theorem zwe {F:List Fnc}:∀(k:Nat) (st:List Int) (i:Int),i.toNat<F.length->wlq st<k->stG F st->(thrF F k st i).2=false->(∀ j,st.getD j 0=0\/st.getD j 0=1\/st.getD j 0=2)->
 stG F (thrF F k st i).1/\stLe st (thrF F k st i).1/\(thrF F k st i).1.getD i.toNat 0=2/\(∀ j,(thrF F k st i).1.getD j 0=0\/(thrF F k st i).1.getD j 0=1\/(thrF F k st i).1.getD j 0=2)
 | 0,_,_,_,hk,_,_,_=>by omega
 | k + 1, st, i, hi, hk, hG, h, hv => by
  obtain ⟨hl,r,hr⟩:=hG
  have hil:i.toNat<st.length:=by omega
  rw [thrF] at h ⊢;by_cases h0:st.getD i.toNat 0=0
  . rw [decide_eq_true h0] at h ⊢;simp only [Bool.not_true,cond_false] at h ⊢;have hz:=wqn (v:=1) (by decide) hil h0
    have g1:stG F (st.set i.toNat 1):=⟨by simpa using hl,r,fun a ha j hj=>by
     have hai:a≠i.toNat:=fun e=>by rw [e,whv hil] at ha;omega
     rw [getD_set_ne hai] at ha;obtain ⟨e1,e2⟩:=hr a ha j hj;refine ⟨?_,e2⟩;rw [getD_set_ne (fun e=>by rw [e,h0] at e1;omega)]
     exact e1⟩
    have v1:∀ j,(st.set i.toNat 1).getD j 0=0\/(st.set i.toNat 1).getD j 0=1\/(st.set i.toNat 1).getD j 0=2:=fun j=>by
     by_cases e:j=i.toNat
     . rw [e,whv hil];omega
     . rw [getD_set_ne e];exact hv j
    have key:=Ex.z2s (g:=thrG F k) (P:=fun t=>stG F t/\stLe (st.set i.toNat 1) t/\wlq t<k/\∀ j,t.getD j 0=0\/t.getD j 0=1\/t.getD j 0=2)
     (R:=fun y t=>y.op=3->t.getD (findF F y.name).toNat 0=2) (F.getD i.toNat default).body (fun t y _ hP hf=>by
       obtain ⟨p1,p2,p3,p4⟩:=hP;unfold thrG at hf ⊢;by_cases h3:y.op=3
       . rw [decide_eq_true h3,cond_true] at hf ⊢;obtain ⟨q1,q2,q3,q4⟩:=zwe k t (findF F y.name) (x4n hi _) p3 p1 hf p4;refine ⟨⟨q1,p2.trans q2,Nat.lt_of_le_of_lt (zqj F k t _).2 p3,q4⟩,fun _=>q3,fun z hz e=>(q2 _).1 (hz e)⟩
       . rw [decide_eq_false h3,cond_false]
         exact ⟨⟨p1,p2,p3,p4⟩,fun e=>absurd e h3,fun z hz=>hz⟩) (st.set i.toNat 1) ⟨g1,stLe.refl _,by omega,v1⟩ h
    obtain ⟨⟨⟨l2,r2,hr2⟩,a2,_,a4⟩,b2,_⟩:=key;generalize ((F.getD i.toNat default).body.anyS (thrG F k) (st.set i.toNat 1)).1=t at *
    have hit:i.toNat<t.length:=by omega
    have hi1:t.getD i.toNat 0=1:=((a2 i.toNat).2).1 (whv hil 1);refine ⟨⟨by simpa using l2,fun a=>if a=i.toNat then 1+((List.range F.length).map r2).sum else r2 a,fun a ha j hj=>?_⟩,fun j=>?_,whv hit 2,fun j=>?_⟩
    . by_cases e:a=i.toNat
      . subst e;obtain ⟨y,hy,h3,rfl⟩:=hj;have e2:=b2 y hy h3
        have hne:(findF F y.name).toNat≠i.toNat:=fun e=>by rw [e,hi1] at e2;omega
        refine ⟨by rw [getD_set_ne hne];exact e2,?_⟩;dsimp only;rw [if_pos rfl,if_neg hne]
        have:=v00 (List.mem_map_of_mem (f:=r2) (List.mem_range.2 (x4n hi y.name)))
        omega
      . rw [getD_set_ne e] at ha;obtain ⟨e1,e2⟩:=hr2 a ha j hj
        have hne:j≠i.toNat:=fun e=>by rw [e,hi1] at e1;omega
        dsimp only;rw [getD_set_ne hne,if_neg e,if_neg hne];exact ⟨e1,e2⟩
    . by_cases e:j=i.toNat
      . rw [e,whv hit,h0];omega
      . rw [getD_set_ne e,<-getD_set_ne (st:=st) e 1];exact a2 j
    . by_cases e:j=i.toNat
      . rw [e,whv hit];omega
      . rw [getD_set_ne e];exact a4 j
  . rw [decide_eq_false h0] at h ⊢;simp only [Bool.not_false,cond_true,decide_eq_false_iff_not] at h ⊢
    have:=hv i.toNat
    exact ⟨⟨hl,r,hr⟩,stLe.refl _,by omega,hv⟩
theorem wdh {F:List Fnc}:∀(k:Nat) (st:List Int) (i:Int),i.toNat<F.length->wlq st<k->stG F st->(∀ j,st.getD j 0=0\/st.getD j 0=1\/st.getD j 0=2)->(∀ j,st.getD j 0=1->Path (x0t F) j i.toNat)->(thrF F k st i).2=true->∃ c,Path (x0t F) c c
 | 0,_,_,_,hk,_,_,_,_=>by omega
 | k + 1, st, i, hi, hk, hG, hv, ho, h => by
  obtain ⟨hl,r,hr⟩:=hG
  have hil:i.toNat<st.length:=by omega
  rw [thrF] at h;by_cases h0:st.getD i.toNat 0=0
  . rw [decide_eq_true h0] at h;simp only [Bool.not_true,cond_false] at h;have hz:=wqn (v:=1) (by decide) hil h0
    have g1:stG F (st.set i.toNat 1):=⟨by simpa using hl,r,fun a ha j hj=>by
     have hai:a≠i.toNat:=fun e=>by rw [e,whv hil] at ha;omega
     rw [getD_set_ne hai] at ha;obtain ⟨e1,e2⟩:=hr a ha j hj;refine ⟨?_,e2⟩;rw [getD_set_ne (fun e=>by rw [e,h0] at e1;omega)]
     exact e1⟩
    have v1:∀ j,(st.set i.toNat 1).getD j 0=0\/(st.set i.toNat 1).getD j 0=1\/(st.set i.toNat 1).getD j 0=2:=fun j=>by
     by_cases e:j=i.toNat
     . rw [e,whv hil];omega
     . rw [getD_set_ne e];exact hv j
    refine Ex.x7p (g:=thrG F k) (P:=fun t=>stG F t/\wlq t<k/\(∀ j,t.getD j 0=0\/t.getD j 0=1\/t.getD j 0=2)/\∀ j,t.getD j 0=1->j=i.toNat\/Path (x0t F) j i.toNat) (F.getD i.toNat default).body (fun t y hy hP ht=>?_) (fun t y _ hP hf=>?_) (st.set i.toNat 1) ⟨g1,by omega,v1,fun j hj=>?_⟩ h
    . unfold thrG at ht;obtain ⟨p1,p2,p3,p4⟩:=hP;by_cases h3:y.op=3
      . rw [decide_eq_true h3,cond_true] at ht;have he:x0t F i.toNat (findF F y.name).toNat:=⟨y,hy,h3,rfl⟩;refine wdh k t (findF F y.name) (x4n hi _) p2 p1 p3 (fun j hj=>?_) ht
        rcases p4 j hj with e | e
        . rw [e];exact .one he
        . exact .more e he
      . rw [decide_eq_false h3,cond_false] at ht;cases ht
    . unfold thrG at hf ⊢;obtain ⟨p1,p2,p3,p4⟩:=hP;by_cases h3:y.op=3
      . rw [decide_eq_true h3,cond_true] at hf ⊢;obtain ⟨q1,q2,_,q4⟩:=zwe k t (findF F y.name) (x4n hi _) p2 p1 hf p3;exact ⟨q1,Nat.lt_of_le_of_lt (zqj F k t _).2 p2,q4,fun j hj=>p4 j ((q2 j).2.2 hj)⟩
      . rw [decide_eq_false h3,cond_false];exact ⟨p1,p2,p3,p4⟩
    . by_cases e:j=i.toNat
      . exact .inl e
      . rw [getD_set_ne e] at hj;exact .inr (ho j hj)
  . rw [decide_eq_false h0] at h;simp only [Bool.not_false,cond_true,decide_eq_true_eq] at h;exact ⟨_,ho _ h⟩
def acyc (F:List Fnc):Prop:=∃ r:Nat->Nat,∀ i,i<F.length->∀ j,x0t F i j->r j<r i
theorem vwd {F:List Fnc} {i j:Nat} (h:x0t F i j):i<F.length:=by
 obtain ⟨y,hy,h3,_⟩:=h;by_cases hi:i<F.length
 . exact hi
 . rw [show F.getD i default=default from by simp [List.getElem?_eq_none (Nat.le_of_not_lt hi)]] at hy
   cases hy with
   | here=>cases h3
   | arg hz _=>cases hz
theorem xxg {F:List Fnc}:∀(n i:Nat) (st:List Int),i+n=F.length->stG F st->(∀ j,st.getD j 0=0\/st.getD j 0=2)->(∀ j,j<i->st.getD j 0=2)->(y38 F n i st=false↔acyc F)
 | 0,i,st,hn,hG,hv,hd=>by
  rw [y38];obtain ⟨hl,r,hr⟩:=hG;exact ⟨fun _=>⟨r,fun a ha j hj=>(hr a (hd a (by omega)) j hj).2⟩,fun _=>rfl⟩
 | n+1,i,st,hn,hG,hv,hd=>by
  rw [y38]
  have hi:((i:Int)).toNat<F.length:=by omega
  have hz:wlq st<F.length+1:=by
   have:=List.countP_le_length (p:=fun s:Int=>decide (s=0)) (l:=st)
   rw [hG.1] at this;exact Nat.lt_succ_of_le this
  have hv3:∀ j,st.getD j 0=0\/st.getD j 0=1\/st.getD j 0=2:=fun j=>by have:=hv j;omega
  cases hr:(thrF F (F.length+1) st i).2 with
  | true=>
   simp only [cond_true];refine ⟨fun h=>(by cases h),fun ⟨r,h⟩=>?_⟩;obtain ⟨c,hc⟩:=wdh (F.length+1) st i hi hz hG hv3 (fun j hj=>by have:=hv j;omega) hr;exact absurd (hc.rank (fun a b hab=>h a (vwd hab) b hab)) (Nat.lt_irrefl _)
  | false=>
   simp only [cond_false];obtain ⟨q1,q2,q3,q4⟩:=zwe (F.length+1) st i hi hz hG hr hv3;refine xxg n (i+1) _ (by omega) q1 (fun j=>?_) (fun j hj=>?_)
   . have h1:=(q2 j).2;have h2:=hv j;have h3:=q4 j;omega
   . by_cases e:j=i
     . subst e;simpa using q3
     . exact (q2 j).1 (hd j (by omega))
end Go.Hp.T
namespace Go.Hp
open Go Go.RowKit Go.Slot
variable {P:Program} {Γ:List (Nat×List Cell)}
theorem xgj.roN (φ:List Nat) {f:FuncId} {η ηs:List SB} {args:List SV} {res:SV} (h:xgj Γ P f ηs args ηs res) (hn:φ.Nodup) (hb:(φ.all fun j=>Nat.blt j η.length)=true) (hp:φ.map (fun j=>η[j]?)=ηs.map (fun x=>some (rnSB (atR φ η.length) x))) :
 xgj Γ P f η (args.map (x09 (atR φ η.length))) η (rnSV (atR φ η.length) res):=by
 have hb':∀ j∈φ,j<η.length:=fun j hj=>by simpa using List.all_eq_true.1 hb j hj
 have hk:=w6y.of hp;have hc:=xgj.frame hn hb' hk (by rw [hk.1];exact Nat.le_refl _) h
 have hput:putR φ η ηs=η:=by
  apply List.ext_getElem?;intro i;by_cases hi2:i<η.length
  . by_cases hi:i∈φ
    . obtain ⟨k,hk2,rfl⟩:=List.getElem_of_mem hi
      have hkl:k<ηs.length:=by rw [hk.1];exact hk2
      have h1:=xjo (ηs':=ηs) hn hb' (List.getElem?_eq_getElem hkl);rw [xbc (List.getElem?_eq_getElem hk2)] at h1;rw [h1];have h2:=congrArg (fun l=>l[k]?) hp;simp only [List.getElem?_map,List.getElem?_eq_getElem hk2,List.getElem?_eq_getElem hkl,Option.map_some] at h2;exact (Option.some.inj h2).symm
    . exact ygg hi2 hi
  . rw [List.getElem?_eq_none (by rw [xdx,hk.1];omega),List.getElem?_eq_none (by omega)]
 rw [hput] at hc;exact hc
theorem xgj.preN {f:FuncId} {ηs ξ:List SB} {args:List SV} {res:SV} (h:xgj Γ P f ηs args ηs res) (hs:∀ r:Nat->Nat,(∀ i,i<ηs.length->r i=i)->ηs.map (rnSB r)=ηs) (ha:args.map (x09 (atR (List.range ηs.length) (ηs++ξ).length))=args) (hr:rnSV (atR (List.range ηs.length) (ηs++ξ).length) res=res):xgj Γ P f (ηs++ξ) args (ηs++ξ) res:=by
 have hc:=xgj.roN (List.range ηs.length) (η:=ηs++ξ) h List.nodup_range (List.all_eq_true.2 fun j hj=>by
  rw [List.mem_range] at hj
  simp only [List.length_append,Nat.blt_eq];omega) (by
  apply List.ext_getElem?;intro i;by_cases hi:i<ηs.length
  . have h1:=congrArg (fun l=>l[i]?) (hs _ (fun i hi=>w1b (N:=(ηs++ξ).length) hi));simp only [List.getElem?_map,List.getElem?_eq_getElem hi,Option.map_some,Option.some.injEq] at h1;simp only [List.getElem?_map,List.getElem?_range hi,List.getElem?_eq_getElem hi,Option.map_some,List.getElem?_append_left hi,h1]
  . simp [List.getElem?_eq_none (show ηs.length<=i by omega)];omega)
 rw [ha,hr] at hc;exact hc
end Go.Hp
namespace Go.Hp
open Go Go.RowKit Go.Slot
section
variable {P:Program} {Γ:List (Nat×List Cell)} {e:List SB} {G:List (Nat×List GhH)} {Q:Exit->Bool->List SV->List SB->Prop} {σ:List SV} {η:List SB}
def v3g (Q:Exit->Bool->List SV->List SB->Prop):Exit->Bool->List SV->List SB->Prop
 | .goto _=>fun _ _ _=>False
 | .normal=>Q .normal
 | .exit id=>Q (.exit id)
 | .ret=>Q .ret
 | .panic c=>Q (.panic c)
 | .outgrown=>Q .outgrown
theorem vix {x:Code}:RH Γ P e G (.scope x) true Q σ η=RH Γ P e G x true (v3g Q) σ η:=by
 show RH Γ P e G x true (fun x=>match x with | .goto _=>fun _ _ _=>False | x=>Q x) σ η=_
 congr 1
 funext x
 cases x<;>rfl
theorem waw:v3g Q .ret=Q .ret:=_root_.id rfl
end
attribute [go_sem ↓] vix waw
end Go.Hp
namespace Go.Hp.T
open Go Go.RowKit Go.Slot Go.Hp
set_option maxRecDepth 10000
structure Tk where
 k:Int
 t:ByteArray
 n:Int
 p:Int
deriving DecidableEq
instance:Inhabited Tk:=⟨⟨0,⟨#[]⟩,0,0⟩⟩
def Tk.C (x:Tk):List Cell:=[cI x.k,cS x.t,cI x.n,cI x.p]
abbrev tkC (x:Tk):List Cell:=[cI x.k,cS x.t,cI x.n,cI x.p]
theorem Tk.C_eq (x:Tk):x.C=tkC x:=_root_.id rfl
attribute [go_sem] Tk.C_eq
def z9d (c:Int):Bool:=decide (c=32)||decide (c=9)||decide (c=10)
def yjn (c:Int):Bool:=[40,41,44,59,58,61,60,43,45,42,47,123,125].contains c
def numV (l:List Int):Int:=l.foldl (fun n c=>10*n+(c-48)) 0
def numO (l:List Int):Bool:=!(decide (l.headD 0=48)&&!decide (l=[48])||decide (13<(l.length:Int))||decide (1099511627776<numV l))
def quoL:List Int->Option (List Int×Nat)
 | []=>none
 | c::l=>bif !yuk c then none else bif decide (c=34) then some ([],1) else bif decide (c=92) then (match l with
  | []=>none
  | d::m=>bif decide (d=34)||decide (d=92) then (quoL m).map (fun r=>(d::r.1,r.2+2)) else none)
  else (quoL l).map (fun r=>(c::r.1,r.2+1))
def w4x (l:List Int):Tk×Nat×Int:=
 bif zlq (l.headD 0) then (bif decide (((l.takeWhile waz).length:Int)<=20) then (⟨0,strOfNums (l.takeWhile waz),0,0⟩,(l.takeWhile waz).length,0) else (default,0,3)) else
 bif isDigit (l.headD 0) then (bif numO (l.takeWhile isDigit) then (⟨1,strOfNums (l.takeWhile isDigit),numV (l.takeWhile isDigit),0⟩,(l.takeWhile isDigit).length,0) else (default,0,3)) else
 bif decide (l.headD 0=34) then (match quoL l.tail with
  | none=>(default,0,2)
  | some (v,n)=>bif decide (400<(v.length:Int)) then (default,0,2) else (⟨2,strOfNums v,0,0⟩,n+1,0)) else
 bif yjn (l.headD 0) then (⟨3,strOfNums (l.take 1),0,0⟩,1,0) else (default,0,10)
def gapL:Nat->List Int->Nat
 | 0,_=>0
 | f+1,l=>bif (l.drop (l.takeWhile z9d).length).headD 0==35 then
  let b:=(l.takeWhile z9d).length+((l.drop (l.takeWhile z9d).length).takeWhile (fun c=>!decide (c=10))).length
  b+gapL f (l.drop b)
  else (l.takeWhile z9d).length
abbrev Sn:=List Tk ⊕ (Nat×Int)
def wgu:Nat->List Int->Nat->Sn
 | 0,_,_=>.inl []
 | f+1,l,at_=>
  let g:=gapL (l.length+1) l
  bif (l.drop g).isEmpty then .inl [] else
  match w4x (l.drop g) with
  | (t,n,e)=>bif decide (¬e=0) then .inr (at_+g,e) else match wgu f (l.drop (g+n)) (at_+g+n) with
   | .inl ts=>.inl ({ t with p:=((at_+g:Nat):Int) }::ts)
   | .inr x=>.inr x
def zna (s:ByteArray):Sn:=bif decide (4000<(s.size:Int)) then .inr (0,6) else wgu (s.size+1) (z1x s) 0
def snR:Sn->AV
 | .inl ts=>.tup [.one (.sl 4 (ts.map Tk.C)),.one (cI 0),.one (cI 0)]
 | .inr (i,e)=>.tup [.one (.sl 4 []),.one (cI i),.one (cI e)]
theorem xhj (s:ByteArray) (i:Nat):w7f s i=((s.data.toList[i]?).getD 0).toNat:=by
 unfold w7f;rw [Array.getElem?_toList]
theorem yw4 (s:ByteArray):z1x s=s.data.toList.map (fun b=>(b.toNat:Int)):=by
 apply List.ext_getElem?;intro i;rw [List.getElem?_map];by_cases h:i<s.size
 . rw [vh2 s i h,xhj]
   have h':i<s.data.toList.length:=by simpa using h
   rw [List.getElem?_eq_getElem h'];rfl
 . have h1:(z1x s).length<=i:=by rw [v54];omega
   have h2:s.data.toList.length<=i:=by
    have:s.data.toList.length=s.size:=by simp
    omega
   rw [List.getElem?_eq_none h1,List.getElem?_eq_none h2];rfl
theorem y3d (s:ByteArray):strOfNums (z1x s)=s:=by
 rw [yw4];show (⟨((s.data.toList.map (fun b=>(b.toNat:Int))).map fun n=>UInt8.ofNat n.toNat).toArray⟩:ByteArray)=s;rw [List.map_map]
 have:(fun n:Int=>UInt8.ofNat n.toNat)∘(fun b:UInt8=>(b.toNat:Int))=id:=by
  funext b;simp
 rw [this,List.map_id]
theorem vgx (s:ByteArray) (i:Nat):z1x (ykb s i)=(z1x s).drop i:=by
 rw [yw4,yw4];show ((s.extract i s.size).data.toList.map _)=_;rw [ByteArray.data_extract,Array.toList_extract,List.extract_eq_take_drop,List.map_take,List.map_drop,List.take_of_length_le];simp
theorem vnf (s:ByteArray) (i:Nat):z1x (zlk s i)=(z1x s).take i:=by
 rw [yw4,yw4];show ((s.extract 0 i).data.toList.map _)=_;rw [ByteArray.data_extract,Array.toList_extract,List.extract_eq_take_drop,List.map_take];simp
theorem zvn (s:ByteArray) (i:Nat):zlk s i=strOfNums ((z1x s).take i):=by rw [<-vnf,y3d]
theorem wbp {α:Type} (p:α->Bool):∀ l:List α,l.takeWhile p=l.take (l.takeWhile p).length
 | []=>rfl
 | a::l=>by
  cases h:p a with
  | true=>rw [List.takeWhile_cons_of_pos h,List.length_cons,List.take_succ_cons,<-wbp p l]
  | false=>rw [List.takeWhile_cons_of_neg (by rw [h];decide)];rfl
theorem wci (p:Int->Bool) (s:ByteArray):zlk s (vhr p s)=strOfNums ((z1x s).takeWhile p):=by
 rw [zvn,wbp p (z1x s)];rfl
theorem vk5 (s:ByteArray) (h:0<s.size):w7f s 0=(z1x s).headD 0:=by
 have:=vh2 s 0 h
 cases hb:z1x s with
 | nil=>rw [hb] at this;cases this
 | cons c l=>rw [hb] at this;cases this;rfl
theorem yme (s:ByteArray) (i:Nat) (h:i<s.size):(z1x s).drop i=w7f s i::(z1x s).drop (i+1):=by
 rw [List.drop_eq_getElem_cons (by rw [v54];exact h)]
 congr 1
 have:=vh2 s i h
 rw [List.getElem?_eq_getElem (by rw [v54];exact h)] at this;exact (Option.some.inj this)
end Go.Hp.T
namespace Go.Hp.T
open Go Go.RowKit Go.Slot Go.Hp Go.Slot.T
open Go.Proofs.Tryz (prog)
attribute [local irreducible] hide RH
set_option maxRecDepth 10000
set_option maxHeartbeats 8000000
variable {Γ:List (Nat×List Cell)}
abbrev rdF (L:List Tk) (a:Nat) (b:Bool):SB:=.box [.dat (.sl 4 (L.map Tk.C)),.dat (cI a),.dat (cB b)] (some 168)
def kdF (L:List Tk) (a:Nat) (b:Bool) (k:Int):Bool:=!b&&(decide ((a:Int)<L.length)&&decide ((L.getD a default).k=k))
def isF (L:List Tk) (a:Nat) (b:Bool) (k:Int) (t:ByteArray):Bool:=!b&&(decide ((a:Int)<L.length)&&(decide ((L.getD a default).k=k)&&seq (L.getD a default).t t))
theorem vgd {L:List Tk} {a:Nat} {b:Bool} {k:Int} {t:ByteArray} (h:isF L a b k t=true):a<L.length/\b=false:=by
 unfold isF at h;simp only [Bool.and_eq_true,decide_eq_true_eq,Bool.not_eq_true'] at h;exact ⟨by omega,h.1⟩
theorem vej {L:List Tk} {a:Nat} {b:Bool} {k:Int} (h:kdF L a b k=true):a<L.length/\b=false:=by
 unfold kdF at h;simp only [Bool.and_eq_true,decide_eq_true_eq,Bool.not_eq_true'] at h;exact ⟨by omega,h.1⟩
theorem cFIs (L:List Tk) (a:Nat) (b:Bool) (k:Int) (t:ByteArray):xgj Γ prog 147 [rdF L a b] [.one (.ptr 0 0),.one (.dat (cI k)),.one (.dat (cS t))] [rdF L a b] (.one (.dat (cB (isF L a b k t)))):=by
 refine xgj.run [] Go.Proofs.Tryz.func147 rfl rfl ?_;simp only [Go.Proofs.Tryz.f147];refine hgR ?_
 repeat' ((first | refine hfk ?_ ?_<;>intros | refine hik ?_)<;>refine hgS ?_)
 all_goals exact StH.yri rfl (by kernel_rfl) (by ((refine bs1 @isF.eq_def ?_;try exact trivial))<;>first | rfl | trivial)
theorem yeq (L:List Tk) (a:Nat) (b:Bool) (k:Int):xgj Γ prog 148 [rdF L a b] [.one (.ptr 0 0),.one (.dat (cI k))] [rdF L a b] (.one (.dat (cB (kdF L a b k)))):=by
 refine xgj.run [] Go.Proofs.Tryz.func148 rfl rfl ?_;simp only [Go.Proofs.Tryz.f148];refine hgR ?_
 repeat' ((first | refine hfk ?_ ?_<;>intros | refine hik ?_)<;>refine hgS ?_)
 all_goals exact StH.yri rfl (by kernel_rfl) (by ((refine bs1 @kdF.eq_def ?_;try exact trivial))<;>first | rfl | trivial)
def skF (L:List Tk) (a:Nat) (b:Bool) (k:Int) (t:ByteArray):Nat:=bif isF L a b k t then a+1 else a
theorem vzj (L:List Tk) (a:Nat) (b:Bool) (k:Int) (t:ByteArray) (hl:L.length<=1073741824):xgj Γ prog 121 [rdF L a b] [.one (.ptr 0 0),.one (.dat (cI k)),.one (.dat (cS t))] [rdF L (skF L a b k t) b] (.one (.dat (cB (isF L a b k t)))):=by
 have c:=cFIs (Γ:=Γ) L a b k t;unfold skF
 cases h:isF L a b k t with
 | true=>
  have hlt:=vgd h;rw [h] at c;refine xgj.run [] Go.Proofs.Tryz.func121 rfl rfl ?_;simp only [Go.Proofs.Tryz.f121];refine hgR ?_
  repeat' ((first | refine hfk ?_ ?_<;>intros | refine hik ?_)<;>refine hgS ?_)
  refine wq6 c ?_;refine hg ?_
  repeat' ((first | refine hfk ?_ ?_<;>intros | refine hik ?_)<;>refine hgS ?_)
  exact StH.same svl rfl
 | false=>
  rw [h] at c;refine xgj.run [] Go.Proofs.Tryz.func121 rfl rfl ?_;simp only [Go.Proofs.Tryz.f121];refine hgR ?_
  repeat' ((first | refine hfk ?_ ?_<;>intros | refine hik ?_)<;>refine hgS ?_)
  refine wq6 c ?_;refine hg ?_
  repeat' ((first | refine hfk ?_ ?_<;>intros | refine hik ?_)<;>refine hgS ?_)
  exact StH.same svl rfl
theorem zho (L:List Tk) (a:Nat) (b:Bool) (k:Int) (t:ByteArray) (hl:L.length<=1073741824):xgj Γ prog 123 [rdF L a b] [.one (.ptr 0 0),.one (.dat (cI k)),.one (.dat (cS t))] [rdF L (skF L a b k t) (!isF L a b k t)] (.tup []):=by
 have c:=vzj (Γ:=Γ) L a b k t hl;unfold skF at c ⊢
 cases h:isF L a b k t with
 | true=>
  obtain ⟨hlt,rfl⟩:=vgd h;rw [h] at c;rw [cond_true] at c ⊢;refine xgj.run [] Go.Proofs.Tryz.func123 rfl rfl ?_;simp only [Go.Proofs.Tryz.f123];refine hgR ?_
  repeat' ((first | refine hfk ?_ ?_<;>intros | refine hik ?_)<;>refine hgS ?_)
  first | refine wq6 c ?_ | refine yjt [(0,rdF L (a+1) false)] c ?_
  refine hg ?_
  repeat' ((first | refine hfk ?_ ?_<;>intros | refine hik ?_)<;>refine hgS ?_)
  exact StH.same svl rfl
 | false=>
  rw [h] at c;rw [cond_false] at c ⊢;refine xgj.run [] Go.Proofs.Tryz.func123 rfl rfl ?_;simp only [Go.Proofs.Tryz.f123];refine hgR ?_
  repeat' ((first | refine hfk ?_ ?_<;>intros | refine hik ?_)<;>refine hgS ?_)
  first | refine wq6 c ?_ | refine yjt [] c ?_
  refine hg ?_
  repeat' ((first | refine hfk ?_ ?_<;>intros | refine hik ?_)<;>refine hgS ?_)
  exact StH.same svl rfl
theorem vvf (L:List Tk) (a:Nat) (b:Bool) (t:ByteArray) (hl:L.length<=1073741824):xgj Γ prog 151 [rdF L a b] [.one (.ptr 0 0),.one (.dat (cS t))] [rdF L (skF L a b 3 t) (!isF L a b 3 t)] (.tup []):=by
 have c:=zho (Γ:=Γ) L a b 3 t hl;refine xgj.run [] Go.Proofs.Tryz.func151 rfl rfl ?_;simp only [Go.Proofs.Tryz.f151];refine hgR ?_
 repeat' ((first | refine hfk ?_ ?_<;>intros | refine hik ?_)<;>refine hgS ?_)
 refine wq6 c ?_;refine hg ?_;exact StH.same svl rfl
theorem xsq (L:List Tk) (a:Nat) (b:Bool) (hl:L.length<=1073741824) (h:a<L.length):xgj Γ prog 164 [rdF L a b] [.one (.ptr 0 0)] [rdF L (a+1) b] (.agg ((tkC (L.getD a default)).map .dat)):=by
 refine xgj.run [] Go.Proofs.Tryz.func164 rfl rfl ?_;simp only [Go.Proofs.Tryz.f164];refine hgR ?_
 repeat' ((first | refine hfk ?_ ?_<;>intros | refine hik ?_)<;>refine hgS ?_)
 rw [show ((a:Int)+1-1).toNat=a by omega];exact StH.done 1 rfl (by kernel_rfl) rfl rfl
def nmOk (L:List Tk) (a:Nat) (b:Bool):Bool:=kdF L a b 0&&!isWord (L.getD a default).t
def nmS (L:List Tk) (a:Nat) (b:Bool):ByteArray:=bif nmOk L a b then (L.getD a default).t else ⟨#[]⟩
theorem zhw (L:List Tk) (a:Nat) (b:Bool) (hl:L.length<=1073741824):xgj Γ prog 152 [rdF L a b] [.one (.ptr 0 0)] [rdF L (bif nmOk L a b then a+1 else a) (bif nmOk L a b then b else true)] (.one (.dat (cS (nmS L a b)))):=by
 have c:=yeq (Γ:=Γ) L a b 0;have w:=xvd (Γ:=Γ) (L.getD a default).t;unfold nmS nmOk
 cases h:kdF L a b 0 with
 | false=>
  rw [h] at c;refine xgj.run [] Go.Proofs.Tryz.func152 rfl rfl ?_;simp only [Go.Proofs.Tryz.f152];refine hgR ?_
  repeat' ((first | refine hfk ?_ ?_<;>intros | refine hik ?_)<;>refine hgS ?_)
  first | refine wq6 c ?_ | refine y4m 1 (fun ξ=>xgj.pre (ξ:=ξ) c (fun r=>rfl) rfl rfl) rfl rfl ?_
  refine hg ?_
  repeat' ((first | refine hfk ?_ ?_<;>intros | refine hik ?_)<;>refine hgS ?_)
  exact StH.same svl rfl
 | true=>
  obtain ⟨hlt,rfl⟩:=vej h;have tk:=xsq (Γ:=Γ) L a false hl hlt;rw [h] at c;clear h
  cases hw:isWord (L.getD a default).t with
  | true=>
   rw [hw] at w;refine xgj.run [] Go.Proofs.Tryz.func152 rfl rfl ?_;simp only [Go.Proofs.Tryz.f152];refine hgR ?_
   repeat' ((first | refine hfk ?_ ?_<;>intros | refine hik ?_)<;>refine hgS ?_)
   first | refine wq6 c ?_ | refine y4m 1 (fun ξ=>xgj.pre (ξ:=ξ) c (fun r=>rfl) rfl rfl) rfl rfl ?_
   refine hg ?_
   repeat' ((first | refine hfk ?_ ?_<;>intros | refine hik ?_ | with_reducible first | refine v47 (w) ?_ | refine vrf (w) ?_)<;>refine hgS ?_)
   exact StH.same svl rfl
  | false=>
   rw [hw] at w;refine xgj.run [] Go.Proofs.Tryz.func152 rfl rfl ?_;simp only [Go.Proofs.Tryz.f152];refine hgR ?_
   repeat' ((first | refine hfk ?_ ?_<;>intros | refine hik ?_)<;>refine hgS ?_)
   first | refine wq6 c ?_ | refine y4m 1 (fun ξ=>xgj.pre (ξ:=ξ) c (fun r=>rfl) rfl rfl) rfl rfl ?_
   refine hg ?_
   repeat' ((first | refine hfk ?_ ?_<;>intros | refine hik ?_ | with_reducible first | refine v47 (w) ?_ | refine vrf (w) ?_)<;>refine hgS ?_)
   refine wq6 tk ?_;refine hg ?_;exact StH.same svl rfl
end Go.Hp.T
namespace Go.Hp
open Go Go.RowKit Go.Slot
variable {P:Program} {Γ:List (Nat×List Cell)} {e:List SB}
theorem StH.frzA {x y:SV} {η:List SB} {av:AV} {bs:List Nat} (h:znb η [x]=some ([av],bs)) (hs:zmk [av]=some [y]) (hx:∀ l,x≠.tup l) (hy:∀ l,y≠.tup l):StH Γ e [x] η [y] (appL (frzE η bs) η):=fun E ρ a w _ hR=>by
 obtain ⟨h1,h2⟩:=hR.frz (v8b h);refine ⟨ρ,h1.hd,h1.hs,fun i z hi=>?_,h1.went⟩
 cases i with
 | zero=>
  simp only [List.getElem?_cons_zero,Option.some.injEq] at hi;subst hi;have hr:=h1.slot 0 x rfl
  have hr:SRL _ ρ _ w [a.tmps.getD 0 Go.undef] [x]:=⟨by
   cases x with
   | tup l=>exact absurd rfl (hx l)
   | _=>exact hr,trivial⟩
  have h3:=(xp4 (η:=appL (frzE η bs) η) (ρ:=ρ) hs (z1s h1.inv h h2 hr)).1
  cases y with
  | tup l=>exact absurd rfl (hy l)
  | _=>exact h3
 | succ i=>simp at hi
theorem StH.agg1 {l l':List HC} {η:List SB} (h:SVle (.agg l) (.agg l')):StH Γ e [.agg l] η [.agg l'] η:=StH.same (.cons h .nil) rfl
end Go.Hp
namespace Go.Hp.T
open Go Go.RowKit Go.Slot Go.Hp Go.Slot.T
open Go.Proofs.Tryz (prog)
attribute [local irreducible] hide RH
set_option maxRecDepth 10000
set_option maxHeartbeats 8000000
variable {Γ:List (Nat×List Cell)}
theorem xsj {e η η':List SB} {o n:Int} {u s:ByteArray} (m:Nat) (hm:Nat.ble e.length m=true) (h:vxf m [SV.agg [.dat (cI o),.dat (cI n),.dat (cS u),.dat (cS s),.dat .zc]] η=true) (hη:η.take m=η') :
 StH Γ e [SV.agg [.dat (cI o),.dat (cI n),.dat (cS u),.dat (cS s),.dat .zc]] η [SV.agg ((exC (.mk o n u s [])).map .dat)] η':=
 StH.trans (StH.done m hm h rfl hη) (StH.agg1 (.agg (.cons (.refl _) (.cons (.refl _) (.cons (.refl _) (.cons (.refl _) (.cons (.dat (.zcSl _)) .nil)))))))
def nbE (L:List Tk) (a:Nat) (b:Bool):Ex:=.mk 0 (L.getD a default).n (bif kdF L (a+1) b 2 then (L.getD (a+1) default).t else ⟨#[]⟩) ⟨#[]⟩ []
def nbA (L:List Tk) (a:Nat) (b:Bool):Nat:=bif kdF L (a+1) b 2 then a+2 else a+1
theorem wcx (L:List Tk) (a:Nat) (b:Bool) (hl:L.length<=1073741824) (h:a<L.length):xgj Γ prog 149 [rdF L a b] [.one (.ptr 0 0)] [rdF L (nbA L a b) b] (.agg ((exC (nbE L a b)).map .dat)):=by
 have t1:=xsq (Γ:=Γ) L a b hl h;have k1:=yeq (Γ:=Γ) L (a+1) b 2;unfold nbA nbE
 cases hk:kdF L (a+1) b 2 with
 | false=>
  rw [hk] at k1;refine xgj.run [] Go.Proofs.Tryz.func149 rfl rfl ?_;simp only [Go.Proofs.Tryz.f149];refine hgR ?_
  repeat' ((first | refine hfk ?_ ?_<;>intros | refine hik ?_)<;>refine hgS ?_)
  refine xmn [0] t1 rfl (by decide) rfl rfl rfl ?_;refine hg ?_
  repeat' ((first | refine hfk ?_ ?_<;>intros | refine hik ?_)<;>refine hgS ?_)
  refine xmn [0] k1 rfl (by decide) rfl rfl rfl ?_;refine hg ?_
  repeat' ((first | refine hfk ?_ ?_<;>intros | refine hik ?_)<;>refine hgS ?_)
  exact xsj 1 rfl (by kernel_rfl) rfl
 | true=>
  obtain ⟨hlt,rfl⟩:=vej hk;have t2:=xsq (Γ:=Γ) L (a+1) false hl hlt;rw [hk] at k1;refine xgj.run [] Go.Proofs.Tryz.func149 rfl rfl ?_;simp only [Go.Proofs.Tryz.f149];refine hgR ?_
  repeat' ((first | refine hfk ?_ ?_<;>intros | refine hik ?_)<;>refine hgS ?_)
  refine xmn [0] t1 rfl (by decide) rfl rfl rfl ?_;refine hg ?_
  repeat' ((first | refine hfk ?_ ?_<;>intros | refine hik ?_)<;>refine hgS ?_)
  refine xmn [0] k1 rfl (by decide) rfl rfl rfl ?_;refine hg ?_
  repeat' ((first | refine hfk ?_ ?_<;>intros | refine hik ?_)<;>refine hgS ?_)
  refine xmn [0] t2 rfl (by decide) rfl rfl rfl ?_;refine hg ?_
  repeat' ((first | refine hfk ?_ ?_<;>intros | refine hik ?_)<;>refine hgS ?_)
  exact xsj 1 rfl (by kernel_rfl) rfl
def opKd (o:Int):Int:=bif decide (o=14)||decide (o=15) then 0 else 3
def opIs (L:List Tk) (a:Nat) (b:Bool) (o:Int):Bool:=isOp o&&isF L a b (opKd o) (xeq o)
def opNx (L:List Tk) (a:Nat) (b:Bool):Option Nat:=(List.range 16).find? fun i=>opIs L a b i
theorem xuf {p:Nat->Bool} {n i:Nat} (hi:i<n) (h:p i=true) (hj:∀ j,j<i->p j=false):(List.range n).find? p=some i:=by
 rw [List.find?_range_eq_some];exact ⟨h,List.mem_range.2 hi,fun j hji=>by rw [hj j hji];rfl⟩
theorem zj5 {p:Nat->Bool} {n:Nat} (hj:∀ j,j<n->p j=false):(List.range n).find? p=none:=by
 rw [List.find?_eq_none];intro x hx;rw [hj x (List.mem_range.1 hx)];decide
def opR:Option Nat->SV
 | none=>.tup [.one (.dat (cI 0)),.one (.dat (cB false))]
 | some i=>.tup [.one (.dat (cI i)),.one (.dat (cB true))]
theorem y57 (L:List Tk) (a:Nat) (b:Bool) (hl:L.length<=1073741824):xgj Γ prog 124 [rdF L a b] [.one (.ptr 0 0)] [rdF L (bif (opNx L a b).isSome then a+1 else a) b] (opR (opNx L a b)):=by
 generalize hR:opNx L a b=R;refine xgj.run [] Go.Proofs.Tryz.func124 rfl rfl ?_;simp only [Go.Proofs.Tryz.f124];refine hgR ?_
 repeat' ((first | refine hfk ?_ ?_<;>intros | refine hik ?_)<;>refine hgS ?_)
 refine yxw [0] (fun i:Nat=>[(8,.one (.dat (cI i)))]) (fun _=>[rdF L a b]) (fun i=>i<=16/\∀ j,j<i->opIs L a b j=false) (fun i=>16-i) 0 ⟨Nat.zero_le _,fun j hj=>by omega⟩ ?_ ?_
 . refine hg ?_;exact StH.same svl rfl
 rintro i ⟨h1,h2⟩;refine hg ?_;refine xw4 (fun hlt _=>?_) (fun hlt _=>?_)
 . have hi:i<16:=by omega
   have co:=y4o (Γ:=Γ) (i:Int)
   have hyes:=fun h=>xuf (p:=fun i:Nat=>opIs L a b i) hi h h2
   have hno:opIs L a b i=false->∀ j,j<i+1->opIs L a b (j:Nat)=false:=fun h j hj=>by
    rcases Nat.lt_or_eq_of_le (Nat.le_of_lt_succ hj) with h3 | h3
    . exact h2 j h3
    . rw [h3];exact h
   clear h2
   have hk:opKd (i:Int)=bif decide ((i:Int)=14)||decide ((i:Int)=15) then 0 else 3:=rfl
   have hkd:∃ p q,decide ((i:Int)=14)=p/\decide ((i:Int)=15)=q:=⟨_,_,rfl,rfl⟩;obtain ⟨p,q,d14,d15⟩:=hkd;rw [d14,d15] at hk
   cases ho:isOp (i:Int) with
   | false=>
    have hno:=hno (by unfold opIs;rw [ho];rfl);rw [ho] at co;clear hyes hR hk
    cases p<;>cases q
    all_goals
     refine hg ?_
     repeat' ((first | refine hfk ?_ ?_<;>intros | refine hik ?_ | with_reducible first | refine v47 (co) ?_ | refine vrf (co) ?_)<;>refine hgS ?_)
     exact ⟨i+1,⟨by omega,hno⟩,by omega,StH.same svl rfl⟩
   | true=>
    rw [ho] at co;have sk:=vzj (Γ:=Γ) L a b (opKd i) (xeq i) hl;unfold skF at sk
    cases hs:isF L a b (opKd i) (xeq i) with
    | true=>
     have hy:R=some i:=by rw [<-hR];exact hyes (by unfold opIs;rw [ho,hs];rfl)
     subst hy;rw [hs,cond_true,hk] at sk;clear hyes hno hR hs hk ho
     cases p<;>cases q
     all_goals
      simp only [Bool.or_false,Bool.or_true,cond_true,cond_false] at sk;refine hg ?_
      repeat' ((first | refine hfk ?_ ?_<;>intros | refine hik ?_ | with_reducible first | refine v47 (co) ?_ | refine vrf (co) ?_)<;>refine hgS ?_)
      refine wq6 sk ?_;refine hg ?_
      repeat' ((first | refine hfk ?_ ?_<;>intros | refine hik ?_)<;>refine hgS ?_)
      exact StH.same svl rfl
    | false=>
     have hno:=hno (by unfold opIs;rw [ho,hs];rfl);rw [hs,cond_false,hk] at sk;clear hyes hR hs hk ho
     cases p<;>cases q
     all_goals
      simp only [Bool.or_false,Bool.or_true,cond_true,cond_false] at sk;refine hg ?_
      repeat' ((first | refine hfk ?_ ?_<;>intros | refine hik ?_ | with_reducible first | refine v47 (co) ?_ | refine vrf (co) ?_)<;>refine hgS ?_)
      refine wq6 sk ?_;refine hg ?_
      repeat' ((first | refine hfk ?_ ?_<;>intros | refine hik ?_)<;>refine hgS ?_)
      exact ⟨i+1,⟨by omega,hno⟩,by omega,StH.same svl rfl⟩
 . have e:=zj5 (p:=fun i:Nat=>opIs L a b i) (n:=16) (fun j hj=>h2 j (by omega))
   have hy:R=none:=by rw [<-hR];exact e
   subst hy;clear hR e h2;refine hg ?_
   repeat' ((first | refine hfk ?_ ?_<;>intros | refine hik ?_)<;>refine hgS ?_)
   exact StH.same svl rfl
def zE:Ex:=.mk 0 0 ⟨#[]⟩ ⟨#[]⟩ []
abbrev Rd:=Ex×Nat×Bool
abbrev Rds:=List Ex×Nat×Bool
abbrev tLp:ByteArray:=⟨#[40]⟩
abbrev tRp:ByteArray:=⟨#[41]⟩
abbrev tCm:ByteArray:=⟨#[44]⟩
def clF (L:List Tk) (l:List Ex) (a:Nat) (b:Bool):Rds:=(l,skF L a b 3 tRp,!isF L a b 3 tRp)
def sm1 (L:List Tk) (rec:Nat->Bool->Rd) (a:Nat) (b:Bool):Rds:=bif b then ([],a,true) else clF L [(rec a false).1] (rec a false).2.1 (rec a false).2.2
def sm2 (L:List Tk) (rec:Nat->Bool->Rd) (a:Nat) (b:Bool):Rds:=bif b then ([],a,true) else
 bif (rec a false).2.2 then ([(rec a false).1],(rec a false).2.1,true) else
 let a1:=skF L (rec a false).2.1 false 3 tCm
 let b1:=!isF L (rec a false).2.1 false 3 tCm
 clF L [(rec a false).1,(rec a1 b1).1] (rec a1 b1).2.1 (rec a1 b1).2.2
theorem wxk {L:List Tk} {a:Nat} {k:Int} {t:ByteArray}:isF L a true k t=false:=rfl
theorem wcc {L:List Tk} {a:Nat} {k:Int} {t:ByteArray}:skF L a true k t=a:=rfl
theorem yvo {e η η':List SB} {x:SV} {c:Cell} {bs:List Nat} (m:Nat) (h:znb η [x]=some ([.one c],bs)) (hx:∀ l,x≠.tup l) (hm:Nat.ble e.length m=true) (hc:vxf m [SV.one (.dat c)] (appL (frzE η bs) η)=true) (hη:(appL (frzE η bs) η).take m=η') :
 StH Γ e [x] η [.one (.dat c)] η':=
 StH.trans (StH.frzA h rfl hx (fun l h=>by cases h)) (StH.done m hm hc rfl hη)
theorem zw8 (L:List Tk) (rec:Nat->Bool->Rd) (a:Nat) (b:Bool) (hl:L.length<=1073741824)
 (H:b=false->xgj Γ prog 101 [rdF L a false] [.one (.ptr 0 0)] [rdF L (rec a false).2.1 (rec a false).2.2] (.agg ((exC (rec a false).1).map .dat))) :
 xgj Γ prog 150 [rdF L a b] [.one (.ptr 0 0),.one (.dat (cI 1))] [rdF L (sm1 L rec a b).2.1 (sm1 L rec a b).2.2] (.one (.dat (.sl 5 ((sm1 L rec a b).1.map Ex.cells)))):=by
 unfold sm1
 cases b with
 | true=>
  have c:=vvf (Γ:=Γ) L a true tRp hl;rw [wcc,wxk] at c;refine xgj.run [] Go.Proofs.Tryz.func150 rfl rfl ?_;simp only [Go.Proofs.Tryz.f150];refine hgR ?_
  repeat' ((first | refine hfk ?_ ?_<;>intros | refine hik ?_ | with_reducible refine z7r ?_ | with_reducible refine wd2 ?_)<;>refine hgS ?_)
  refine wq6 c ?_;refine hg ?_
  repeat' ((first | refine hfk ?_ ?_<;>intros | refine hik ?_)<;>refine hgS ?_)
  exact StH.same (.cons (.one (.dat (.nilSl _))) .nil) rfl
 | false=>
  have H:=H rfl;generalize rec a false=r at *;obtain ⟨x,a1,b1⟩:=r;simp only at H;have c:=vvf (Γ:=Γ) L a1 b1 tRp hl;refine xgj.run [] Go.Proofs.Tryz.func150 rfl rfl ?_;simp only [Go.Proofs.Tryz.f150];refine hgR ?_
  repeat' ((first | refine hfk ?_ ?_<;>intros | refine hik ?_ | with_reducible refine z7r ?_ | with_reducible refine wd2 ?_)<;>refine hgS ?_)
  refine wq6 H ?_;refine hg ?_
  repeat' ((first | refine hfk ?_ ?_<;>intros | refine hik ?_ | with_reducible refine z7r ?_ | with_reducible refine wd2 ?_)<;>refine hgS ?_)
  refine xmn [0] c rfl (by decide) rfl rfl rfl ?_;refine hg ?_
  repeat' ((first | refine hfk ?_ ?_<;>intros | refine hik ?_)<;>refine hgS ?_)
  unfold clF;simp only [List.map_cons,List.map_nil,Ex.wrj];exact yvo (bs:=[1]) 1 rfl (fun l h=>by cases h) rfl (by kernel_rfl) rfl
theorem zbo (L:List Tk) (a:Nat):xgj Γ prog 101 [rdF L a true] [.one (.ptr 0 0)] [rdF L a true] (.agg ((exC zE).map .dat)):=by
 refine xgj.run [] Go.Proofs.Tryz.func101 rfl rfl ?_;simp only [Go.Proofs.Tryz.f101];refine hgR ?_
 repeat' ((first | refine hfk ?_ ?_<;>intros | refine hik ?_)<;>refine hgS ?_)
 exact xsj 1 rfl (by kernel_rfl) rfl
theorem xhb (L:List Tk) (rec:Nat->Bool->Rd) (a:Nat) (b:Bool) (hl:L.length<=1073741824)
 (H:b=false->xgj Γ prog 101 [rdF L a false] [.one (.ptr 0 0)] [rdF L (rec a false).2.1 (rec a false).2.2] (.agg ((exC (rec a false).1).map .dat)))
 (H2:∀ c,c = !isF L (rec a false).2.1 false 3 tCm->xgj Γ prog 101 [rdF L (skF L (rec a false).2.1 false 3 tCm) c] [.one (.ptr 0 0)] [rdF L (rec (skF L (rec a false).2.1 false 3 tCm) c).2.1 (rec (skF L (rec a false).2.1 false 3 tCm) c).2.2] (.agg ((exC (rec (skF L (rec a false).2.1 false 3 tCm) c).1).map .dat))) :
 xgj Γ prog 150 [rdF L a b] [.one (.ptr 0 0),.one (.dat (cI 2))] [rdF L (sm2 L rec a b).2.1 (sm2 L rec a b).2.2] (.one (.dat (.sl 5 ((sm2 L rec a b).1.map Ex.cells)))):=by
 unfold sm2
 cases b with
 | true=>
  have c:=vvf (Γ:=Γ) L a true tRp hl;rw [wcc,wxk] at c;refine xgj.run [] Go.Proofs.Tryz.func150 rfl rfl ?_;simp only [Go.Proofs.Tryz.f150];refine hgR ?_
  repeat' ((first | refine hfk ?_ ?_<;>intros | refine hik ?_ | with_reducible refine z7r ?_ | with_reducible refine wd2 ?_)<;>refine hgS ?_)
  refine wq6 c ?_;refine hg ?_
  repeat' ((first | refine hfk ?_ ?_<;>intros | refine hik ?_)<;>refine hgS ?_)
  exact StH.same (.cons (.one (.dat (.nilSl _))) .nil) rfl
 | false=>
  have H:=H rfl;have H2:=H2 _ rfl;generalize rec a false=r at *;obtain ⟨x,a1,b1⟩:=r;simp only at H H2;rw [cond_false];simp only
  cases b1 with
  | true=>
   have c:=vvf (Γ:=Γ) L a1 true tRp hl;rw [wcc,wxk] at c;rw [cond_true];clear H2;refine xgj.run [] Go.Proofs.Tryz.func150 rfl rfl ?_;simp only [Go.Proofs.Tryz.f150];refine hgR ?_
   repeat' ((first | refine hfk ?_ ?_<;>intros | refine hik ?_ | with_reducible refine z7r ?_ | with_reducible refine wd2 ?_)<;>refine hgS ?_)
   refine wq6 H ?_;refine hg ?_
   repeat' ((first | refine hfk ?_ ?_<;>intros | refine hik ?_ | with_reducible refine z7r ?_ | with_reducible refine wd2 ?_)<;>refine hgS ?_)
   refine xmn [0] c rfl (by decide) rfl rfl rfl ?_;refine hg ?_
   repeat' ((first | refine hfk ?_ ?_<;>intros | refine hik ?_)<;>refine hgS ?_)
   exact yvo (bs:=[1]) 1 rfl (fun l h=>by cases h) rfl (by kernel_rfl) rfl
  | false=>
   rw [cond_false];have s:=vvf (Γ:=Γ) L a1 false tCm hl;generalize skF L a1 false 3 tCm=a2 at *;generalize (!isF L a1 false 3 tCm)=b2 at *;generalize rec a2 b2=r2 at *;obtain ⟨y,a3,b3⟩:=r2;simp only at H2;have c:=vvf (Γ:=Γ) L a3 b3 tRp hl;refine xgj.run [] Go.Proofs.Tryz.func150 rfl rfl ?_;simp only [Go.Proofs.Tryz.f150];refine hgR ?_
   repeat' ((first | refine hfk ?_ ?_<;>intros | refine hik ?_ | with_reducible refine z7r ?_ | with_reducible refine wd2 ?_)<;>refine hgS ?_)
   refine wq6 H ?_;refine hg ?_
   repeat' ((first | refine hfk ?_ ?_<;>intros | refine hik ?_ | with_reducible refine z7r ?_ | with_reducible refine wd2 ?_)<;>refine hgS ?_)
   refine xmn [0] s rfl (by decide) rfl rfl rfl ?_;refine hg ?_
   repeat' ((first | refine hfk ?_ ?_<;>intros | refine hik ?_ | with_reducible refine z7r ?_ | with_reducible refine wd2 ?_)<;>refine hgS ?_)
   refine xmn [0] H2 rfl (by decide) rfl rfl rfl ?_;refine hg ?_
   repeat' ((first | refine hfk ?_ ?_<;>intros | refine hik ?_ | with_reducible refine z7r ?_ | with_reducible refine wd2 ?_)<;>refine hgS ?_)
   refine xmn [0] c rfl (by decide) rfl rfl rfl ?_;refine hg ?_
   repeat' ((first | refine hfk ?_ ?_<;>intros | refine hik ?_)<;>refine hgS ?_)
   unfold clF;simp only [List.map_cons,List.map_nil,Ex.wrj];exact yvo (bs:=[2]) 1 rfl (fun l h=>by cases h) rfl (by kernel_rfl) rfl
end Go.Hp.T
