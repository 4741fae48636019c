/- The proof, part Z22: Pl, Pm, Nc, Nd. -/
import Derived.Test.YtkbkjjahlafhoaaGreatDoorZ21
import Derived.Test.YtkbkjjahlafhoaaGreatDoorZ15
import Derived.Test.YtkbkjjahlafhoaaGreatDoorZ20
import Derived.Test.YtkbkjjahlafhoaaGreatDoorZ16
namespace Go.Hp.T
open Go Go.RowKit Go.Slot Go.Hp Go.Slot.T
open Go.Proofs.Tryz (prog)
set_option maxRecDepth 10000
set_option maxHeartbeats 8000000
variable {Γ:List (Nat×List Cell)}
structure Mo (L:List Tk) (rec:Nat->Bool->Rd):Prop where
 mono:∀ i c,i<=(rec i c).2.1
 le:∀ i c,i<=L.length->(rec i c).2.1<=L.length
theorem yz8 {L:List Tk} {rec:Nat->Bool->Rd} (H:Mo L rec) (a:Nat) (b:Bool):a<=(sm1 L rec a b).2.1/\(a<=L.length->(sm1 L rec a b).2.1<=L.length):=by
 unfold sm1
 cases b with
 | true=>exact ⟨Nat.le_refl _,fun h=>h⟩
 | false=>exact ⟨Nat.le_trans (H.mono a false) vjg,fun h=>w3a (H.le a false h)⟩
theorem x6o {L:List Tk} {rec:Nat->Bool->Rd} (H:Mo L rec) (a:Nat) (b:Bool):a<=(sm2 L rec a b).2.1/\(a<=L.length->(sm2 L rec a b).2.1<=L.length):=by
 unfold sm2
 cases b with
 | true=>exact ⟨Nat.le_refl _,fun h=>h⟩
 | false=>
  rw [cond_false]
  cases (rec a false).2.2 with
  | true=>exact ⟨H.mono a false,fun h=>H.le a false h⟩
  | false=>exact ⟨Nat.le_trans (H.mono a false) (Nat.le_trans vjg (Nat.le_trans (H.mono _ _) vjg)),fun h=>w3a (H.le _ _ (w3a (H.le a false h)))⟩
theorem yeh {L:List Tk} {rec:Nat->Bool->Rd} (H:Mo L rec):∀(n:Nat) (out:List Ex) (a:Nat) (b:Bool),a<=(anL L rec n out a b).2.1/\(a<=L.length->(anL L rec n out a b).2.1<=L.length)
 | 0,out,a,b=>⟨vjg,fun h=>w3a h⟩
 | n+1,out,a,b=>by
  rw [anL]
  cases hi:isF L a b 3 tCm with
  | true=>
   have h1:=(vib hi).1;have h2:=yeh H n (out++[(rec (a+1) false).1]) (rec (a+1) false).2.1 (rec (a+1) false).2.2;have h3:=H.mono (a+1) false;exact ⟨by rw [cond_true];omega,fun _=>h2.2 (H.le _ _ h1)⟩
  | false=>exact ⟨vjg,fun h=>w3a h⟩
theorem vet {L:List Tk} {rec:Nat->Bool->Rd} (H:Mo L rec) (a:Nat):a<=(anF L rec a).2.1/\(a<=L.length->(anF L rec a).2.1<=L.length):=by
 have h:=yeh H L.length [(rec a false).1] (rec a false).2.1 (rec a false).2.2;exact ⟨Nat.le_trans (H.mono a false) h.1,fun h1=>h.2 (H.le _ _ h1)⟩
theorem zwy {L:List Tk} {rec:Nat->Bool->Rd} (H:Mo L rec) (a:Nat) (b:Bool):a<=(v86 L rec a b).2.1/\(a<=L.length->(v86 L rec a b).2.1<=L.length):=by
 unfold v86
 cases b with
 | true=>exact ⟨Nat.le_refl _,fun h=>h⟩
 | false=>
  rw [cond_false]
  cases h1:kdF L a false 1 with
  | true=>
   have hlt:=(vth h1).1;rw [cond_true];dsimp only;unfold nbA
   cases h2:kdF L (a+1) false 2 with
   | true=>have:=(vth h2).1;exact ⟨by rw [cond_true];omega,fun _=>by rw [cond_true];omega⟩
   | false=>exact ⟨Nat.le_succ _,fun _=>hlt⟩
  | false=>
   rw [cond_false]
   cases h2:isF L a false 3 tLp with
   | true=>
    have hlt:=(vib h2).1;have hs:=yz8 H (a+1) false;rw [cond_true];unfold atP
    cases (sm1 L rec (a+1) false).2.2 with
    | true=>exact ⟨by rw [cond_true];dsimp only;omega,fun _=>hs.2 hlt⟩
    | false=>exact ⟨by rw [cond_false];dsimp only;omega,fun _=>hs.2 hlt⟩
   | false=>
    rw [cond_false]
    cases h3:isF L a false 0 vsr with
    | true=>
     have hlt:=(vib h3).1;have h5:a+1<=lkA L (a+1):=Nat.le_trans (vjg (b:=false) (k:=3) (t:=tLp)) x2k;have h6:lkA L (a+1)<=L.length:=v1c (w3a (by omega));have hs:=yz8 H (skF L (lkA L (a+1)) (lkB L (a+1)) 3 tCm) (!isF L (lkA L (a+1)) (lkB L (a+1)) 3 tCm);have h7:lkA L (a+1)<=skF L (lkA L (a+1)) (lkB L (a+1)) 3 tCm:=vjg;rw [cond_true];unfold lkR;exact ⟨by dsimp only;omega,fun _=>hs.2 (w3a h6)⟩
    | false=>
     rw [cond_false]
     have hmm:a<L.length->a<=(mmR L rec (a+1)).2.1/\(a<=L.length->(mmR L rec (a+1)).2.1<=L.length):=fun hlt=>by
      have hs:=x6o H (skF L (a+1) false 3 tLp) (!isF L (a+1) false 3 tLp);have h7:a+1<=skF L (a+1) false 3 tLp:=vjg;unfold mmR;exact ⟨by omega,fun _=>hs.2 (w3a hlt)⟩
     cases h4:isF L a false 0 tMin with
     | true=>exact hmm (vib h4).1
     | false=>
      rw [cond_false]
      cases h5:isF L a false 0 tMax with
      | true=>exact hmm (vib h5).1
      | false=>
       rw [cond_false];unfold atN
       cases h6:isF L (nmA L a false) (nmB L a false) 3 tLp with
       | true=>
        have hlt:=(vib h6).1;have hs:=vet H (nmA L a false+1);have h7:a<=nmA L a false:=x2k;exact ⟨by rw [cond_true];dsimp only;omega,fun _=>hs.2 hlt⟩
       | false=>exact ⟨x2k,fun h=>v1c h⟩
theorem ziu {L:List Tk} {a:Nat} {b:Bool} {i:Nat} (h:opNx L a b=some i):a<L.length:=by
 have h1:=List.find?_some h;unfold opIs at h1;rw [Bool.and_eq_true] at h1;exact (vib h1.2).1
theorem yd2 {L:List Tk} {rec:Nat->Bool->Rd} (H:Mo L rec) (a:Nat) (b:Bool):a<=(xbk L rec a b).2.1/\(a<=L.length->(xbk L rec a b).2.1<=L.length):=by
 unfold xbk
 cases b with
 | true=>exact ⟨Nat.le_refl _,fun h=>h⟩
 | false=>
  rw [cond_false]
  cases h1:isF L a false 0 tNot with
  | true=>
   have hlt:=(vib h1).1;have hs:=zwy H (a+1) false;exact ⟨by rw [cond_true];dsimp only;omega,fun _=>hs.2 hlt⟩
  | false=>
   rw [cond_false]
   cases h2:isF L a false 0 tIf with
   | true=>
    have hlt:=(vib h2).1;have hs:=zwy H (a+1) false
    have hb:∀(p:Rd) (t:ByteArray),p.2.1<=(ifB L rec p t).2.1/\(p.2.1<=L.length->(ifB L rec p t).2.1<=L.length):=fun p t=>by
     have:=zwy H (skF L p.2.1 p.2.2 0 t) (!isF L p.2.1 p.2.2 0 t)
     exact ⟨Nat.le_trans vjg this.1,fun h=>this.2 (w3a h)⟩
    have hb1:=hb (v86 L rec (a+1) false) y59;have hb2:=hb (ifB L rec (v86 L rec (a+1) false) y59) vui;rw [cond_true];unfold ifR;exact ⟨by dsimp only;omega,fun _=>hb2.2 (hb1.2 (hs.2 hlt))⟩
   | false=>
    rw [cond_false];have hs:=zwy H a false;generalize v86 L rec a false=x at *;unfold opM
    cases ho:opNx L x.2.1 x.2.2 with
    | none=>exact hs
    | some i=>
     have hlt:=ziu ho;have ht:=zwy H (x.2.1+1) x.2.2;exact ⟨by dsimp only;omega,fun _=>ht.2 hlt⟩
def exF (L:List Tk):Nat->Nat->Bool->Rd
 | 0,a,_=>(zE,a,true)
 | n+1,a,b=>xbk L (exF L n) a b
theorem ymt (L:List Tk):∀ n,Mo L (exF L n)
 | 0=>⟨fun _ _=>Nat.le_refl _,fun _ _ h=>h⟩
 | n+1=>⟨fun i c=>(yd2 (ymt L n) i c).1,fun i c=>(yd2 (ymt L n) i c).2⟩
theorem wof.mo {L:List Tk} {rec:Nat->Bool->Rd} {a:Nat} (H:wof Γ L rec a):Mo L rec:=⟨H.mono,H.le⟩
theorem wof.up {L:List Tk} {rec:Nat->Bool->Rd} {a i:Nat} (H:wof Γ L rec a) (h:a<=i):wof Γ L rec i:=⟨H.len,H.mono,H.le,fun j c hj=>H.run j c (by omega)⟩
theorem zdb (L:List Tk) (rec:Nat->Bool->Rd) (a:Nat) (b:Bool) (ha:a<=L.length) (H:wof Γ L rec a):yl8 Γ L a b (xbk L rec a b):=by
 unfold xbk
 cases b with
 | true=>exact zsf L a
 | false=>
  rw [cond_false]
  cases h1:isF L a false 0 tNot with
  | true=>exact x1y L a H.len h1 _ (yyw L rec (a+1) false (vib h1).1 (H.up (Nat.le_succ _)))
  | false=>
   rw [cond_false]
   cases h2:isF L a false 0 tIf with
   | true=>
    have hlt:=(vib h2).1;have hs:=zwy H.mo (a+1) false;have ht:=zwy H.mo (skF L (v86 L rec (a+1) false).2.1 (v86 L rec (a+1) false).2.2 0 y59) (!isF L (v86 L rec (a+1) false).2.1 (v86 L rec (a+1) false).2.2 0 y59);have l1:(v86 L rec (a+1) false).2.1<=skF L (v86 L rec (a+1) false).2.1 (v86 L rec (a+1) false).2.2 0 y59:=vjg;have l2:(ifB L rec (v86 L rec (a+1) false) y59).2.1<=skF L (ifB L rec (v86 L rec (a+1) false) y59).2.1 (ifB L rec (v86 L rec (a+1) false) y59).2.2 0 vui:=vjg;have u1:=hs.2 hlt;have u2:=ht.2 (w3a u1);exact vqe L a H.len h1 h2 _ _ _ (yyw L rec (a+1) false hlt (H.up (Nat.le_succ _)))
     (yyw L rec _ _ (w3a u1) (H.up (by omega))) (yyw L rec _ _ (w3a u2) (H.up (by unfold ifB at l2 ⊢;omega)))
   | false=>
    rw [cond_false];have hs:=zwy H.mo a false;have m:=yyw (Γ:=Γ) L rec a false ha H;generalize v86 L rec a false=x at *;obtain ⟨x,a1,b1⟩:=x;exact x4b L a H.len h1 h2 x a1 b1 _ m (fun i hi=>yyw L rec (a1+1) b1 (ziu hi) (H.up (by have:=hs.1;dsimp only at this;omega)))
theorem zng (L:List Tk) (hl:L.length<=1073741824):∀(n a:Nat) (b:Bool),a<=L.length->L.length-a<n->yl8 Γ L a b (exF L n a b)
 | 0,a,b,_,h=>absurd h (Nat.not_lt_zero _)
 | n+1,a,b,ha,h=>zdb L (exF L n) a b ha ⟨hl,(ymt L n).mono,(ymt L n).le,fun i c hi hi'=>zng L hl n i c hi' (by omega)⟩
end Go.Hp.T
namespace Go.Hp.T
open Go Go.RowKit Go.Slot Go.Hp Go.Slot.T
open Go.Proofs.Tryz
attribute [local irreducible] hide RH
set_option maxRecDepth 10000
set_option maxHeartbeats 8000000
variable {Γ:List (Nat×List Cell)}
theorem vp5:zE.Sm:=.mk _ (by decide) (by decide) (by decide) (fun y h=>by cases h)
theorem wbb {o n:Int} {u s:ByteArray} {l:List Ex} (hl:l.length<=1073741824) (hu:u.size<=1073741824) (hs:s.size<=1073741824) (h:∀ y∈l,y.Sm):(Ex.mk o n u s l).Sm:=.mk _ hl hu hs h
structure SmR (L:List Tk) (rec:Nat->Bool->Rd):Prop where
 len:L.length<=1048576
 tok:∀ a,(L.getD a default).t.size<=1048576
 mo:Mo L rec
 sm:∀ i c,(rec i c).1.Sm
theorem yfe {L:List Tk} {rec:Nat->Bool->Rd} (H:SmR L rec) (a:Nat) (b:Bool):(sm1 L rec a b).1.length<=1073741824/\∀ y∈(sm1 L rec a b).1,y.Sm:=by
 unfold sm1
 cases b with
 | true=>exact ⟨Nat.zero_le _,fun y h=>by cases h⟩
 | false=>exact ⟨by unfold clF;simp,fun y h=>by unfold clF at h;simp at h;rw [h];exact H.sm _ _⟩
theorem vv1 {L:List Tk} {rec:Nat->Bool->Rd} (H:SmR L rec) (a:Nat) (b:Bool):(sm2 L rec a b).1.length<=1073741824/\∀ y∈(sm2 L rec a b).1,y.Sm:=by
 unfold sm2
 cases b with
 | true=>exact ⟨Nat.zero_le _,fun y h=>by cases h⟩
 | false=>
  rw [cond_false]
  cases (rec a false).2.2 with
  | true=>exact ⟨by simp,fun y h=>by simp at h;rw [h];exact H.sm _ _⟩
  | false=>exact ⟨by unfold clF;simp,fun y h=>by unfold clF at h;simp at h;rcases h with h | h<;>rw [h]<;>exact H.sm _ _⟩
theorem z6f {L : List Tk} {rec : Nat → Bool → Rd} (H : SmR L rec) : ∀ (n : Nat) (out : List Ex) (a : Nat) (b : Bool), (∀ y ∈ out, y.Sm) → (anL L rec n out a b).1.length ≤ out.length + n ∧ ∀ y ∈ (anL L rec n out a b).1, y.Sm
 | 0,out,a,b,h=>⟨Nat.le_refl _,h⟩
 | n + 1, out, a, b, h => by
  rw [anL]
  cases isF L a b 3 tCm with
  | true=>
   have h2:=z6f H n (out++[(rec (a+1) false).1]) (rec (a+1) false).2.1 (rec (a+1) false).2.2 (fun y hy=>by
    rcases List.mem_append.1 hy with hy | hy
    . exact h y hy
    . simp at hy;rw [hy];exact H.sm _ _)
   rw [List.length_append,List.length_singleton] at h2;exact ⟨by rw [cond_true];omega,h2.2⟩
  | false=>exact ⟨Nat.le_add_right _ _,h⟩
theorem v8d {L:List Tk} {rec:Nat->Bool->Rd} (H:SmR L rec) (a:Nat):(anF L rec a).1.length<=1073741824/\∀ y∈(anF L rec a).1,y.Sm:=by
 have h:=z6f H L.length [(rec a false).1] (rec a false).2.1 (rec a false).2.2 (fun y hy=>by simp at hy;rw [hy];exact H.sm _ _)
 have:=H.len
 exact ⟨Nat.le_trans h.1 (by simp;omega),h.2⟩
theorem y5f {L:List Tk} {rec:Nat->Bool->Rd} (H:SmR L rec) (a:Nat) (b:Bool):(nmS L a b).size<=1073741824:=by
 unfold nmS
 have:=H.tok a
 cases nmOk L a b with
 | true=>rw [cond_true];omega
 | false=>rw [cond_false];decide
theorem zis {L:List Tk} {rec:Nat->Bool->Rd} (H:SmR L rec) (a:Nat) (b:Bool):(v86 L rec a b).1.Sm:=by
 have e0:(⟨#[]⟩:ByteArray).size<=1073741824:=by decide
 unfold v86
 cases b with
 | true=>exact vp5
 | false=>
  rw [cond_false]
  cases kdF L a false 1 with
  | true=>
   rw [cond_true];unfold nbE;refine wbb (Nat.zero_le _) ?_ e0 (fun y h=>by cases h)
   have:=H.tok (a+1)
   cases kdF L (a+1) false 2 with
   | true=>rw [cond_true];omega
   | false=>rw [cond_false];exact e0
  | false=>
   rw [cond_false]
   cases isF L a false 3 tLp with
   | true=>
    have hs:=yfe H (a+1) false;rw [cond_true];unfold atP
    cases (sm1 L rec (a+1) false).2.2 with
    | true=>exact vp5
    | false=>
     rw [cond_false];dsimp only
     cases hl:(sm1 L rec (a+1) false).1 with
     | nil=>exact vp5
     | cons y l=>exact hs.2 y (by rw [hl];exact List.mem_cons_self)
   | false=>
    rw [cond_false]
    cases isF L a false 0 vsr with
    | true=>
     have hs:=yfe H (skF L (lkA L (a+1)) (lkB L (a+1)) 3 tCm) (!isF L (lkA L (a+1)) (lkB L (a+1)) 3 tCm);exact wbb hs.1 e0 (y5f H _ _) hs.2
    | false=>
     rw [cond_false];have hs:=vv1 H (skF L (a+1) false 3 tLp) (!isF L (a+1) false 3 tLp)
     cases isF L a false 0 tMin with
     | true=>exact wbb hs.1 e0 e0 hs.2
     | false=>
      rw [cond_false]
      cases isF L a false 0 tMax with
      | true=>exact wbb hs.1 e0 e0 hs.2
      | false=>
       rw [cond_false];unfold atN
       cases isF L (nmA L a false) (nmB L a false) 3 tLp with
       | true=>
        have hs:=v8d H (nmA L a false+1);exact wbb hs.1 e0 (y5f H _ _) hs.2
       | false=>exact wbb (Nat.zero_le _) e0 (y5f H _ _) (fun y h=>by cases h)
theorem w7u {L:List Tk} {rec:Nat->Bool->Rd} (H:SmR L rec) (a:Nat) (b:Bool):(xbk L rec a b).1.Sm:=by
 have e0:(⟨#[]⟩:ByteArray).size<=1073741824:=by decide
 unfold xbk
 cases b with
 | true=>exact vp5
 | false=>
  rw [cond_false]
  cases isF L a false 0 tNot with
  | true=>exact wbb (by simp) e0 e0 (fun y h=>by simp at h;rw [h];exact zis H _ _)
  | false=>
   rw [cond_false]
   cases isF L a false 0 tIf with
   | true=>exact wbb (by simp) e0 e0 (fun y h=>by simp at h;rcases h with h | h | h<;>rw [h]<;>exact zis H _ _)
   | false=>
    rw [cond_false];have hx:=zis H a false;generalize v86 L rec a false=x at *;unfold opM
    cases opNx L x.2.1 x.2.2 with
    | none=>exact hx
    | some i=>exact wbb (by simp) e0 e0 (fun y h=>by simp at h;rcases h with h | h<;>rw [h];exact hx;exact zis H _ _)
theorem z3a {L:List Tk} (hl:L.length<=1048576) (ht:∀ a,(L.getD a default).t.size<=1048576):∀(n a:Nat) (b:Bool),(exF L n a b).1.Sm
 | 0,_a,_b=>vp5
 | n+1,a,b=>w7u ⟨hl,ht,ymt L n,z3a hl ht n⟩ a b
def x49 (L:List Tk) (a:Nat):Ex×Nat×Int:=
 bif (exF L (L.length+1) a false).2.2 then (zE,(exF L (L.length+1) a false).2.1,12) else
 bif wck (exF L (L.length+1) a false).1 then ((exF L (L.length+1) a false).1,(exF L (L.length+1) a false).2.1,0) else (zE,(exF L (L.length+1) a false).2.1,6)
theorem zek (p q:AV):RLe (.tup [.agg [cI 0,cI 0,cS ⟨#[]⟩,cS ⟨#[]⟩,.zc],p,q]) (.tup [.agg (exC zE),p,q]):=.tup (.cons (.agg (.cons (.refl _) (.cons (.refl _) (.cons (.refl _) (.cons (.refl _) (.cons (.zcSl _) .nil)))))) (.cons (.refl _) (.cons (.refl _) .nil)))
theorem vn5 (L:List Tk) (a:Nat) (hl:L.length<=1048576) (ht:∀ a,(L.getD a default).t.size<=1048576) (ha:a<=L.length):CallsD Γ prog 210 [.one (.sl 4 (L.map Tk.C)),.one (cI a)] (.tup [.agg (exC (x49 L a).1),.one (cI (x49 L a).2.1),.one (cI (x49 L a).2.2)]):=by
 have c:=zng (Γ:=Γ) L (by omega) (L.length+1) a false ha (by omega);have hs:=z3a hl ht (L.length+1) a false;unfold x49;generalize exF L (L.length+1) a false=r at *;obtain ⟨x,a1,b1⟩:=r;have cr:=xcn (Γ:=Γ) x hs;unfold yl8 at c;simp only at c;clear hs ht
 cases b1 with
 | true=>
  refine hE [] func210 f210.eq_1 ?_
  repeat' first | refine hF ?_ ?_<;>intros | refine hI ?_
  all_goals try (exfalso;omega)
  refine hca [1] c ?_
  repeat' first | refine hF ?_ ?_<;>intros | refine hI ?_
  exact zek _ _
 | false=>
  cases h:wck x with
  | true=>
   rw [h] at cr;refine hE [] func210 f210.eq_1 ?_
   repeat' first | refine hF ?_ ?_<;>intros | refine hI ?_
   all_goals try (exfalso;omega)
   refine hca [1] c ?_
   repeat' first | refine hF ?_ ?_<;>intros | refine hI ?_ | (with_reducible first | refine w5a (cr) ?_ | refine xqd (cr) ?_)<;>refine hgS ?_
   exact RLe.ofEq rfl
  | false=>
   rw [h] at cr;refine hE [] func210 f210.eq_1 ?_
   repeat' first | refine hF ?_ ?_<;>intros | refine hI ?_
   all_goals try (exfalso;omega)
   refine hca [1] c ?_
   repeat' first | refine hF ?_ ?_<;>intros | refine hI ?_ | (with_reducible first | refine w5a (cr) ?_ | refine xqd (cr) ?_)<;>refine hgS ?_
   exact zek _ _
end Go.Hp.T
namespace Go.Hp.T
open Go Go.RowKit Go.Slot Go.Hp Go.Slot.T
open Go.Proofs.Tryz
attribute [local irreducible] hide RH
set_option maxRecDepth 10000
set_option maxHeartbeats 4000000
variable {Γ:List (Nat×List Cell)}
theorem zuq (x:Dm):CallsD Γ prog 176 [.agg (dmC x)] (.one (cB (wag x))):=by
 refine hE [] func176 f176.eq_1 ?_
 repeat' first | refine hF ?_ ?_<;>intros | refine hI ?_ | (first | with_reducible refine xwl ?_ | with_reducible refine yxz ?_)<;>refine hgS ?_
 all_goals refine lf2 @wag.eq_def @bad9.eq_def ?_;first | exact trivial | rfl
theorem z4q (c:Int):CallsD Γ prog 213 [.one (c8 c)] (.one (cB (xmn c))):=by
 refine hE [] func213 f213.eq_1 ?_
 repeat' ((first | refine hfk ?_ ?_<;>intros | refine hik ?_)<;>refine hgS ?_)
 all_goals refine lf1 @xmn.eq_def ?_;first | exact trivial | rfl
theorem wnx (b e p q:Int) (hb:b=0\/b=1\/b=2\/b=3\/b=4\/b=5) (hp:inI p) (hq:inI q) (hq0:q≠0):CallsD Γ prog 214 [.one (cI b),.one (cI e),.one (cI p),.one (cI q)] (.agg (unC (unOf b e p q))):=by
 rcases hb with rfl | rfl | rfl | rfl | rfl | rfl
 all_goals
  refine hE [] func214 f214.eq_1 ?_
  repeat' ((first | refine hfk ?_ ?_<;>intros | refine hik ?_ | with_reducible first | refine w5a (qOf p q hp hq hq0) ?_ | refine xqd (qOf p q hp hq hq0) ?_)<;>refine hgS ?_)
  exact RLe.ofEq rfl
theorem xgr (s:ByteArray):CallsD Γ prog 200 [.one (cS s)] (.tup [.agg (unO (symF s)),.one (cB (symF s).isSome)]):=by
 have h1:=wnx (Γ:=Γ) 0 1 1 1 (by decide) (by decide) (by decide) (by decide);have h2:=wnx (Γ:=Γ) 0 1 1000000 1 (by decide) (by decide) (by decide) (by decide);have h3:=wnx (Γ:=Γ) 1 1 1 1 (by decide) (by decide) (by decide) (by decide);have h4:=wnx (Γ:=Γ) 1 3 1 1000 (by decide) (by decide) (by decide) (by decide);have h5:=wnx (Γ:=Γ) 2 1 1 1 (by decide) (by decide) (by decide) (by decide);have h6:=wnx (Γ:=Γ) 2 1 3600 1 (by decide) (by decide) (by decide) (by decide);have h7:=wnx (Γ:=Γ) 2 1 86400 1 (by decide) (by decide) (by decide) (by decide);have h8:=wnx (Γ:=Γ) 3 1 1 1 (by decide) (by decide) (by decide) (by decide);have h9:=wnx (Γ:=Γ) 3 1 3600 1 (by decide) (by decide) (by decide) (by decide);have h10:=wnx (Γ:=Γ) 4 1 1 1 (by decide) (by decide) (by decide) (by decide);have h11:=wnx (Γ:=Γ) 4 1 100 1 (by decide) (by decide) (by decide) (by decide);have h12:=wnx (Γ:=Γ) 5 1 1 1 (by decide) (by decide) (by decide) (by decide);refine hE [] func200 f200.eq_1 ?_
 repeat' ((first | refine hfk ?_ ?_<;>intros | refine hik ?_ | with_reducible first | refine w5a (h1) ?_ | refine xqd (h1) ?_ | refine w5a (h2) ?_ | refine xqd (h2) ?_ | refine w5a (h3) ?_ | refine xqd (h3) ?_ | refine w5a (h4) ?_ | refine xqd (h4) ?_ | refine w5a (h5) ?_ | refine xqd (h5) ?_ | refine w5a (h6) ?_ | refine xqd (h6) ?_ | refine w5a (h7) ?_ | refine xqd (h7) ?_ | refine w5a (h8) ?_ | refine xqd (h8) ?_ | refine w5a (h9) ?_ | refine xqd (h9) ?_ | refine w5a (h10) ?_ | refine xqd (h10) ?_ | refine w5a (h11) ?_ | refine xqd (h11) ?_ | refine w5a (h12) ?_ | refine xqd (h12) ?_)<;>refine hgS ?_)
 all_goals (refine RLe.ofEq ?_;conv=>simp only [Bool.and_true,Bool.true_and,Bool.and_false,Bool.false_and,Bool.or_true,Bool.true_or,Bool.or_false,Bool.false_or,Bool.not_true,Bool.not_false,decide_true,decide_false,not_true_eq_false,not_false_eq_true,w4r,if_true,if_false,Bool.and_self,Bool.or_self,cond_true,cond_false,List.length_map,ne_eq,Int.reduceEq,Int.reduceLT,Int.reduceLE, *,symF,unO,Option.isSome]);first | exact trivial | rfl
theorem xz0 (c:Int):CallsD Γ prog 201 [.one (c8 c)] (.tup [.one (cI (preO (preF c)).1),.one (cI (preO (preF c)).2),.one (cB (preF c).isSome)]):=by
 refine hE [] func201 f201.eq_1 ?_
 repeat' ((first | refine hfk ?_ ?_<;>intros | refine hik ?_)<;>refine hgS ?_)
 all_goals (refine RLe.ofEq ?_;conv=>simp only [Bool.and_true,Bool.true_and,Bool.and_false,Bool.false_and,Bool.or_true,Bool.true_or,Bool.or_false,Bool.false_or,Bool.not_true,Bool.not_false,decide_true,decide_false,not_true_eq_false,not_false_eq_true,w4r,if_true,if_false,Bool.and_self,Bool.or_self,cond_true,cond_false,List.length_map,ne_eq,Int.reduceEq,Int.reduceLT,Int.reduceLE, *,preF,preO,Option.isSome]);first | exact trivial | rfl
theorem wog (s:ByteArray):CallsD Γ prog 202 [.one (cS s)] (.one (cB (ygc s))):=by
 refine hE [] func202 f202.eq_1 ?_
 repeat' ((first | refine hfk ?_ ?_<;>intros | refine hik ?_)<;>refine hgS ?_)
 all_goals refine lf1 @ygc.eq_def ?_;first | exact trivial | rfl
theorem sExt (s:ByteArray) (i:Nat):s.extract 0 i=y3n s i:=rfl
theorem whk (s:ByteArray) (i:Nat):s.extract i s.size=zbk s i:=rfl
attribute [go_sem] sExt whk
theorem y04 (s p:ByteArray) (_hs:s.size<=1073741824) (hp:p.size<=1073741824):CallsD Γ prog 218 [.one (cS s),.one (cS p)] (.one (cB (whe s p))):=by
 refine hE [] func218 f218.eq_1 ?_
 repeat' ((first | refine hfk ?_ ?_<;>intros | refine hik ?_)<;>refine hgS ?_)
 all_goals refine lf1 @whe.eq_def ?_;first | exact trivial | rfl
theorem wt0 (s p:ByteArray) (hs:s.size<=1073741824) (hp:p.size<=1073741824):CallsD Γ prog 212 [.one (cS s),.one (cS p)] (.tup [.one (cS (bif whe s p then zbk s p.size else s)),.one (cB (whe s p))]):=by
 refine hE [] func212 f212.eq_1 ?_;refine w5a (y04 s p hs hp) ?_;refine hg ?_;refine yks (fun h=>?_) (fun h=>?_)
 . refine hg ?_
   refine lfE ?_;first | exact trivial | rfl
 . have hle:p.size<=s.size:=by
    simp only [whe,Bool.and_eq_true,decide_eq_true_eq] at h;omega
   refine hg ?_
   refine lfE ?_;first | exact trivial | rfl
theorem xdx (s p:ByteArray) (hs:s.size<=1073741824) (hp:p.size<=1073741824):CallsD Γ prog 198 [.one (cS s),.one (cS p)] (.tup [.one (cS (bif whe s p then zbk s p.size else s)),.one (cB (whe s p))]):=by
 refine hE [] func198 f198.eq_1 ?_
 repeat' ((first | refine hfk ?_ ?_<;>intros | refine hik ?_ | with_reducible first | refine w5a (wt0 s p hs hp) ?_ | refine xqd (wt0 s p hs hp) ?_)<;>refine hgS ?_)
 all_goals refine lfE ?_;first | exact trivial | rfl
theorem cCut (s:ByteArray) (hs:s.size<=1073741824):CallsD Γ prog 199 [.one (cS s)] (.tup [.agg (itC (zx2 s)),.one (cS (yxv s)),.one (cB (xa7 s))]):=by
 refine hE [] func199 f199.eq_1 ?_;refine vi3 [0,2] (fun n:Nat=>[(5,.one (.dat (cI n)))]) (fun _=>[.box [.dat (cS ⟨⟨[]⟩⟩),.dat (cI 0)] (some 256)]) (fun n=>n<=s.size/\∀ j,j<n->xmn (zk7 s j)=true) (fun n=>s.size-n) 0 ⟨Nat.zero_le _,fun j hj=>by omega⟩ ?_ ?_
 . refine hg ?_;exact sS
 intro n hn;obtain ⟨hn,hj⟩:=hn;refine hg ?_;refine yw1 (fun hlt hd=>?_) (fun hlt _=>?_)
 . refine hg1 @hd ?_;refine w5a (z4q _) ?_;refine hg ?_;refine zb8 (fun h1=>?_) (fun h1=>?_)
   . refine hg ?_;refine ⟨n+1,⟨by omega,fun j hj'=>?_⟩,by omega,sS⟩
     rcases Nat.lt_or_eq_of_le (Nat.le_of_lt_succ hj') with h2 | h2
     . exact hj j h2
     . rw [h2];exact h1
   . have hsp:=xba hn hj (.inr h1);clear h1;refine hg ?_
     repeat' ((first | refine hfk ?_ ?_<;>intros | refine hik ?_)<;>refine hgS ?_)
     all_goals (refine RLe.ofEq ?_;conv=>simp only [Bool.and_true,Bool.true_and,Bool.and_false,Bool.false_and,Bool.or_true,Bool.true_or,Bool.or_false,Bool.false_or,Bool.not_true,Bool.not_false,decide_true,decide_false,not_true_eq_false,not_false_eq_true,w4r,if_true,if_false,Bool.and_self,Bool.or_self,cond_true,cond_false,List.length_map,ne_eq,Int.reduceEq,Int.reduceLT,Int.reduceLE, *,zx2,yxv,vm9,z8g,xa7,hsp]);first | exact trivial | rfl
 . have hsp:=xba hn hj (.inl (by omega));refine hgS ?_
   repeat' ((first | refine hfk ?_ ?_<;>intros | refine hik ?_)<;>refine hgS ?_)
   all_goals (refine RLe.ofEq ?_;conv=>simp only [Bool.and_true,Bool.true_and,Bool.and_false,Bool.false_and,Bool.or_true,Bool.true_or,Bool.or_false,Bool.false_or,Bool.not_true,Bool.not_false,decide_true,decide_false,not_true_eq_false,not_false_eq_true,w4r,if_true,if_false,Bool.and_self,Bool.or_self,cond_true,cond_false,List.length_map,ne_eq,Int.reduceEq,Int.reduceLT,Int.reduceLE, *,zx2,yxv,vm9,z8g,xa7,hsp]);first | exact trivial | rfl
theorem ws4 (s:ByteArray) (hs:s.size<=1073741824) (h1:1<=s.size):CallsD Γ prog 174 [.one (cS s)] (.tup [.agg (unO (yf3 s)),.one (cB (yf3 s).isSome)]):=by
 refine hE [] func174 f174.eq_1 ?_;refine w5a (xgr s) ?_
 cases hy:symF s with
 | some u=>
  conv=>simp (maxSteps:=2000000) (disch:=omega) only [go_sem,Nat.reduceAdd,Nat.reduceSub,Nat.reduceMul,Int.reduceToNat,Nat.reduceEqDiff,Nat.reduceBEq,Nat.reduceBneDiff,Nat.reduceLT,Int.reduceEq,Int.reduceLT,Int.reduceLE,Int.reduceNeg,Int.reduceAdd,Int.reduceSub,Int.reduceMul,unO,Option.isSome]
  exact RLe.ofEq (by simp only [yf3,hy];rfl)
 | none=>
  conv=>simp (maxSteps:=2000000) (disch:=omega) only [go_sem,Nat.reduceAdd,Nat.reduceSub,Nat.reduceMul,Int.reduceToNat,Nat.reduceEqDiff,Nat.reduceBEq,Nat.reduceBneDiff,Nat.reduceLT,Int.reduceEq,Int.reduceLT,Int.reduceLE,Int.reduceNeg,Int.reduceAdd,Int.reduceSub,Int.reduceMul,unO,Option.isSome]
  refine w5a (xz0 _) ?_;refine hg ?_;refine w5a (xgr _) ?_
  cases hp:preF (zk7 s 0) with
  | none=>
   cases hy2:symF (zbk s 1)<;>
   . conv=>simp (maxSteps:=2000000) (disch:=omega) only [go_sem,Nat.reduceAdd,Nat.reduceSub,Nat.reduceMul,Int.reduceToNat,Nat.reduceEqDiff,Nat.reduceBEq,Nat.reduceBneDiff,Nat.reduceLT,Int.reduceEq,Int.reduceLT,Int.reduceLE,Int.reduceNeg,Int.reduceAdd,Int.reduceSub,Int.reduceMul,unO,Option.isSome]
     exact RLe.ofEq (by simp only [yf3,hy,hp];rfl)
  | some p=>
   cases hy2:symF (zbk s 1) with
   | none=>
    conv=>simp (maxSteps:=2000000) (disch:=omega) only [go_sem,Nat.reduceAdd,Nat.reduceSub,Nat.reduceMul,Int.reduceToNat,Nat.reduceEqDiff,Nat.reduceBEq,Nat.reduceBneDiff,Nat.reduceLT,Int.reduceEq,Int.reduceLT,Int.reduceLE,Int.reduceNeg,Int.reduceAdd,Int.reduceSub,Int.reduceMul,unO,Option.isSome]
    exact RLe.ofEq (by simp only [yf3,hy,hp,hy2];rfl)
   | some u=>
    obtain ⟨_,hu1,_⟩:=v9v hy2;obtain ⟨hp1,hp2⟩:=v7i hp;obtain ⟨hf1,_⟩:=yhs hp1 hp2
    conv=>simp (maxSteps:=2000000) (disch:=omega) only [go_sem,Nat.reduceAdd,Nat.reduceSub,Nat.reduceMul,Int.reduceToNat,Nat.reduceEqDiff,Nat.reduceBEq,Nat.reduceBneDiff,Nat.reduceLT,Int.reduceEq,Int.reduceLT,Int.reduceLE,Int.reduceNeg,Int.reduceAdd,Int.reduceSub,Int.reduceMul,unO,Option.isSome,preO]
    repeat' ((first | refine hfk ?_ ?_<;>intros | refine hik ?_ | with_reducible first | refine w5a (wog _) ?_ | refine xqd (wog _) ?_ | refine w5a (qOf p.1 p.2 (by unfold inI;omega) (by unfold inI;omega) (by omega)) ?_ | refine xqd (qOf p.1 p.2 (by unfold inI;omega) (by unfold inI;omega) (by omega)) ?_ | refine w5a (qMul _ _ (Nat.le_trans hu1 (by decide)) (Nat.le_trans hf1 (by decide))) ?_ | refine xqd (qMul _ _ (Nat.le_trans hu1 (by decide)) (Nat.le_trans hf1 (by decide))) ?_)<;>refine hgS ?_)
    all_goals rename_i hq
    all_goals exact RLe.ofEq (by simp only [yf3,hy,hp,hy2,hq];rfl)
theorem xqh (a f:Rat) (x:Int) (hx:x.natAbs<=1000) (ha:qs a<=100000) (hf:qs f<=1000) (hf0:f≠0):CallsD Γ prog 175 [.agg (fQ a),.agg (fQ f),.one (cI x)] (.agg (fQ (zcr a f x))):=by
 refine hE [] func175 f175.eq_1 ?_;refine vi3 [2,3,4,6,10] (fun i:Nat=>[(11,.one (.dat (cI i)))]) (fun i=>[.box ((fQ (pw a f x i)).map .dat) (some 51),.box ((fQ f).map .dat) (some 51),.box [.dat (cI 0),.dat .zc,.dat (cI 0),.dat .zc] (some 51)]) (fun i=>i<=x.natAbs) (fun i=>x.natAbs-i) 0 (Nat.zero_le _) ?_ ?_
 . refine hg ?_;exact StH.same svl (by rw [wrf])
 intro i hi;have hq:=y6u a f x i;have hm:i*(qs f+1)<=1000*1001:=Nat.mul_le_mul (by omega) (by omega);refine hg ?_;refine vdi (fun hlt _=>?_) (fun hlt _=>?_)
 . refine hg ?_;refine vdi (fun hp hd=>?_) (fun hp hd=>?_)
   . refine hg ?_;refine w5a (qMul (pw a f x i) f (by omega) (by omega)) ?_;refine hg ?_;exact ⟨i+1,by omega,by omega,StH.same svl (by rw [v7j hp])⟩
   . refine hg ?_;refine w5a (qDiv (pw a f x i) f hf0 (by omega) (by omega)) ?_;refine hg ?_;exact ⟨i+1,by omega,by omega,StH.same svl (by rw [v5f hp])⟩
 . refine hg ?_
   have e:i=x.natAbs:=by omega
   subst e;exact RLe.ofEq rfl
theorem xsi (s:ByteArray) (hs:s.size<=1073741824):CallsD Γ prog 173 [.one (cS s)] (.tup [.one (.sl 2 ((itO (wv0 s)).map It.C)),.one (cB (wv0 s).isSome)]):=by
 have bad:∀ b,wv0 s=none->b=false->RLe (.tup [.one (.raw (.slice none 0 0)),.one (cB b)]) (.tup [.one (.sl 2 ((itO (wv0 s)).map It.C)),.one (cB (wv0 s).isSome)]):=fun b h hb=>by
  rw [h,hb];exact .tup (.cons (.one (.nilSl 2)) (.cons (.refl _) .nil))
 refine hE [(9,[.join])] func173 f173.eq_1 ?_
 repeat' ((first | refine hfk ?_ ?_<;>intros | refine hik ?_)<;>refine hgS ?_)
 . exact .tup (.cons (.one (by rename_i h;simp only [wv0,h];exact .nilSl 2)) (.cons (by rename_i h;simp only [wv0,h];exact .refl _) .nil))
 . refine bad _ (by simp only [wv0, *];rfl) rfl
 refine w5a (xdx _ _ hs (by decide)) ?_;refine hgS ?_;refine v81 [2,3,4] (fun r:ByteArray=>[(5,.one (.dat (cS r)))]) (fun _=>[]) (fun r=>r=vm5 s) ?_ ?_
 . refine hg ?_;refine yks (fun h=>?_) (fun h=>?_)
   . refine hg ?_;refine ⟨_,rfl,?_⟩;simp only [vm5,h];exact sS
   . refine hg ?_;refine ⟨_,rfl,?_⟩;simp only [vm5,h];exact sS
 intro r0 hr0
 have h0:wv0 s=vbf (s.size+2) r0 []:=by simp only [wv0, *];rfl
 have hsz:r0.size<=s.size+1:=by
  rw [hr0];unfold vm5;have h42:(⟨#[42]⟩:ByteArray).size=1:=rfl
  cases whe s ⟨#[49]⟩
  . simp only [cond_false,ByteArray.size_append];omega
  . simp only [cond_true,xnh];omega
 clear hr0;refine hg ?_;refine vi3 [2,3] (fun p:Nat×ByteArray×List It=>[(4,.one (.sl 0 2 0 p.2.2.length)),(5,.one (.dat (cS p.2.1)))]) (fun p=>[.arr (.sl 2 (p.2.2.map It.C)) 0 (some 256)])
  (fun p=>p.2.1.size<p.1/\p.2.1.size<=1073741824/\p.2.2.length+p.2.1.size<=100/\vbf p.1 p.2.1 p.2.2=wv0 s) (fun p=>p.2.1.size) (s.size+2,r0,[]) ⟨by simp only;omega,by simp only;omega,by simp only [List.length_nil];omega,h0.symm⟩ ?_ ?_
 . refine hg ?_;refine StH.trans (StH.empty (d:=4) (es:=2) (c:=.sl 2 []) (T:=some 256) rfl rfl (fun r hr=>by cases hr) rfl) ?_;refine hg ?_;exact sS
 rintro ⟨k,r,acc⟩ ⟨h1,h2,h3,h4⟩;simp only at h1 h2 h3 h4;clear h0 hsz;obtain ⟨k,rfl⟩:∃ m,k=m+1:=⟨k-1,by omega⟩;rw [vbf] at h4;refine hg ?_;refine vdi (fun hne _=>?_) (fun he _=>?_)
 . have hne':=decide_eq_false hne;rw [hne',cond_false] at h4;have hd':=xnh r 1;refine hg ?_;have hcs:=x4f (zbk r 1);have hce:=zyi (zbk r 1);rw [hd'] at hcs;refine w5a (cCut (zbk r 1) (by rw [hd'];omega)) ?_;refine hg ?_
   have g1:(yxv (zbk r 1)).size<k:=by omega
   have g2:(yxv (zbk r 1)).size<=1073741824:=by omega
   have g3:∀ x:It,(acc++[x]).length+(yxv (zbk r 1)).size<=100:=fun x=>by rw [List.length_append,List.length_singleton];omega
   have g4:(yxv (zbk r 1)).size<r.size:=by omega
   have hmap:∀ x:It,acc.map It.C++[itC x]=(acc++[x]).map It.C:=fun x=>by simp;rfl
   repeat' ((first | refine hfk ?_ ?_<;>intros | refine hik ?_)<;>refine hgS ?_)
   . exact bad _ (by rw [<-h4];simp only [*];rfl) rfl
   . rename_i h47 _
     have h4':vbf k (yxv (zbk r 1)) (acc++[⟨(zx2 (zbk r 1)).w,0-(zx2 (zbk r 1)).e⟩])=wv0 s:=by
      rw [<-h4];simp only [*,xlc];rfl
     refine ⟨(k,yxv (zbk r 1),acc++[⟨(zx2 (zbk r 1)).w,0-(zx2 (zbk r 1)).e⟩]),?_,?_,?_⟩
     . dsimp only;exact ⟨g1,g2,g3 _,h4'⟩
     . dsimp only;exact g4
     rw [hmap ⟨(zx2 (zbk r 1)).w,0-(zx2 (zbk r 1)).e⟩];refine StH.back [2,3,4,5] 0 2 1 rfl rfl rfl rfl rfl (by kernel_rfl) ?_;refine hg ?_;exact sS
   . exfalso;omega
   . exfalso;omega
   . have h4':vbf k (yxv (zbk r 1)) (acc++[zx2 (zbk r 1)])=wv0 s:=by
      rw [<-h4];simp only [*,xlc];rfl
     refine ⟨(k,yxv (zbk r 1),acc++[zx2 (zbk r 1)]),?_,?_,?_⟩
     . dsimp only;exact ⟨g1,g2,g3 _,h4'⟩
     . dsimp only;exact g4
     try rw [hmap (zx2 (zbk r 1))]
     refine StH.back [2,3,4,5] 0 2 1 rfl rfl rfl rfl rfl (by kernel_rfl) ?_;refine hg ?_;exact sS
   . exact bad _ (by rw [<-h4];simp only [*];rfl) rfl
 . refine hg ?_;have he':decide (r.size=0)=true:=decide_eq_true (by omega);rw [he',cond_true] at h4;rw [<-h4];exact RLe.ofEq rfl
theorem v66 (s:ByteArray) (hs:s.size<=1073741824):CallsD Γ prog 151 [.one (cS s)] (.tup [.agg (unO (xe6 s).1),.one (cI (xe6 s).2)]):=by
 refine hE [] func151 f151.eq_1 ?_;refine w5a (xsi s hs) ?_
 cases hi:wv0 s with
 | none=>
  conv=>simp (maxSteps:=2000000) (disch:=omega) only [go_sem,Nat.reduceAdd,Nat.reduceSub,Nat.reduceMul,Int.reduceToNat,Nat.reduceEqDiff,Nat.reduceBEq,Nat.reduceBneDiff,Nat.reduceLT,Int.reduceEq,Int.reduceLT,Int.reduceLE,Int.reduceNeg,Int.reduceAdd,Int.reduceSub,Int.reduceMul,Option.isSome,itO]
  exact RLe.ofEq (by simp only [xe6,hi];rfl)
 | some l=>
  obtain ⟨hl,hx⟩:=yps hi
  conv=>simp (maxSteps:=2000000) (disch:=omega) only [go_sem,Nat.reduceAdd,Nat.reduceSub,Nat.reduceMul,Int.reduceToNat,Nat.reduceEqDiff,Nat.reduceBEq,Nat.reduceBneDiff,Nat.reduceLT,Int.reduceEq,Int.reduceLT,Int.reduceLE,Int.reduceNeg,Int.reduceAdd,Int.reduceSub,Int.reduceMul,Option.isSome,itO]
  refine w5a (qInt 1 (by decide)) ?_;refine hg ?_;refine vi3 [2,6,23,24] (fun p:Nat×Un=>[(25,.one (.dat (cI p.1)))]) (fun p=>[.box (unZ.map .dat) (some 235),.box ((unC p.2).map .dat) (some 235)])
   (fun p=>p.1<=l.length/\p.2.d.le (27*p.1)/\qs p.2.f<=1+100*p.1/\xrq (l.drop p.1) p.2=xrq l ⟨Dm.zero,(1:Int)⟩) (fun p=>l.length-p.1) (0,⟨Dm.zero,(1:Int)⟩) ⟨Nat.zero_le _,by unfold Dm.le;decide,yj5,rfl⟩ ?_ ?_
  . refine hg ?_;exact sS
  rintro ⟨i,u⟩ ⟨h1,h2,h3,h4⟩;simp only at h1 h2 h3 h4;refine hg ?_;refine vdi (fun hlt _=>?_) (fun hlt _=>?_)
  . have hlt':i<l.length:=by omega
    have hok:=hx _ (vdv hlt');rw [zn8 hlt',xrq] at h4;refine hg ?_;refine w5a (ws4 _ (by have:=hok.2.1;omega) hok.1) ?_
    cases hw:yf3 (l.getD i default).w with
    | none=>
     conv=>simp (maxSteps:=2000000) (disch:=omega) only [go_sem,Nat.reduceAdd,Nat.reduceSub,Nat.reduceMul,Int.reduceToNat,Nat.reduceEqDiff,Nat.reduceBEq,Nat.reduceBneDiff,Nat.reduceLT,Int.reduceEq,Int.reduceLT,Int.reduceLE,Int.reduceNeg,Int.reduceAdd,Int.reduceSub,Int.reduceMul,Option.isSome,unO]
     rw [hw] at h4;exact RLe.ofEq (by simp only [xe6,hi,<-h4])
    | some v=>
     obtain ⟨hv1,hv2,hv3⟩:=v73 hw;rw [hw] at h4;obtain ⟨b1,b2,b3,b4,b5,b6⟩:=h2;obtain ⟨d1,d2,d3,d4,d5,d6⟩:=hv1;have he:=hok.2.2;have c1:=x8h d1 he;have c2:=x8h d2 he;have c3:=x8h d3 he;have c4:=x8h d4 he;have c5:=x8h d5 he;have c6:=x8h d6 he
     have hq:qs (zcr u.f v.f (l.getD i default).e)<=qs u.f+9*(qs v.f+1):=by
      have:=y6u u.f v.f (l.getD i default).e (l.getD i default).e.natAbs
      rw [<-vak] at this;have h9:(l.getD i default).e.natAbs*(qs v.f+1)<=9*(qs v.f+1):=Nat.mul_le_mul_right _ (by omega);omega
     have hle:(u.d.acc v.d (l.getD i default).e).le (27*(i+1:Nat)):=by
      have:=Dm.vm7 (x:=u.d) ⟨b1,b2,b3,b4,b5,b6⟩ ⟨d1,d2,d3,d4,d5,d6⟩ he
      rw [show (27*((i+1:Nat):Int))=27*i+27 from by omega];exact this
     conv=>simp (maxSteps:=2000000) (disch:=omega) only [go_sem,Nat.reduceAdd,Nat.reduceSub,Nat.reduceMul,Int.reduceToNat,Nat.reduceEqDiff,Nat.reduceBEq,Nat.reduceBneDiff,Nat.reduceLT,Int.reduceEq,Int.reduceLT,Int.reduceLE,Int.reduceNeg,Int.reduceAdd,Int.reduceSub,Int.reduceMul,Option.isSome,unO]
     repeat' ((first | refine hfk ?_ ?_<;>intros | refine hik ?_ | with_reducible refine xwl ?_ | with_reducible refine yxz ?_ | with_reducible first | refine w5a (xqh u.f v.f (l.getD i default).e (by omega) (by omega) (by omega) hv3) ?_ | refine xqd (xqh u.f v.f (l.getD i default).e (by omega) (by omega) (by omega) hv3) ?_)<;>refine hgS ?_)
     refine ⟨(i+1,⟨u.d.acc v.d (l.getD i default).e,zcr u.f v.f (l.getD i default).e⟩),?_,?_,?_⟩
     . dsimp only;exact ⟨by omega,hle,by omega,h4⟩
     . dsimp only;omega
     refine StH.back [2,6,23,24,25] 2 2 2 rfl rfl rfl rfl rfl (by kernel_rfl) ?_;refine hg ?_;exact sS
  . have h4':xrq l ⟨Dm.zero,(1:Int)⟩=some u:=by rw [<-h4,List.drop_eq_nil_of_le (by omega)];rfl
    refine hg ?_
    repeat' ((first | refine hfk ?_ ?_<;>intros | refine hik ?_ | with_reducible first | refine w5a (zuq _) ?_ | refine xqd (zuq _) ?_)<;>refine hgS ?_)
    all_goals
     rename_i hd;exact RLe.ofEq (by simp only [xe6,hi,h4',hd];rfl)
end Go.Hp.T
