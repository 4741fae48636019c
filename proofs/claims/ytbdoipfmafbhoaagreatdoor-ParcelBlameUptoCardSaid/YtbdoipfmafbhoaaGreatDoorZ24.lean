/- The proof, part Z24: Pl, Pm, Nc, Nd. -/
import Derived.Test.YtbdoipfmafbhoaaGreatDoorZ23
import Derived.Test.YtbdoipfmafbhoaaGreatDoorZ22
import Derived.Test.YtbdoipfmafbhoaaGreatDoorZ18
import Derived.Test.YtbdoipfmafbhoaaGreatDoorZ21
namespace Go.Hp.T
open Go Go.RowKit Go.Slot Go.Hp Go.Slot.T
open Go.Proofs.Tryz (prog)
set_option maxRecDepth 10000
set_option maxHeartbeats 8000000
variable {Γ:List (Nat×List Cell)}
structure Mo (L:List Tk) (rec:Nat->Bool->Rd):Prop where
 mono:∀ i c,i<=(rec i c).2.1
 le:∀ i c,i<=L.length->(rec i c).2.1<=L.length
theorem viz {L:List Tk} {rec:Nat->Bool->Rd} (H:Mo L rec) (a:Nat) (b:Bool):a<=(sm1 L rec a b).2.1/\(a<=L.length->(sm1 L rec a b).2.1<=L.length):=by
 unfold sm1
 cases b with
 | true=>exact ⟨Nat.le_refl _,fun h=>h⟩
 | false=>exact ⟨Nat.le_trans (H.mono a false) y23,fun h=>wgy (H.le a false h)⟩
theorem y53 {L:List Tk} {rec:Nat->Bool->Rd} (H:Mo L rec) (a:Nat) (b:Bool):a<=(sm2 L rec a b).2.1/\(a<=L.length->(sm2 L rec a b).2.1<=L.length):=by
 unfold sm2
 cases b with
 | true=>exact ⟨Nat.le_refl _,fun h=>h⟩
 | false=>
  rw [cond_false]
  cases (rec a false).2.2 with
  | true=>exact ⟨H.mono a false,fun h=>H.le a false h⟩
  | false=>exact ⟨Nat.le_trans (H.mono a false) (Nat.le_trans y23 (Nat.le_trans (H.mono _ _) y23)),fun h=>wgy (H.le _ _ (wgy (H.le a false h)))⟩
theorem yzr {L:List Tk} {rec:Nat->Bool->Rd} (H:Mo L rec):∀(n:Nat) (out:List Ex) (a:Nat) (b:Bool),a<=(anL L rec n out a b).2.1/\(a<=L.length->(anL L rec n out a b).2.1<=L.length)
 | 0,out,a,b=>⟨y23,fun h=>wgy h⟩
 | n+1,out,a,b=>by
  rw [anL]
  cases hi:isF L a b 3 tCm with
  | true=>
   have h1:=(wug hi).1;have h2:=yzr H n (out++[(rec (a+1) false).1]) (rec (a+1) false).2.1 (rec (a+1) false).2.2;have h3:=H.mono (a+1) false;exact ⟨by rw [cond_true];omega,fun _=>h2.2 (H.le _ _ h1)⟩
  | false=>exact ⟨y23,fun h=>wgy h⟩
theorem xzc {L:List Tk} {rec:Nat->Bool->Rd} (H:Mo L rec) (a:Nat):a<=(anF L rec a).2.1/\(a<=L.length->(anF L rec a).2.1<=L.length):=by
 have h:=yzr H L.length [(rec a false).1] (rec a false).2.1 (rec a false).2.2;exact ⟨Nat.le_trans (H.mono a false) h.1,fun h1=>h.2 (H.le _ _ h1)⟩
theorem v5i {L:List Tk} {rec:Nat->Bool->Rd} (H:Mo L rec) (a:Nat) (b:Bool):a<=(vmz L rec a b).2.1/\(a<=L.length->(vmz L rec a b).2.1<=L.length):=by
 unfold vmz
 cases b with
 | true=>exact ⟨Nat.le_refl _,fun h=>h⟩
 | false=>
  rw [cond_false]
  cases h1:kdF L a false 1 with
  | true=>
   have hlt:=(zzm h1).1;rw [cond_true];dsimp only;unfold nbA
   cases h2:kdF L (a+1) false 2 with
   | true=>have:=(zzm h2).1;exact ⟨by rw [cond_true];omega,fun _=>by rw [cond_true];omega⟩
   | false=>exact ⟨Nat.le_succ _,fun _=>hlt⟩
  | false=>
   rw [cond_false]
   cases h2:isF L a false 3 tLp with
   | true=>
    have hlt:=(wug h2).1;have hs:=viz H (a+1) false;rw [cond_true];unfold atP
    cases (sm1 L rec (a+1) false).2.2 with
    | true=>exact ⟨by rw [cond_true];dsimp only;omega,fun _=>hs.2 hlt⟩
    | false=>exact ⟨by rw [cond_false];dsimp only;omega,fun _=>hs.2 hlt⟩
   | false=>
    rw [cond_false]
    cases h3:isF L a false 0 w0j with
    | true=>
     have hlt:=(wug h3).1;have h5:a+1<=lkA L (a+1):=Nat.le_trans (y23 (b:=false) (k:=3) (t:=tLp)) zxu;have h6:lkA L (a+1)<=L.length:=x9e (wgy (by omega));have hs:=viz H (skF L (lkA L (a+1)) (lkB L (a+1)) 3 tCm) (!isF L (lkA L (a+1)) (lkB L (a+1)) 3 tCm);have h7:lkA L (a+1)<=skF L (lkA L (a+1)) (lkB L (a+1)) 3 tCm:=y23;rw [cond_true];unfold lkR;exact ⟨by dsimp only;omega,fun _=>hs.2 (wgy h6)⟩
    | false=>
     rw [cond_false]
     have hmm:a<L.length->a<=(mmR L rec (a+1)).2.1/\(a<=L.length->(mmR L rec (a+1)).2.1<=L.length):=fun hlt=>by
      have hs:=y53 H (skF L (a+1) false 3 tLp) (!isF L (a+1) false 3 tLp);have h7:a+1<=skF L (a+1) false 3 tLp:=y23;unfold mmR;exact ⟨by omega,fun _=>hs.2 (wgy hlt)⟩
     cases h4:isF L a false 0 tMin with
     | true=>exact hmm (wug h4).1
     | false=>
      rw [cond_false]
      cases h5:isF L a false 0 tMax with
      | true=>exact hmm (wug h5).1
      | false=>
       rw [cond_false];unfold atN
       cases h6:isF L (nmA L a false) (nmB L a false) 3 tLp with
       | true=>
        have hlt:=(wug h6).1;have hs:=xzc H (nmA L a false+1);have h7:a<=nmA L a false:=zxu;exact ⟨by rw [cond_true];dsimp only;omega,fun _=>hs.2 hlt⟩
       | false=>exact ⟨zxu,fun h=>x9e h⟩
theorem z3z {L:List Tk} {a:Nat} {b:Bool} {i:Nat} (h:opNx L a b=some i):a<L.length:=by
 have h1:=List.find?_some h;unfold opIs at h1;rw [Bool.and_eq_true] at h1;exact (wug h1.2).1
theorem v2u {L:List Tk} {rec:Nat->Bool->Rd} (H:Mo L rec) (a:Nat) (b:Bool):a<=(zgu L rec a b).2.1/\(a<=L.length->(zgu L rec a b).2.1<=L.length):=by
 unfold zgu
 cases b with
 | true=>exact ⟨Nat.le_refl _,fun h=>h⟩
 | false=>
  rw [cond_false]
  cases h1:isF L a false 0 tNot with
  | true=>
   have hlt:=(wug h1).1;have hs:=v5i H (a+1) false;exact ⟨by rw [cond_true];dsimp only;omega,fun _=>hs.2 hlt⟩
  | false=>
   rw [cond_false]
   cases h2:isF L a false 0 tIf with
   | true=>
    have hlt:=(wug h2).1;have hs:=v5i H (a+1) false
    have hb:∀(p:Rd) (t:ByteArray),p.2.1<=(ifB L rec p t).2.1/\(p.2.1<=L.length->(ifB L rec p t).2.1<=L.length):=fun p t=>by
     have:=v5i H (skF L p.2.1 p.2.2 0 t) (!isF L p.2.1 p.2.2 0 t)
     exact ⟨Nat.le_trans y23 this.1,fun h=>this.2 (wgy h)⟩
    have hb1:=hb (vmz L rec (a+1) false) y5x;have hb2:=hb (ifB L rec (vmz L rec (a+1) false) y5x) y4c;rw [cond_true];unfold ifR;exact ⟨by dsimp only;omega,fun _=>hb2.2 (hb1.2 (hs.2 hlt))⟩
   | false=>
    rw [cond_false];have hs:=v5i H a false;generalize vmz L rec a false=x at *;unfold opM
    cases ho:opNx L x.2.1 x.2.2 with
    | none=>exact hs
    | some i=>
     have hlt:=z3z ho;have ht:=v5i H (x.2.1+1) x.2.2;exact ⟨by dsimp only;omega,fun _=>ht.2 hlt⟩
def exF (L:List Tk):Nat->Nat->Bool->Rd
 | 0,a,_=>(zE,a,true)
 | n+1,a,b=>zgu L (exF L n) a b
theorem vkb (L:List Tk):∀ n,Mo L (exF L n)
 | 0=>⟨fun _ _=>Nat.le_refl _,fun _ _ h=>h⟩
 | n+1=>⟨fun i c=>(v2u (vkb L n) i c).1,fun i c=>(v2u (vkb L n) i c).2⟩
theorem xhl.mo {L:List Tk} {rec:Nat->Bool->Rd} {a:Nat} (H:xhl Γ L rec a):Mo L rec:=⟨H.mono,H.le⟩
theorem xhl.up {L:List Tk} {rec:Nat->Bool->Rd} {a i:Nat} (H:xhl Γ L rec a) (h:a<=i):xhl Γ L rec i:=⟨H.len,H.mono,H.le,fun j c hj=>H.run j c (by omega)⟩
theorem wla (L:List Tk) (rec:Nat->Bool->Rd) (a:Nat) (b:Bool) (ha:a<=L.length) (H:xhl Γ L rec a):v7u Γ L a b (zgu L rec a b):=by
 unfold zgu
 cases b with
 | true=>exact yic L a
 | false=>
  rw [cond_false]
  cases h1:isF L a false 0 tNot with
  | true=>exact yue L a H.len h1 _ (xbj L rec (a+1) false (wug h1).1 (H.up (Nat.le_succ _)))
  | false=>
   rw [cond_false]
   cases h2:isF L a false 0 tIf with
   | true=>
    have hlt:=(wug h2).1;have hs:=v5i H.mo (a+1) false;have ht:=v5i H.mo (skF L (vmz L rec (a+1) false).2.1 (vmz L rec (a+1) false).2.2 0 y5x) (!isF L (vmz L rec (a+1) false).2.1 (vmz L rec (a+1) false).2.2 0 y5x);have l1:(vmz L rec (a+1) false).2.1<=skF L (vmz L rec (a+1) false).2.1 (vmz L rec (a+1) false).2.2 0 y5x:=y23;have l2:(ifB L rec (vmz L rec (a+1) false) y5x).2.1<=skF L (ifB L rec (vmz L rec (a+1) false) y5x).2.1 (ifB L rec (vmz L rec (a+1) false) y5x).2.2 0 y4c:=y23;have u1:=hs.2 hlt;have u2:=ht.2 (wgy u1);exact x1o L a H.len h1 h2 _ _ _ (xbj L rec (a+1) false hlt (H.up (Nat.le_succ _)))
     (xbj L rec _ _ (wgy u1) (H.up (by omega))) (xbj L rec _ _ (wgy u2) (H.up (by unfold ifB at l2 ⊢;omega)))
   | false=>
    rw [cond_false];have hs:=v5i H.mo a false;have m:=xbj (Γ:=Γ) L rec a false ha H;generalize vmz L rec a false=x at *;obtain ⟨x,a1,b1⟩:=x;exact xbn L a H.len h1 h2 x a1 b1 _ m (fun i hi=>xbj L rec (a1+1) b1 (z3z hi) (H.up (by have:=hs.1;dsimp only at this;omega)))
theorem xts (L:List Tk) (hl:L.length<=1073741824):∀(n a:Nat) (b:Bool),a<=L.length->L.length-a<n->v7u Γ L a b (exF L n a b)
 | 0,a,b,_,h=>absurd h (Nat.not_lt_zero _)
 | n+1,a,b,ha,h=>wla L (exF L n) a b ha ⟨hl,(vkb L n).mono,(vkb L n).le,fun i c hi hi'=>xts L hl n i c hi' (by omega)⟩
end Go.Hp.T
namespace Go.Hp.T
open Go Go.RowKit Go.Slot Go.Hp Go.Slot.T
open Go.Proofs.Tryz (prog)
attribute [local irreducible] hide RH
set_option maxRecDepth 10000
set_option maxHeartbeats 8000000
variable {Γ:List (Nat×List Cell)}
theorem vod:zE.Sm:=.mk _ (by decide) (by decide) (by decide) (fun y h=>by cases h)
theorem zh4 {o n:Int} {u s:ByteArray} {l:List Ex} (hl:l.length<=1073741824) (hu:u.size<=1073741824) (hs:s.size<=1073741824) (h:∀ y∈l,y.Sm):(Ex.mk o n u s l).Sm:=.mk _ hl hu hs h
structure SmR (L:List Tk) (rec:Nat->Bool->Rd):Prop where
 len:L.length<=1048576
 tok:∀ a,(L.getD a default).t.size<=1048576
 mo:Mo L rec
 sm:∀ i c,(rec i c).1.Sm
theorem zrn {L:List Tk} {rec:Nat->Bool->Rd} (H:SmR L rec) (a:Nat) (b:Bool):(sm1 L rec a b).1.length<=1073741824/\∀ y∈(sm1 L rec a b).1,y.Sm:=by
 unfold sm1
 cases b with
 | true=>exact ⟨Nat.zero_le _,fun y h=>by cases h⟩
 | false=>exact ⟨by unfold clF;simp,fun y h=>by unfold clF at h;simp at h;rw [h];exact H.sm _ _⟩
theorem vdi {L:List Tk} {rec:Nat->Bool->Rd} (H:SmR L rec) (a:Nat) (b:Bool):(sm2 L rec a b).1.length<=1073741824/\∀ y∈(sm2 L rec a b).1,y.Sm:=by
 unfold sm2
 cases b with
 | true=>exact ⟨Nat.zero_le _,fun y h=>by cases h⟩
 | false=>
  rw [cond_false]
  cases (rec a false).2.2 with
  | true=>exact ⟨by simp,fun y h=>by simp at h;rw [h];exact H.sm _ _⟩
  | false=>exact ⟨by unfold clF;simp,fun y h=>by unfold clF at h;simp at h;rcases h with h | h<;>rw [h]<;>exact H.sm _ _⟩
theorem wm0 {L : List Tk} {rec : Nat → Bool → Rd} (H : SmR L rec) : ∀ (n : Nat) (out : List Ex) (a : Nat) (b : Bool), (∀ y ∈ out, y.Sm) → (anL L rec n out a b).1.length ≤ out.length + n ∧ ∀ y ∈ (anL L rec n out a b).1, y.Sm
 | 0,out,a,b,h=>⟨Nat.le_refl _,h⟩
 | n + 1, out, a, b, h => by
  rw [anL]
  cases isF L a b 3 tCm with
  | true=>
   have h2:=wm0 H n (out++[(rec (a+1) false).1]) (rec (a+1) false).2.1 (rec (a+1) false).2.2 (fun y hy=>by
    rcases List.mem_append.1 hy with hy | hy
    . exact h y hy
    . simp at hy;rw [hy];exact H.sm _ _)
   rw [List.length_append,List.length_singleton] at h2;exact ⟨by rw [cond_true];omega,h2.2⟩
  | false=>exact ⟨Nat.le_add_right _ _,h⟩
theorem ylr {L:List Tk} {rec:Nat->Bool->Rd} (H:SmR L rec) (a:Nat):(anF L rec a).1.length<=1073741824/\∀ y∈(anF L rec a).1,y.Sm:=by
 have h:=wm0 H L.length [(rec a false).1] (rec a false).2.1 (rec a false).2.2 (fun y hy=>by simp at hy;rw [hy];exact H.sm _ _)
 have:=H.len
 exact ⟨Nat.le_trans h.1 (by simp;omega),h.2⟩
theorem zmi {L:List Tk} {rec:Nat->Bool->Rd} (H:SmR L rec) (a:Nat) (b:Bool):(nmS L a b).size<=1073741824:=by
 unfold nmS
 have:=H.tok a
 cases nmOk L a b with
 | true=>rw [cond_true];omega
 | false=>rw [cond_false];decide
theorem vez {L:List Tk} {rec:Nat->Bool->Rd} (H:SmR L rec) (a:Nat) (b:Bool):(vmz L rec a b).1.Sm:=by
 have e0:(⟨#[]⟩:ByteArray).size<=1073741824:=by decide
 unfold vmz
 cases b with
 | true=>exact vod
 | false=>
  rw [cond_false]
  cases kdF L a false 1 with
  | true=>
   rw [cond_true];unfold nbE;refine zh4 (Nat.zero_le _) ?_ e0 (fun y h=>by cases h)
   have:=H.tok (a+1)
   cases kdF L (a+1) false 2 with
   | true=>rw [cond_true];omega
   | false=>rw [cond_false];exact e0
  | false=>
   rw [cond_false]
   cases isF L a false 3 tLp with
   | true=>
    have hs:=zrn H (a+1) false;rw [cond_true];unfold atP
    cases (sm1 L rec (a+1) false).2.2 with
    | true=>exact vod
    | false=>
     rw [cond_false];dsimp only
     cases hl:(sm1 L rec (a+1) false).1 with
     | nil=>exact vod
     | cons y l=>exact hs.2 y (by rw [hl];exact List.mem_cons_self)
   | false=>
    rw [cond_false]
    cases isF L a false 0 w0j with
    | true=>
     have hs:=zrn H (skF L (lkA L (a+1)) (lkB L (a+1)) 3 tCm) (!isF L (lkA L (a+1)) (lkB L (a+1)) 3 tCm);exact zh4 hs.1 e0 (zmi H _ _) hs.2
    | false=>
     rw [cond_false];have hs:=vdi H (skF L (a+1) false 3 tLp) (!isF L (a+1) false 3 tLp)
     cases isF L a false 0 tMin with
     | true=>exact zh4 hs.1 e0 e0 hs.2
     | false=>
      rw [cond_false]
      cases isF L a false 0 tMax with
      | true=>exact zh4 hs.1 e0 e0 hs.2
      | false=>
       rw [cond_false];unfold atN
       cases isF L (nmA L a false) (nmB L a false) 3 tLp with
       | true=>
        have hs:=ylr H (nmA L a false+1);exact zh4 hs.1 e0 (zmi H _ _) hs.2
       | false=>exact zh4 (Nat.zero_le _) e0 (zmi H _ _) (fun y h=>by cases h)
theorem z9c {L:List Tk} {rec:Nat->Bool->Rd} (H:SmR L rec) (a:Nat) (b:Bool):(zgu L rec a b).1.Sm:=by
 have e0:(⟨#[]⟩:ByteArray).size<=1073741824:=by decide
 unfold zgu
 cases b with
 | true=>exact vod
 | false=>
  rw [cond_false]
  cases isF L a false 0 tNot with
  | true=>exact zh4 (by simp) e0 e0 (fun y h=>by simp at h;rw [h];exact vez H _ _)
  | false=>
   rw [cond_false]
   cases isF L a false 0 tIf with
   | true=>exact zh4 (by simp) e0 e0 (fun y h=>by simp at h;rcases h with h | h | h<;>rw [h]<;>exact vez H _ _)
   | false=>
    rw [cond_false];have hx:=vez H a false;generalize vmz L rec a false=x at *;unfold opM
    cases opNx L x.2.1 x.2.2 with
    | none=>exact hx
    | some i=>exact zh4 (by simp) e0 e0 (fun y h=>by simp at h;rcases h with h | h<;>rw [h];exact hx;exact vez H _ _)
theorem vht {L:List Tk} (hl:L.length<=1048576) (ht:∀ a,(L.getD a default).t.size<=1048576):∀(n a:Nat) (b:Bool),(exF L n a b).1.Sm
 | 0,a,b=>vod
 | n+1,a,b=>z9c ⟨hl,ht,vkb L n,vht hl ht n⟩ a b
def xo0 (L:List Tk) (a:Nat):Ex×Nat×Int:=
 bif (exF L (L.length+1) a false).2.2 then (zE,(exF L (L.length+1) a false).2.1,12) else
 bif v93 (exF L (L.length+1) a false).1 then ((exF L (L.length+1) a false).1,(exF L (L.length+1) a false).2.1,0) else (zE,(exF L (L.length+1) a false).2.1,6)
theorem ys2 (p q:AV):RLe (.tup [.agg [cI 0,cI 0,cS ⟨#[]⟩,cS ⟨#[]⟩,.zc],p,q]) (.tup [.agg (exC zE),p,q]):=.tup (.cons (.agg (.cons (.refl _) (.cons (.refl _) (.cons (.refl _) (.cons (.refl _) (.cons (.zcSl _) .nil)))))) (.cons (.refl _) (.cons (.refl _) .nil)))
theorem vcj (L:List Tk) (a:Nat) (hl:L.length<=1048576) (ht:∀ a,(L.getD a default).t.size<=1048576) (ha:a<=L.length):CallsD Γ prog 210 [.one (.sl 4 (L.map Tk.C)),.one (cI a)] (.tup [.agg (exC (xo0 L a).1),.one (cI (xo0 L a).2.1),.one (cI (xo0 L a).2.2)]):=by
 have c:=xts (Γ:=Γ) L (by omega) (L.length+1) a false ha (by omega);have hs:=vht hl ht (L.length+1) a false;unfold xo0;generalize exF L (L.length+1) a false=r at *;obtain ⟨x,a1,b1⟩:=r;have cr:=xp9 (Γ:=Γ) x hs;unfold v7u at c;simp only at c;clear hs ht
 cases b1 with
 | true=>
  refine CallsD.run [] Go.Proofs.Tryz.func210 rfl rfl rfl ?_;simp only [Go.Proofs.Tryz.f210];refine hgR ?_
  repeat' ((first | refine hfk ?_ ?_<;>intros | refine hik ?_)<;>refine hgS ?_)
  all_goals try (exfalso;omega)
  refine zmd [1] c rfl (by decide) rfl rfl rfl ?_;refine hg ?_
  repeat' ((first | refine hfk ?_ ?_<;>intros | refine hik ?_)<;>refine hgS ?_)
  exact ys2 _ _
 | false=>
  cases h:v93 x with
  | true=>
   rw [h] at cr;refine CallsD.run [] Go.Proofs.Tryz.func210 rfl rfl rfl ?_;simp only [Go.Proofs.Tryz.f210];refine hgR ?_
   repeat' ((first | refine hfk ?_ ?_<;>intros | refine hik ?_)<;>refine hgS ?_)
   all_goals try (exfalso;omega)
   refine zmd [1] c rfl (by decide) rfl rfl rfl ?_;refine hg ?_
   repeat' ((first | refine hfk ?_ ?_<;>intros | refine hik ?_ | with_reducible first | refine wud (cr) ?_ | refine vqe (cr) ?_)<;>refine hgS ?_)
   exact RLe.ofEq rfl
  | false=>
   rw [h] at cr;refine CallsD.run [] Go.Proofs.Tryz.func210 rfl rfl rfl ?_;simp only [Go.Proofs.Tryz.f210];refine hgR ?_
   repeat' ((first | refine hfk ?_ ?_<;>intros | refine hik ?_)<;>refine hgS ?_)
   all_goals try (exfalso;omega)
   refine zmd [1] c rfl (by decide) rfl rfl rfl ?_;refine hg ?_
   repeat' ((first | refine hfk ?_ ?_<;>intros | refine hik ?_ | with_reducible first | refine wud (cr) ?_ | refine vqe (cr) ?_)<;>refine hgS ?_)
   exact ys2 _ _
end Go.Hp.T
namespace Go.Hp.T
open Go Go.RowKit Go.Slot Go.Hp Go.Slot.T
open Go.Proofs.Tryz (prog)
attribute [local irreducible] hide RH
set_option maxRecDepth 10000
set_option maxHeartbeats 4000000
variable {Γ:List (Nat×List Cell)}
theorem xby (x:Dm):CallsD Γ prog 111 [.agg (dmC x)] (.one (cB (vqx x))):=by
 refine CallsD.run [] Go.Proofs.Tryz.func111 rfl rfl rfl ?_;simp only [Go.Proofs.Tryz.f111];refine hgR ?_
 repeat' ((first | refine hfk ?_ ?_<;>intros | refine hik ?_ | with_reducible refine yz8 ?_ | with_reducible refine ycx ?_)<;>refine hgS ?_)
 all_goals refine lf2 @vqx.eq_def @bad9.eq_def ?_;first | exact trivial | rfl
theorem wfk (c:Int):CallsD Γ prog 164 [.one (c8 c)] (.one (cB (yx6 c))):=by
 refine CallsD.run [] Go.Proofs.Tryz.func164 rfl rfl rfl ?_;simp only [Go.Proofs.Tryz.f164];refine hgR ?_
 repeat' ((first | refine hfk ?_ ?_<;>intros | refine hik ?_)<;>refine hgS ?_)
 all_goals refine lf1 @yx6.eq_def ?_;first | exact trivial | rfl
theorem vtw (b e p q:Int) (hb:b=0\/b=1\/b=2\/b=3\/b=4\/b=5) (hp:inI p) (hq:inI q) (hq0:q≠0):CallsD Γ prog 166 [.one (cI b),.one (cI e),.one (cI p),.one (cI q)] (.agg (unC (unOf b e p q))):=by
 rcases hb with rfl | rfl | rfl | rfl | rfl | rfl
 all_goals
  refine CallsD.run [] Go.Proofs.Tryz.func166 rfl rfl rfl ?_;simp only [Go.Proofs.Tryz.f166];refine hgR ?_
  repeat' ((first | refine hfk ?_ ?_<;>intros | refine hik ?_ | with_reducible first | refine wud (qOf p q hp hq hq0) ?_ | refine vqe (qOf p q hp hq hq0) ?_)<;>refine hgS ?_)
  exact RLe.ofEq rfl
theorem wlq (s:ByteArray):CallsD Γ prog 136 [.one (cS s)] (.tup [.agg (unO (symF s)),.one (cB (symF s).isSome)]):=by
 have h1:=vtw (Γ:=Γ) 0 1 1 1 (by decide) (by decide) (by decide) (by decide);have h2:=vtw (Γ:=Γ) 0 1 1000000 1 (by decide) (by decide) (by decide) (by decide);have h3:=vtw (Γ:=Γ) 1 1 1 1 (by decide) (by decide) (by decide) (by decide);have h4:=vtw (Γ:=Γ) 1 3 1 1000 (by decide) (by decide) (by decide) (by decide);have h5:=vtw (Γ:=Γ) 2 1 1 1 (by decide) (by decide) (by decide) (by decide);have h6:=vtw (Γ:=Γ) 2 1 3600 1 (by decide) (by decide) (by decide) (by decide);have h7:=vtw (Γ:=Γ) 2 1 86400 1 (by decide) (by decide) (by decide) (by decide);have h8:=vtw (Γ:=Γ) 3 1 1 1 (by decide) (by decide) (by decide) (by decide);have h9:=vtw (Γ:=Γ) 3 1 3600 1 (by decide) (by decide) (by decide) (by decide);have h10:=vtw (Γ:=Γ) 4 1 1 1 (by decide) (by decide) (by decide) (by decide);have h11:=vtw (Γ:=Γ) 4 1 100 1 (by decide) (by decide) (by decide) (by decide);have h12:=vtw (Γ:=Γ) 5 1 1 1 (by decide) (by decide) (by decide) (by decide);refine CallsD.run [] Go.Proofs.Tryz.func136 rfl rfl rfl ?_;simp only [Go.Proofs.Tryz.f136];refine hgR ?_
 repeat' ((first | refine hfk ?_ ?_<;>intros | refine hik ?_ | with_reducible first | refine wud (h1) ?_ | refine vqe (h1) ?_ | refine wud (h2) ?_ | refine vqe (h2) ?_ | refine wud (h3) ?_ | refine vqe (h3) ?_ | refine wud (h4) ?_ | refine vqe (h4) ?_ | refine wud (h5) ?_ | refine vqe (h5) ?_ | refine wud (h6) ?_ | refine vqe (h6) ?_ | refine wud (h7) ?_ | refine vqe (h7) ?_ | refine wud (h8) ?_ | refine vqe (h8) ?_ | refine wud (h9) ?_ | refine vqe (h9) ?_ | refine wud (h10) ?_ | refine vqe (h10) ?_ | refine wud (h11) ?_ | refine vqe (h11) ?_ | refine wud (h12) ?_ | refine vqe (h12) ?_)<;>refine hgS ?_)
 all_goals (refine RLe.ofEq ?_;conv=>simp only [Bool.and_true,Bool.true_and,Bool.and_false,Bool.false_and,Bool.or_true,Bool.true_or,Bool.or_false,Bool.false_or,Bool.not_true,Bool.not_false,decide_true,decide_false,not_true_eq_false,not_false_eq_true,x0v,if_true,if_false,Bool.and_self,Bool.or_self,cond_true,cond_false,List.length_map,ne_eq,Int.reduceEq,Int.reduceLT,Int.reduceLE, *,symF,unO,Option.isSome]);first | exact trivial | rfl
theorem w7z (c:Int):CallsD Γ prog 137 [.one (c8 c)] (.tup [.one (cI (preO (preF c)).1),.one (cI (preO (preF c)).2),.one (cB (preF c).isSome)]):=by
 refine CallsD.run [] Go.Proofs.Tryz.func137 rfl rfl rfl ?_;simp only [Go.Proofs.Tryz.f137];refine hgR ?_
 repeat' ((first | refine hfk ?_ ?_<;>intros | refine hik ?_)<;>refine hgS ?_)
 all_goals (refine RLe.ofEq ?_;conv=>simp only [Bool.and_true,Bool.true_and,Bool.and_false,Bool.false_and,Bool.or_true,Bool.true_or,Bool.or_false,Bool.false_or,Bool.not_true,Bool.not_false,decide_true,decide_false,not_true_eq_false,not_false_eq_true,x0v,if_true,if_false,Bool.and_self,Bool.or_self,cond_true,cond_false,List.length_map,ne_eq,Int.reduceEq,Int.reduceLT,Int.reduceLE, *,preF,preO,Option.isSome]);first | exact trivial | rfl
theorem vxw (s:ByteArray):CallsD Γ prog 138 [.one (cS s)] (.one (cB (x1g s))):=by
 refine CallsD.run [] Go.Proofs.Tryz.func138 rfl rfl rfl ?_;simp only [Go.Proofs.Tryz.f138];refine hgR ?_
 repeat' ((first | refine hfk ?_ ?_<;>intros | refine hik ?_)<;>refine hgS ?_)
 all_goals refine lf1 @x1g.eq_def ?_;first | exact trivial | rfl
theorem sExt (s:ByteArray) (i:Nat):s.extract 0 i=z8f s i:=rfl
theorem xjh (s:ByteArray) (i:Nat):s.extract i s.size=z4g s i:=rfl
attribute [go_sem] sExt xjh
theorem xzy (s p:ByteArray) (_hs:s.size<=1073741824) (hp:p.size<=1073741824):CallsD Γ prog 201 [.one (cS s),.one (cS p)] (.one (cB (w2h s p))):=by
 refine CallsD.run [] Go.Proofs.Tryz.func201 rfl rfl rfl ?_;simp only [Go.Proofs.Tryz.f201];refine hgR ?_
 repeat' ((first | refine hfk ?_ ?_<;>intros | refine hik ?_)<;>refine hgS ?_)
 all_goals refine lf1 @w2h.eq_def ?_;first | exact trivial | rfl
theorem vmo (s p:ByteArray) (hs:s.size<=1073741824) (hp:p.size<=1073741824):CallsD Γ prog 163 [.one (cS s),.one (cS p)] (.tup [.one (cS (bif w2h s p then z4g s p.size else s)),.one (cB (w2h s p))]):=by
 refine CallsD.run [] Go.Proofs.Tryz.func163 rfl rfl rfl ?_;simp only [Go.Proofs.Tryz.f163];refine hgR ?_;refine wud (xzy s p hs hp) ?_;refine hg ?_;refine vqn (fun h=>?_) (fun h=>?_)
 . refine hg ?_
   refine lfE ?_;first | exact trivial | rfl
 . have hle:p.size<=s.size:=by
    simp only [w2h,Bool.and_eq_true,decide_eq_true_eq] at h;omega
   refine hg ?_
   refine lfE ?_;first | exact trivial | rfl
theorem zjj (s p:ByteArray) (hs:s.size<=1073741824) (hp:p.size<=1073741824):CallsD Γ prog 133 [.one (cS s),.one (cS p)] (.tup [.one (cS (bif w2h s p then z4g s p.size else s)),.one (cB (w2h s p))]):=by
 refine CallsD.run [] Go.Proofs.Tryz.func133 rfl rfl rfl ?_;simp only [Go.Proofs.Tryz.f133];refine hgR ?_
 repeat' ((first | refine hfk ?_ ?_<;>intros | refine hik ?_ | with_reducible first | refine wud (vmo s p hs hp) ?_ | refine vqe (vmo s p hs hp) ?_)<;>refine hgS ?_)
 all_goals refine lfE ?_;first | exact trivial | rfl
theorem cCut (s:ByteArray) (hs:s.size<=1073741824):CallsD Γ prog 134 [.one (cS s)] (.tup [.agg (itC (zq6 s)),.one (cS (yxu s)),.one (cB (v8b s))]):=by
 refine CallsD.run [] Go.Proofs.Tryz.func134 rfl rfl rfl ?_;simp only [Go.Proofs.Tryz.f134];refine hgR ?_;refine xou [0,2] (fun n:Nat=>[(5,.one (.dat (cI n)))]) (fun _=>[.box [.dat (cS ⟨⟨[]⟩⟩),.dat (cI 0)] (some 165)]) (fun n=>n<=s.size/\∀ j,j<n->yx6 (zxg s j)=true) (fun n=>s.size-n) 0 ⟨Nat.zero_le _,fun j hj=>by omega⟩ ?_ ?_
 . refine hg ?_;exact StH.same svl rfl
 intro n hn;obtain ⟨hn,hj⟩:=hn;refine hg ?_;refine wj8 (fun hlt hd=>?_) (fun hlt _=>?_)
 . refine hg1 @hd ?_;refine wud (wfk _) ?_;refine hg ?_;refine vi3 (fun h1=>?_) (fun h1=>?_)
   . refine hg ?_;refine ⟨n+1,⟨by omega,fun j hj'=>?_⟩,by omega,StH.same svl rfl⟩
     rcases Nat.lt_or_eq_of_le (Nat.le_of_lt_succ hj') with h2 | h2
     . exact hj j h2
     . rw [h2];exact h1
   . have hsp:=ztv hn hj (.inr h1);clear h1;refine hg ?_
     repeat' ((first | refine hfk ?_ ?_<;>intros | refine hik ?_)<;>refine hgS ?_)
     all_goals (refine RLe.ofEq ?_;conv=>simp only [Bool.and_true,Bool.true_and,Bool.and_false,Bool.false_and,Bool.or_true,Bool.true_or,Bool.or_false,Bool.false_or,Bool.not_true,Bool.not_false,decide_true,decide_false,not_true_eq_false,not_false_eq_true,x0v,if_true,if_false,Bool.and_self,Bool.or_self,cond_true,cond_false,List.length_map,ne_eq,Int.reduceEq,Int.reduceLT,Int.reduceLE, *,zq6,yxu,ymq,zh5,v8b,hsp]);first | exact trivial | rfl
 . have hsp:=ztv hn hj (.inl (by omega));refine hgS ?_
   repeat' ((first | refine hfk ?_ ?_<;>intros | refine hik ?_)<;>refine hgS ?_)
   all_goals (refine RLe.ofEq ?_;conv=>simp only [Bool.and_true,Bool.true_and,Bool.and_false,Bool.false_and,Bool.or_true,Bool.true_or,Bool.or_false,Bool.false_or,Bool.not_true,Bool.not_false,decide_true,decide_false,not_true_eq_false,not_false_eq_true,x0v,if_true,if_false,Bool.and_self,Bool.or_self,cond_true,cond_false,List.length_map,ne_eq,Int.reduceEq,Int.reduceLT,Int.reduceLE, *,zq6,yxu,ymq,zh5,v8b,hsp]);first | exact trivial | rfl
theorem x72 (s:ByteArray) (hs:s.size<=1073741824) (h1:1<=s.size):CallsD Γ prog 109 [.one (cS s)] (.tup [.agg (unO (wy1 s)),.one (cB (wy1 s).isSome)]):=by
 refine CallsD.run [] Go.Proofs.Tryz.func109 rfl rfl rfl ?_;simp only [Go.Proofs.Tryz.f109];refine hgR ?_;refine wud (wlq s) ?_
 cases hy:symF s with
 | some u=>
  conv=>simp (maxSteps:=2000000) (disch:=omega) only [go_sem,Nat.reduceAdd,Nat.reduceSub,Nat.reduceMul,Int.reduceToNat,Nat.reduceEqDiff,Nat.reduceBEq,Nat.reduceBneDiff,Nat.reduceLT,Int.reduceEq,Int.reduceLT,Int.reduceLE,Int.reduceNeg,Int.reduceAdd,Int.reduceSub,Int.reduceMul,unO,Option.isSome]
  exact RLe.ofEq (by simp only [wy1,hy];rfl)
 | none=>
  conv=>simp (maxSteps:=2000000) (disch:=omega) only [go_sem,Nat.reduceAdd,Nat.reduceSub,Nat.reduceMul,Int.reduceToNat,Nat.reduceEqDiff,Nat.reduceBEq,Nat.reduceBneDiff,Nat.reduceLT,Int.reduceEq,Int.reduceLT,Int.reduceLE,Int.reduceNeg,Int.reduceAdd,Int.reduceSub,Int.reduceMul,unO,Option.isSome]
  refine wud (w7z _) ?_;refine hg ?_;refine wud (wlq _) ?_
  cases hp:preF (zxg s 0) with
  | none=>
   cases hy2:symF (z4g s 1)<;>
   . conv=>simp (maxSteps:=2000000) (disch:=omega) only [go_sem,Nat.reduceAdd,Nat.reduceSub,Nat.reduceMul,Int.reduceToNat,Nat.reduceEqDiff,Nat.reduceBEq,Nat.reduceBneDiff,Nat.reduceLT,Int.reduceEq,Int.reduceLT,Int.reduceLE,Int.reduceNeg,Int.reduceAdd,Int.reduceSub,Int.reduceMul,unO,Option.isSome]
     exact RLe.ofEq (by simp only [wy1,hy,hp];rfl)
  | some p=>
   cases hy2:symF (z4g s 1) with
   | none=>
    conv=>simp (maxSteps:=2000000) (disch:=omega) only [go_sem,Nat.reduceAdd,Nat.reduceSub,Nat.reduceMul,Int.reduceToNat,Nat.reduceEqDiff,Nat.reduceBEq,Nat.reduceBneDiff,Nat.reduceLT,Int.reduceEq,Int.reduceLT,Int.reduceLE,Int.reduceNeg,Int.reduceAdd,Int.reduceSub,Int.reduceMul,unO,Option.isSome]
    exact RLe.ofEq (by simp only [wy1,hy,hp,hy2];rfl)
   | some u=>
    obtain ⟨_,hu1,_⟩:=wl6 hy2;obtain ⟨hp1,hp2⟩:=zvc hp;obtain ⟨hf1,_⟩:=z0m hp1 hp2
    conv=>simp (maxSteps:=2000000) (disch:=omega) only [go_sem,Nat.reduceAdd,Nat.reduceSub,Nat.reduceMul,Int.reduceToNat,Nat.reduceEqDiff,Nat.reduceBEq,Nat.reduceBneDiff,Nat.reduceLT,Int.reduceEq,Int.reduceLT,Int.reduceLE,Int.reduceNeg,Int.reduceAdd,Int.reduceSub,Int.reduceMul,unO,Option.isSome,preO]
    repeat' ((first | refine hfk ?_ ?_<;>intros | refine hik ?_ | with_reducible first | refine wud (vxw _) ?_ | refine vqe (vxw _) ?_ | refine wud (qOf p.1 p.2 (by unfold inI;omega) (by unfold inI;omega) (by omega)) ?_ | refine vqe (qOf p.1 p.2 (by unfold inI;omega) (by unfold inI;omega) (by omega)) ?_ | refine wud (qMul _ _ (Nat.le_trans hu1 (by decide)) (Nat.le_trans hf1 (by decide))) ?_ | refine vqe (qMul _ _ (Nat.le_trans hu1 (by decide)) (Nat.le_trans hf1 (by decide))) ?_)<;>refine hgS ?_)
    all_goals rename_i hq
    all_goals exact RLe.ofEq (by simp only [wy1,hy,hp,hy2,hq];rfl)
theorem zi0 (a f:Rat) (x:Int) (hx:x.natAbs<=1000) (ha:qs a<=100000) (hf:qs f<=1000) (hf0:f≠0):CallsD Γ prog 110 [.agg (fQ a),.agg (fQ f),.one (cI x)] (.agg (fQ (y6j a f x))):=by
 refine CallsD.run [] Go.Proofs.Tryz.func110 rfl rfl rfl ?_;simp only [Go.Proofs.Tryz.f110];refine hgR ?_;refine xou [2,3,4,6,10] (fun i:Nat=>[(11,.one (.dat (cI i)))]) (fun i=>[.box ((fQ (pw a f x i)).map .dat) (some 135),.box ((fQ f).map .dat) (some 135),.box [.dat (cI 0),.dat .zc,.dat (cI 0),.dat .zc] (some 135)]) (fun i=>i<=x.natAbs) (fun i=>x.natAbs-i) 0 (Nat.zero_le _) ?_ ?_
 . refine hg ?_;exact StH.same svl (by rw [vpi])
 intro i hi;have hq:=yp5 a f x i;have hm:i*(qs f+1)<=1000*1001:=Nat.mul_le_mul (by omega) (by omega);refine hg ?_;refine w4y (fun hlt _=>?_) (fun hlt _=>?_)
 . refine hg ?_;refine w4y (fun hp hd=>?_) (fun hp hd=>?_)
   . refine hg ?_;refine wud (qMul (pw a f x i) f (by omega) (by omega)) ?_;refine hg ?_;exact ⟨i+1,by omega,by omega,StH.same svl (by rw [y01 hp])⟩
   . refine hg ?_;refine wud (qDiv (pw a f x i) f hf0 (by omega) (by omega)) ?_;refine hg ?_;exact ⟨i+1,by omega,by omega,StH.same svl (by rw [zl7 hp])⟩
 . refine hg ?_
   have e:i=x.natAbs:=by omega
   subst e;exact RLe.ofEq rfl
theorem zhw (s:ByteArray) (hs:s.size<=1073741824):CallsD Γ prog 107 [.one (cS s)] (.tup [.one (.sl 2 ((itO (y3a s)).map It.C)),.one (cB (y3a s).isSome)]):=by
 have bad:∀ b,y3a s=none->b=false->RLe (.tup [.one (.raw (.slice none 0 0)),.one (cB b)]) (.tup [.one (.sl 2 ((itO (y3a s)).map It.C)),.one (cB (y3a s).isSome)]):=fun b h hb=>by
  rw [h,hb];exact .tup (.cons (.one (.nilSl 2)) (.cons (.refl _) .nil))
 refine CallsD.run [(9,[.join])] Go.Proofs.Tryz.func107 rfl rfl rfl ?_;simp only [Go.Proofs.Tryz.f107];refine hgR ?_
 repeat' ((first | refine hfk ?_ ?_<;>intros | refine hik ?_)<;>refine hgS ?_)
 . exact .tup (.cons (.one (by rename_i h;simp only [y3a,h];exact .nilSl 2)) (.cons (by rename_i h;simp only [y3a,h];exact .refl _) .nil))
 . refine bad _ (by simp only [y3a, *];rfl) rfl
 refine wud (zjj _ _ hs (by decide)) ?_;refine hgS ?_;refine v8q [2,3,4] (fun r:ByteArray=>[(5,.one (.dat (cS r)))]) (fun _=>[]) (fun r=>r=yj9 s) ?_ ?_
 . refine hg ?_;refine vqn (fun h=>?_) (fun h=>?_)
   . refine hg ?_;refine ⟨_,rfl,?_⟩;simp only [yj9,h];exact StH.same svl rfl
   . refine hg ?_;refine ⟨_,rfl,?_⟩;simp only [yj9,h];exact StH.same svl rfl
 intro r0 hr0
 have h0:y3a s=v34 (s.size+2) r0 []:=by simp only [y3a, *];rfl
 have hsz:r0.size<=s.size+1:=by
  rw [hr0];unfold yj9;have h42:(⟨#[42]⟩:ByteArray).size=1:=rfl
  cases w2h s ⟨#[49]⟩
  . simp only [cond_false,ByteArray.size_append];omega
  . simp only [cond_true,v1l];omega
 clear hr0;refine hg ?_;refine xou [2,3] (fun p:Nat×ByteArray×List It=>[(4,.one (.sl 0 2 0 p.2.2.length)),(5,.one (.dat (cS p.2.1)))]) (fun p=>[.arr (.sl 2 (p.2.2.map It.C)) 0 (some 165)])
  (fun p=>p.2.1.size<p.1/\p.2.1.size<=1073741824/\p.2.2.length+p.2.1.size<=100/\v34 p.1 p.2.1 p.2.2=y3a s) (fun p=>p.2.1.size) (s.size+2,r0,[]) ⟨by simp only;omega,by simp only;omega,by simp only [List.length_nil];omega,h0.symm⟩ ?_ ?_
 . refine hg ?_;refine StH.trans (StH.empty (d:=4) (es:=2) (c:=.sl 2 []) (T:=some 165) rfl rfl (fun r hr=>by cases hr) rfl) ?_;refine hg ?_;exact StH.same svl rfl
 rintro ⟨k,r,acc⟩ ⟨h1,h2,h3,h4⟩;simp only at h1 h2 h3 h4;clear h0 hsz;obtain ⟨k,rfl⟩:∃ m,k=m+1:=⟨k-1,by omega⟩;rw [v34] at h4;refine hg ?_;refine w4y (fun hne _=>?_) (fun he _=>?_)
 . have hne':=decide_eq_false hne;rw [hne',cond_false] at h4;have hd':=v1l r 1;refine hg ?_;have hcs:=y6k (z4g r 1);have hce:=wqf (z4g r 1);rw [hd'] at hcs;refine wud (cCut (z4g r 1) (by rw [hd'];omega)) ?_;refine hg ?_
   have g1:(yxu (z4g r 1)).size<k:=by omega
   have g2:(yxu (z4g r 1)).size<=1073741824:=by omega
   have g3:∀ x:It,(acc++[x]).length+(yxu (z4g r 1)).size<=100:=fun x=>by rw [List.length_append,List.length_singleton];omega
   have g4:(yxu (z4g r 1)).size<r.size:=by omega
   have hmap:∀ x:It,acc.map It.C++[itC x]=(acc++[x]).map It.C:=fun x=>by simp;rfl
   repeat' ((first | refine hfk ?_ ?_<;>intros | refine hik ?_)<;>refine hgS ?_)
   . exact bad _ (by rw [<-h4];simp only [*];rfl) rfl
   . rename_i h47 _
     have h4':v34 k (yxu (z4g r 1)) (acc++[⟨(zq6 (z4g r 1)).w,0-(zq6 (z4g r 1)).e⟩])=y3a s:=by
      rw [<-h4];simp only [*,vdg];rfl
     refine ⟨(k,yxu (z4g r 1),acc++[⟨(zq6 (z4g r 1)).w,0-(zq6 (z4g r 1)).e⟩]),?_,?_,?_⟩
     . dsimp only;exact ⟨g1,g2,g3 _,h4'⟩
     . dsimp only;exact g4
     rw [hmap ⟨(zq6 (z4g r 1)).w,0-(zq6 (z4g r 1)).e⟩];refine StH.back [2,3,4,5] 0 2 1 rfl rfl rfl rfl rfl (by kernel_rfl) ?_;refine hg ?_;exact StH.same svl rfl
   . exfalso;omega
   . exfalso;omega
   . have h4':v34 k (yxu (z4g r 1)) (acc++[zq6 (z4g r 1)])=y3a s:=by
      rw [<-h4];simp only [*,vdg];rfl
     refine ⟨(k,yxu (z4g r 1),acc++[zq6 (z4g r 1)]),?_,?_,?_⟩
     . dsimp only;exact ⟨g1,g2,g3 _,h4'⟩
     . dsimp only;exact g4
     try rw [hmap (zq6 (z4g r 1))]
     refine StH.back [2,3,4,5] 0 2 1 rfl rfl rfl rfl rfl (by kernel_rfl) ?_;refine hg ?_;exact StH.same svl rfl
   . exact bad _ (by rw [<-h4];simp only [*];rfl) rfl
 . refine hg ?_;have he':decide (r.size=0)=true:=decide_eq_true (by omega);rw [he',cond_true] at h4;rw [<-h4];exact RLe.ofEq rfl
theorem w1r (s:ByteArray) (hs:s.size<=1073741824):CallsD Γ prog 78 [.one (cS s)] (.tup [.agg (unO (xnx s).1),.one (cI (xnx s).2)]):=by
 refine CallsD.run [] Go.Proofs.Tryz.func78 rfl rfl rfl ?_;simp only [Go.Proofs.Tryz.f78];refine hgR ?_;refine wud (zhw s hs) ?_
 cases hi:y3a s with
 | none=>
  conv=>simp (maxSteps:=2000000) (disch:=omega) only [go_sem,Nat.reduceAdd,Nat.reduceSub,Nat.reduceMul,Int.reduceToNat,Nat.reduceEqDiff,Nat.reduceBEq,Nat.reduceBneDiff,Nat.reduceLT,Int.reduceEq,Int.reduceLT,Int.reduceLE,Int.reduceNeg,Int.reduceAdd,Int.reduceSub,Int.reduceMul,Option.isSome,itO]
  exact RLe.ofEq (by simp only [xnx,hi];rfl)
 | some l=>
  obtain ⟨hl,hx⟩:=yuo hi
  conv=>simp (maxSteps:=2000000) (disch:=omega) only [go_sem,Nat.reduceAdd,Nat.reduceSub,Nat.reduceMul,Int.reduceToNat,Nat.reduceEqDiff,Nat.reduceBEq,Nat.reduceBneDiff,Nat.reduceLT,Int.reduceEq,Int.reduceLT,Int.reduceLE,Int.reduceNeg,Int.reduceAdd,Int.reduceSub,Int.reduceMul,Option.isSome,itO]
  refine wud (qInt 1 (by decide)) ?_;refine hg ?_;refine xou [2,6,23,24] (fun p:Nat×Un=>[(25,.one (.dat (cI p.1)))]) (fun p=>[.box (unZ.map .dat) (some 137),.box ((unC p.2).map .dat) (some 137)])
   (fun p=>p.1<=l.length/\p.2.d.le (27*p.1)/\qs p.2.f<=1+100*p.1/\wuw (l.drop p.1) p.2=wuw l ⟨Dm.zero,(1:Int)⟩) (fun p=>l.length-p.1) (0,⟨Dm.zero,(1:Int)⟩) ⟨Nat.zero_le _,by unfold Dm.le;decide,xzl,rfl⟩ ?_ ?_
  . refine hg ?_;exact StH.same svl rfl
  rintro ⟨i,u⟩ ⟨h1,h2,h3,h4⟩;simp only at h1 h2 h3 h4;refine hg ?_;refine w4y (fun hlt _=>?_) (fun hlt _=>?_)
  . have hlt':i<l.length:=by omega
    have hok:=hx _ (wip hlt');rw [wsu hlt',wuw] at h4;refine hg ?_;refine wud (x72 _ (by have:=hok.2.1;omega) hok.1) ?_
    cases hw:wy1 (l.getD i default).w with
    | none=>
     conv=>simp (maxSteps:=2000000) (disch:=omega) only [go_sem,Nat.reduceAdd,Nat.reduceSub,Nat.reduceMul,Int.reduceToNat,Nat.reduceEqDiff,Nat.reduceBEq,Nat.reduceBneDiff,Nat.reduceLT,Int.reduceEq,Int.reduceLT,Int.reduceLE,Int.reduceNeg,Int.reduceAdd,Int.reduceSub,Int.reduceMul,Option.isSome,unO]
     rw [hw] at h4;exact RLe.ofEq (by simp only [xnx,hi,<-h4])
    | some v=>
     obtain ⟨hv1,hv2,hv3⟩:=v12 hw;rw [hw] at h4;obtain ⟨b1,b2,b3,b4,b5,b6⟩:=h2;obtain ⟨d1,d2,d3,d4,d5,d6⟩:=hv1;have he:=hok.2.2;have c1:=vrx d1 he;have c2:=vrx d2 he;have c3:=vrx d3 he;have c4:=vrx d4 he;have c5:=vrx d5 he;have c6:=vrx d6 he
     have hq:qs (y6j u.f v.f (l.getD i default).e)<=qs u.f+9*(qs v.f+1):=by
      have:=yp5 u.f v.f (l.getD i default).e (l.getD i default).e.natAbs
      rw [<-wly] at this;have h9:(l.getD i default).e.natAbs*(qs v.f+1)<=9*(qs v.f+1):=Nat.mul_le_mul_right _ (by omega);omega
     have hle:(u.d.acc v.d (l.getD i default).e).le (27*(i+1:Nat)):=by
      have:=Dm.xc6 (x:=u.d) ⟨b1,b2,b3,b4,b5,b6⟩ ⟨d1,d2,d3,d4,d5,d6⟩ he
      rw [show (27*((i+1:Nat):Int))=27*i+27 from by omega];exact this
     conv=>simp (maxSteps:=2000000) (disch:=omega) only [go_sem,Nat.reduceAdd,Nat.reduceSub,Nat.reduceMul,Int.reduceToNat,Nat.reduceEqDiff,Nat.reduceBEq,Nat.reduceBneDiff,Nat.reduceLT,Int.reduceEq,Int.reduceLT,Int.reduceLE,Int.reduceNeg,Int.reduceAdd,Int.reduceSub,Int.reduceMul,Option.isSome,unO]
     repeat' ((first | refine hfk ?_ ?_<;>intros | refine hik ?_ | with_reducible refine yz8 ?_ | with_reducible refine ycx ?_ | with_reducible first | refine wud (zi0 u.f v.f (l.getD i default).e (by omega) (by omega) (by omega) hv3) ?_ | refine vqe (zi0 u.f v.f (l.getD i default).e (by omega) (by omega) (by omega) hv3) ?_)<;>refine hgS ?_)
     refine ⟨(i+1,⟨u.d.acc v.d (l.getD i default).e,y6j u.f v.f (l.getD i default).e⟩),?_,?_,?_⟩
     . dsimp only;exact ⟨by omega,hle,by omega,h4⟩
     . dsimp only;omega
     refine StH.back [2,6,23,24,25] 2 2 2 rfl rfl rfl rfl rfl (by kernel_rfl) ?_;refine hg ?_;exact StH.same svl rfl
  . have h4':wuw l ⟨Dm.zero,(1:Int)⟩=some u:=by rw [<-h4,List.drop_eq_nil_of_le (by omega)];rfl
    refine hg ?_
    repeat' ((first | refine hfk ?_ ?_<;>intros | refine hik ?_ | with_reducible first | refine wud (xby _) ?_ | refine vqe (xby _) ?_)<;>refine hgS ?_)
    all_goals
     rename_i hd;exact RLe.ofEq (by simp only [xnx,hi,h4',hd];rfl)
end Go.Hp.T
