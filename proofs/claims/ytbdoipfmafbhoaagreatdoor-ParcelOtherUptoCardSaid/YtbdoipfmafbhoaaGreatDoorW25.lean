/- The proof, part W25: Pl, Pm, Nc, Nd. -/
import Derived.Test.YtbdoipfmafbhoaaGreatDoorW24
import Derived.Test.YtbdoipfmafbhoaaGreatDoorW23
import Derived.Test.YtbdoipfmafbhoaaGreatDoorW19
import Derived.Test.YtbdoipfmafbhoaaGreatDoorW22
namespace Go.Hp.T
open Go Go.RowKit Go.Slot Go.Hp Go.Slot.T
open Go.Proofs.Tryz (prog)
set_option maxRecDepth 10000
set_option maxHeartbeats 8000000
variable {Γ:List (Nat×List Cell)}
structure Mo (L:List Tk) (rec:Nat->Bool->Rd):Prop where
 mono:∀ i c,i<=(rec i c).2.1
 le:∀ i c,i<=L.length->(rec i c).2.1<=L.length
theorem wja {L:List Tk} {rec:Nat->Bool->Rd} (H:Mo L rec) (a:Nat) (b:Bool):a<=(sm1 L rec a b).2.1/\(a<=L.length->(sm1 L rec a b).2.1<=L.length):=by
 unfold sm1
 cases b with
 | true=>exact ⟨Nat.le_refl _,fun h=>h⟩
 | false=>exact ⟨Nat.le_trans (H.mono a false) yxt,fun h=>wsn (H.le a false h)⟩
theorem y19 {L:List Tk} {rec:Nat->Bool->Rd} (H:Mo L rec) (a:Nat) (b:Bool):a<=(sm2 L rec a b).2.1/\(a<=L.length->(sm2 L rec a b).2.1<=L.length):=by
 unfold sm2
 cases b with
 | true=>exact ⟨Nat.le_refl _,fun h=>h⟩
 | false=>
  rw [cond_false]
  cases (rec a false).2.2 with
  | true=>exact ⟨H.mono a false,fun h=>H.le a false h⟩
  | false=>exact ⟨Nat.le_trans (H.mono a false) (Nat.le_trans yxt (Nat.le_trans (H.mono _ _) yxt)),fun h=>wsn (H.le _ _ (wsn (H.le a false h)))⟩
theorem vfz {L:List Tk} {rec:Nat->Bool->Rd} (H:Mo L rec):∀(n:Nat) (out:List Ex) (a:Nat) (b:Bool),a<=(anL L rec n out a b).2.1/\(a<=L.length->(anL L rec n out a b).2.1<=L.length)
 | 0,out,a,b=>⟨yxt,fun h=>wsn h⟩
 | n+1,out,a,b=>by
  rw [anL]
  cases hi:isF L a b 3 tCm with
  | true=>
   have h1:=(zfo hi).1;have h2:=vfz H n (out++[(rec (a+1) false).1]) (rec (a+1) false).2.1 (rec (a+1) false).2.2;have h3:=H.mono (a+1) false;exact ⟨by rw [cond_true];omega,fun _=>h2.2 (H.le _ _ h1)⟩
  | false=>exact ⟨yxt,fun h=>wsn h⟩
theorem yxv {L:List Tk} {rec:Nat->Bool->Rd} (H:Mo L rec) (a:Nat):a<=(anF L rec a).2.1/\(a<=L.length->(anF L rec a).2.1<=L.length):=by
 have h:=vfz H L.length [(rec a false).1] (rec a false).2.1 (rec a false).2.2;exact ⟨Nat.le_trans (H.mono a false) h.1,fun h1=>h.2 (H.le _ _ h1)⟩
theorem ynj {L:List Tk} {rec:Nat->Bool->Rd} (H:Mo L rec) (a:Nat) (b:Bool):a<=(v02 L rec a b).2.1/\(a<=L.length->(v02 L rec a b).2.1<=L.length):=by
 unfold v02
 cases b with
 | true=>exact ⟨Nat.le_refl _,fun h=>h⟩
 | false=>
  rw [cond_false]
  cases h1:kdF L a false 1 with
  | true=>
   have hlt:=(wtr h1).1;rw [cond_true];dsimp only;unfold nbA
   cases h2:kdF L (a+1) false 2 with
   | true=>have:=(wtr h2).1;exact ⟨by rw [cond_true];omega,fun _=>by rw [cond_true];omega⟩
   | false=>exact ⟨Nat.le_succ _,fun _=>hlt⟩
  | false=>
   rw [cond_false]
   cases h2:isF L a false 3 tLp with
   | true=>
    have hlt:=(zfo h2).1;have hs:=wja H (a+1) false;rw [cond_true];unfold atP
    cases (sm1 L rec (a+1) false).2.2 with
    | true=>exact ⟨by rw [cond_true];dsimp only;omega,fun _=>hs.2 hlt⟩
    | false=>exact ⟨by rw [cond_false];dsimp only;omega,fun _=>hs.2 hlt⟩
   | false=>
    rw [cond_false]
    cases h3:isF L a false 0 zym with
    | true=>
     have hlt:=(zfo h3).1;have h5:a+1<=lkA L (a+1):=Nat.le_trans (yxt (b:=false) (k:=3) (t:=tLp)) vst;have h6:lkA L (a+1)<=L.length:=zun (wsn (by omega));have hs:=wja H (skF L (lkA L (a+1)) (lkB L (a+1)) 3 tCm) (!isF L (lkA L (a+1)) (lkB L (a+1)) 3 tCm);have h7:lkA L (a+1)<=skF L (lkA L (a+1)) (lkB L (a+1)) 3 tCm:=yxt;rw [cond_true];unfold lkR;exact ⟨by dsimp only;omega,fun _=>hs.2 (wsn h6)⟩
    | false=>
     rw [cond_false]
     have hmm:a<L.length->a<=(mmR L rec (a+1)).2.1/\(a<=L.length->(mmR L rec (a+1)).2.1<=L.length):=fun hlt=>by
      have hs:=y19 H (skF L (a+1) false 3 tLp) (!isF L (a+1) false 3 tLp);have h7:a+1<=skF L (a+1) false 3 tLp:=yxt;unfold mmR;exact ⟨by omega,fun _=>hs.2 (wsn hlt)⟩
     cases h4:isF L a false 0 tMin with
     | true=>exact hmm (zfo h4).1
     | false=>
      rw [cond_false]
      cases h5:isF L a false 0 tMax with
      | true=>exact hmm (zfo h5).1
      | false=>
       rw [cond_false];unfold atN
       cases h6:isF L (nmA L a false) (nmB L a false) 3 tLp with
       | true=>
        have hlt:=(zfo h6).1;have hs:=yxv H (nmA L a false+1);have h7:a<=nmA L a false:=vst;exact ⟨by rw [cond_true];dsimp only;omega,fun _=>hs.2 hlt⟩
       | false=>exact ⟨vst,fun h=>zun h⟩
theorem wwy {L:List Tk} {a:Nat} {b:Bool} {i:Nat} (h:opNx L a b=some i):a<L.length:=by
 have h1:=List.find?_some h;unfold opIs at h1;rw [Bool.and_eq_true] at h1;exact (zfo h1.2).1
theorem vhq {L:List Tk} {rec:Nat->Bool->Rd} (H:Mo L rec) (a:Nat) (b:Bool):a<=(zqe L rec a b).2.1/\(a<=L.length->(zqe L rec a b).2.1<=L.length):=by
 unfold zqe
 cases b with
 | true=>exact ⟨Nat.le_refl _,fun h=>h⟩
 | false=>
  rw [cond_false]
  cases h1:isF L a false 0 tNot with
  | true=>
   have hlt:=(zfo h1).1;have hs:=ynj H (a+1) false;exact ⟨by rw [cond_true];dsimp only;omega,fun _=>hs.2 hlt⟩
  | false=>
   rw [cond_false]
   cases h2:isF L a false 0 tIf with
   | true=>
    have hlt:=(zfo h2).1;have hs:=ynj H (a+1) false
    have hb:∀(p:Rd) (t:ByteArray),p.2.1<=(ifB L rec p t).2.1/\(p.2.1<=L.length->(ifB L rec p t).2.1<=L.length):=fun p t=>by
     have:=ynj H (skF L p.2.1 p.2.2 0 t) (!isF L p.2.1 p.2.2 0 t)
     exact ⟨Nat.le_trans yxt this.1,fun h=>this.2 (wsn h)⟩
    have hb1:=hb (v02 L rec (a+1) false) yv7;have hb2:=hb (ifB L rec (v02 L rec (a+1) false) yv7) ykx;rw [cond_true];unfold ifR;exact ⟨by dsimp only;omega,fun _=>hb2.2 (hb1.2 (hs.2 hlt))⟩
   | false=>
    rw [cond_false];have hs:=ynj H a false;generalize v02 L rec a false=x at *;unfold opM
    cases ho:opNx L x.2.1 x.2.2 with
    | none=>exact hs
    | some i=>
     have hlt:=wwy ho;have ht:=ynj H (x.2.1+1) x.2.2;exact ⟨by dsimp only;omega,fun _=>ht.2 hlt⟩
def exF (L:List Tk):Nat->Nat->Bool->Rd
 | 0,a,_=>(zE,a,true)
 | n+1,a,b=>zqe L (exF L n) a b
theorem vh9 (L:List Tk):∀ n,Mo L (exF L n)
 | 0=>⟨fun _ _=>Nat.le_refl _,fun _ _ h=>h⟩
 | n+1=>⟨fun i c=>(vhq (vh9 L n) i c).1,fun i c=>(vhq (vh9 L n) i c).2⟩
theorem vbp.mo {L:List Tk} {rec:Nat->Bool->Rd} {a:Nat} (H:vbp Γ L rec a):Mo L rec:=⟨H.mono,H.le⟩
theorem vbp.up {L:List Tk} {rec:Nat->Bool->Rd} {a i:Nat} (H:vbp Γ L rec a) (h:a<=i):vbp Γ L rec i:=⟨H.len,H.mono,H.le,fun j c hj=>H.run j c (by omega)⟩
theorem v9h (L:List Tk) (rec:Nat->Bool->Rd) (a:Nat) (b:Bool) (ha:a<=L.length) (H:vbp Γ L rec a):z8v Γ L a b (zqe L rec a b):=by
 unfold zqe
 cases b with
 | true=>exact xgd L a
 | false=>
  rw [cond_false]
  cases h1:isF L a false 0 tNot with
  | true=>exact xne L a H.len h1 _ (vxg L rec (a+1) false (zfo h1).1 (H.up (Nat.le_succ _)))
  | false=>
   rw [cond_false]
   cases h2:isF L a false 0 tIf with
   | true=>
    have hlt:=(zfo h2).1;have hs:=ynj H.mo (a+1) false;have ht:=ynj H.mo (skF L (v02 L rec (a+1) false).2.1 (v02 L rec (a+1) false).2.2 0 yv7) (!isF L (v02 L rec (a+1) false).2.1 (v02 L rec (a+1) false).2.2 0 yv7);have l1:(v02 L rec (a+1) false).2.1<=skF L (v02 L rec (a+1) false).2.1 (v02 L rec (a+1) false).2.2 0 yv7:=yxt;have l2:(ifB L rec (v02 L rec (a+1) false) yv7).2.1<=skF L (ifB L rec (v02 L rec (a+1) false) yv7).2.1 (ifB L rec (v02 L rec (a+1) false) yv7).2.2 0 ykx:=yxt;have u1:=hs.2 hlt;have u2:=ht.2 (wsn u1);exact zlm L a H.len h1 h2 _ _ _ (vxg L rec (a+1) false hlt (H.up (Nat.le_succ _)))
     (vxg L rec _ _ (wsn u1) (H.up (by omega))) (vxg L rec _ _ (wsn u2) (H.up (by unfold ifB at l2 ⊢;omega)))
   | false=>
    rw [cond_false];have hs:=ynj H.mo a false;have m:=vxg (Γ:=Γ) L rec a false ha H;generalize v02 L rec a false=x at *;obtain ⟨x,a1,b1⟩:=x;exact y11 L a H.len h1 h2 x a1 b1 _ m (fun i hi=>vxg L rec (a1+1) b1 (wwy hi) (H.up (by have:=hs.1;dsimp only at this;omega)))
theorem zc1 (L:List Tk) (hl:L.length<=1073741824):∀(n a:Nat) (b:Bool),a<=L.length->L.length-a<n->z8v Γ L a b (exF L n a b)
 | 0,a,b,_,h=>absurd h (Nat.not_lt_zero _)
 | n+1,a,b,ha,h=>v9h L (exF L n) a b ha ⟨hl,(vh9 L n).mono,(vh9 L n).le,fun i c hi hi'=>zc1 L hl n i c hi' (by omega)⟩
end Go.Hp.T
namespace Go.Hp.T
open Go Go.RowKit Go.Slot Go.Hp Go.Slot.T
open Go.Proofs.Tryz (prog)
attribute [local irreducible] hide RH
set_option maxRecDepth 10000
set_option maxHeartbeats 8000000
variable {Γ:List (Nat×List Cell)}
theorem z5n:zE.Sm:=.mk _ (by decide) (by decide) (by decide) (fun y h=>by cases h)
theorem w1x {o n:Int} {u s:ByteArray} {l:List Ex} (hl:l.length<=1073741824) (hu:u.size<=1073741824) (hs:s.size<=1073741824) (h:∀ y∈l,y.Sm):(Ex.mk o n u s l).Sm:=.mk _ hl hu hs h
structure SmR (L:List Tk) (rec:Nat->Bool->Rd):Prop where
 len:L.length<=1048576
 tok:∀ a,(L.getD a default).t.size<=1048576
 mo:Mo L rec
 sm:∀ i c,(rec i c).1.Sm
theorem zg0 {L:List Tk} {rec:Nat->Bool->Rd} (H:SmR L rec) (a:Nat) (b:Bool):(sm1 L rec a b).1.length<=1073741824/\∀ y∈(sm1 L rec a b).1,y.Sm:=by
 unfold sm1
 cases b with
 | true=>exact ⟨Nat.zero_le _,fun y h=>by cases h⟩
 | false=>exact ⟨by unfold clF;simp,fun y h=>by unfold clF at h;simp at h;rw [h];exact H.sm _ _⟩
theorem x87 {L:List Tk} {rec:Nat->Bool->Rd} (H:SmR L rec) (a:Nat) (b:Bool):(sm2 L rec a b).1.length<=1073741824/\∀ y∈(sm2 L rec a b).1,y.Sm:=by
 unfold sm2
 cases b with
 | true=>exact ⟨Nat.zero_le _,fun y h=>by cases h⟩
 | false=>
  rw [cond_false]
  cases (rec a false).2.2 with
  | true=>exact ⟨by simp,fun y h=>by simp at h;rw [h];exact H.sm _ _⟩
  | false=>exact ⟨by unfold clF;simp,fun y h=>by unfold clF at h;simp at h;rcases h with h | h<;>rw [h]<;>exact H.sm _ _⟩
theorem y2o {L : List Tk} {rec : Nat → Bool → Rd} (H : SmR L rec) : ∀ (n : Nat) (out : List Ex) (a : Nat) (b : Bool), (∀ y ∈ out, y.Sm) → (anL L rec n out a b).1.length ≤ out.length + n ∧ ∀ y ∈ (anL L rec n out a b).1, y.Sm
 | 0,out,a,b,h=>⟨Nat.le_refl _,h⟩
 | n + 1, out, a, b, h => by
  rw [anL]
  cases isF L a b 3 tCm with
  | true=>
   have h2:=y2o H n (out++[(rec (a+1) false).1]) (rec (a+1) false).2.1 (rec (a+1) false).2.2 (fun y hy=>by
    rcases List.mem_append.1 hy with hy | hy
    . exact h y hy
    . simp at hy;rw [hy];exact H.sm _ _)
   rw [List.length_append,List.length_singleton] at h2;exact ⟨by rw [cond_true];omega,h2.2⟩
  | false=>exact ⟨Nat.le_add_right _ _,h⟩
theorem zhw {L:List Tk} {rec:Nat->Bool->Rd} (H:SmR L rec) (a:Nat):(anF L rec a).1.length<=1073741824/\∀ y∈(anF L rec a).1,y.Sm:=by
 have h:=y2o H L.length [(rec a false).1] (rec a false).2.1 (rec a false).2.2 (fun y hy=>by simp at hy;rw [hy];exact H.sm _ _)
 have:=H.len
 exact ⟨Nat.le_trans h.1 (by simp;omega),h.2⟩
theorem xjz {L:List Tk} {rec:Nat->Bool->Rd} (H:SmR L rec) (a:Nat) (b:Bool):(nmS L a b).size<=1073741824:=by
 unfold nmS
 have:=H.tok a
 cases nmOk L a b with
 | true=>rw [cond_true];omega
 | false=>rw [cond_false];decide
theorem x0u {L:List Tk} {rec:Nat->Bool->Rd} (H:SmR L rec) (a:Nat) (b:Bool):(v02 L rec a b).1.Sm:=by
 have e0:(⟨#[]⟩:ByteArray).size<=1073741824:=by decide
 unfold v02
 cases b with
 | true=>exact z5n
 | false=>
  rw [cond_false]
  cases kdF L a false 1 with
  | true=>
   rw [cond_true];unfold nbE;refine w1x (Nat.zero_le _) ?_ e0 (fun y h=>by cases h)
   have:=H.tok (a+1)
   cases kdF L (a+1) false 2 with
   | true=>rw [cond_true];omega
   | false=>rw [cond_false];exact e0
  | false=>
   rw [cond_false]
   cases isF L a false 3 tLp with
   | true=>
    have hs:=zg0 H (a+1) false;rw [cond_true];unfold atP
    cases (sm1 L rec (a+1) false).2.2 with
    | true=>exact z5n
    | false=>
     rw [cond_false];dsimp only
     cases hl:(sm1 L rec (a+1) false).1 with
     | nil=>exact z5n
     | cons y l=>exact hs.2 y (by rw [hl];exact List.mem_cons_self)
   | false=>
    rw [cond_false]
    cases isF L a false 0 zym with
    | true=>
     have hs:=zg0 H (skF L (lkA L (a+1)) (lkB L (a+1)) 3 tCm) (!isF L (lkA L (a+1)) (lkB L (a+1)) 3 tCm);exact w1x hs.1 e0 (xjz H _ _) hs.2
    | false=>
     rw [cond_false];have hs:=x87 H (skF L (a+1) false 3 tLp) (!isF L (a+1) false 3 tLp)
     cases isF L a false 0 tMin with
     | true=>exact w1x hs.1 e0 e0 hs.2
     | false=>
      rw [cond_false]
      cases isF L a false 0 tMax with
      | true=>exact w1x hs.1 e0 e0 hs.2
      | false=>
       rw [cond_false];unfold atN
       cases isF L (nmA L a false) (nmB L a false) 3 tLp with
       | true=>
        have hs:=zhw H (nmA L a false+1);exact w1x hs.1 e0 (xjz H _ _) hs.2
       | false=>exact w1x (Nat.zero_le _) e0 (xjz H _ _) (fun y h=>by cases h)
theorem w8m {L:List Tk} {rec:Nat->Bool->Rd} (H:SmR L rec) (a:Nat) (b:Bool):(zqe L rec a b).1.Sm:=by
 have e0:(⟨#[]⟩:ByteArray).size<=1073741824:=by decide
 unfold zqe
 cases b with
 | true=>exact z5n
 | false=>
  rw [cond_false]
  cases isF L a false 0 tNot with
  | true=>exact w1x (by simp) e0 e0 (fun y h=>by simp at h;rw [h];exact x0u H _ _)
  | false=>
   rw [cond_false]
   cases isF L a false 0 tIf with
   | true=>exact w1x (by simp) e0 e0 (fun y h=>by simp at h;rcases h with h | h | h<;>rw [h]<;>exact x0u H _ _)
   | false=>
    rw [cond_false];have hx:=x0u H a false;generalize v02 L rec a false=x at *;unfold opM
    cases opNx L x.2.1 x.2.2 with
    | none=>exact hx
    | some i=>exact w1x (by simp) e0 e0 (fun y h=>by simp at h;rcases h with h | h<;>rw [h];exact hx;exact x0u H _ _)
theorem veo {L:List Tk} (hl:L.length<=1048576) (ht:∀ a,(L.getD a default).t.size<=1048576):∀(n a:Nat) (b:Bool),(exF L n a b).1.Sm
 | 0,a,b=>z5n
 | n+1,a,b=>w8m ⟨hl,ht,vh9 L n,veo hl ht n⟩ a b
def yx6 (L:List Tk) (a:Nat):Ex×Nat×Int:=
 bif (exF L (L.length+1) a false).2.2 then (zE,(exF L (L.length+1) a false).2.1,12) else
 bif wbe (exF L (L.length+1) a false).1 then ((exF L (L.length+1) a false).1,(exF L (L.length+1) a false).2.1,0) else (zE,(exF L (L.length+1) a false).2.1,6)
theorem xhx (p q:AV):RLe (.tup [.agg [cI 0,cI 0,cS ⟨#[]⟩,cS ⟨#[]⟩,.zc],p,q]) (.tup [.agg (exC zE),p,q]):=.tup (.cons (.agg (.cons (.refl _) (.cons (.refl _) (.cons (.refl _) (.cons (.refl _) (.cons (.zcSl _) .nil)))))) (.cons (.refl _) (.cons (.refl _) .nil)))
theorem yef (L:List Tk) (a:Nat) (hl:L.length<=1048576) (ht:∀ a,(L.getD a default).t.size<=1048576) (ha:a<=L.length):CallsD Γ prog 210 [.one (.sl 4 (L.map Tk.C)),.one (cI a)] (.tup [.agg (exC (yx6 L a).1),.one (cI (yx6 L a).2.1),.one (cI (yx6 L a).2.2)]):=by
 have c:=zc1 (Γ:=Γ) L (by omega) (L.length+1) a false ha (by omega);have hs:=veo hl ht (L.length+1) a false;unfold yx6;generalize exF L (L.length+1) a false=r at *;obtain ⟨x,a1,b1⟩:=r;have cr:=vc7 (Γ:=Γ) x hs;unfold z8v at c;simp only at c;clear hs ht
 cases b1 with
 | true=>
  refine CallsD.run [] Go.Proofs.Tryz.func210 rfl rfl rfl ?_;simp only [Go.Proofs.Tryz.f210];refine hgR ?_
  repeat' ((first | refine hfk ?_ ?_<;>intros | refine hik ?_)<;>refine hgS ?_)
  all_goals try (exfalso;omega)
  refine xwj [1] c rfl (by decide) rfl rfl rfl ?_;refine hg ?_
  repeat' ((first | refine hfk ?_ ?_<;>intros | refine hik ?_)<;>refine hgS ?_)
  exact xhx _ _
 | false=>
  cases h:wbe x with
  | true=>
   rw [h] at cr;refine CallsD.run [] Go.Proofs.Tryz.func210 rfl rfl rfl ?_;simp only [Go.Proofs.Tryz.f210];refine hgR ?_
   repeat' ((first | refine hfk ?_ ?_<;>intros | refine hik ?_)<;>refine hgS ?_)
   all_goals try (exfalso;omega)
   refine xwj [1] c rfl (by decide) rfl rfl rfl ?_;refine hg ?_
   repeat' ((first | refine hfk ?_ ?_<;>intros | refine hik ?_ | with_reducible first | refine y5k (cr) ?_ | refine x4p (cr) ?_)<;>refine hgS ?_)
   exact RLe.ofEq rfl
  | false=>
   rw [h] at cr;refine CallsD.run [] Go.Proofs.Tryz.func210 rfl rfl rfl ?_;simp only [Go.Proofs.Tryz.f210];refine hgR ?_
   repeat' ((first | refine hfk ?_ ?_<;>intros | refine hik ?_)<;>refine hgS ?_)
   all_goals try (exfalso;omega)
   refine xwj [1] c rfl (by decide) rfl rfl rfl ?_;refine hg ?_
   repeat' ((first | refine hfk ?_ ?_<;>intros | refine hik ?_ | with_reducible first | refine y5k (cr) ?_ | refine x4p (cr) ?_)<;>refine hgS ?_)
   exact xhx _ _
end Go.Hp.T
namespace Go.Hp.T
open Go Go.RowKit Go.Slot Go.Hp Go.Slot.T
open Go.Proofs.Tryz (prog)
attribute [local irreducible] hide RH
set_option maxRecDepth 10000
set_option maxHeartbeats 4000000
variable {Γ:List (Nat×List Cell)}
theorem xip (x:Dm):CallsD Γ prog 111 [.agg (dmC x)] (.one (cB (wvi x))):=by
 refine CallsD.run [] Go.Proofs.Tryz.func111 rfl rfl rfl ?_;simp only [Go.Proofs.Tryz.f111];refine hgR ?_
 repeat' ((first | refine hfk ?_ ?_<;>intros | refine hik ?_ | with_reducible refine zl7 ?_ | with_reducible refine zp2 ?_)<;>refine hgS ?_)
 all_goals refine lf2 @wvi.eq_def @bad9.eq_def ?_;first | exact trivial | rfl
theorem y8v (c:Int):CallsD Γ prog 164 [.one (c8 c)] (.one (cB (ylw c))):=by
 refine CallsD.run [] Go.Proofs.Tryz.func164 rfl rfl rfl ?_;simp only [Go.Proofs.Tryz.f164];refine hgR ?_
 repeat' ((first | refine hfk ?_ ?_<;>intros | refine hik ?_)<;>refine hgS ?_)
 all_goals refine lf1 @ylw.eq_def ?_;first | exact trivial | rfl
theorem yaf (b e p q:Int) (hb:b=0\/b=1\/b=2\/b=3\/b=4\/b=5) (hp:inI p) (hq:inI q) (hq0:q≠0):CallsD Γ prog 166 [.one (cI b),.one (cI e),.one (cI p),.one (cI q)] (.agg (unC (unOf b e p q))):=by
 rcases hb with rfl | rfl | rfl | rfl | rfl | rfl
 all_goals
  refine CallsD.run [] Go.Proofs.Tryz.func166 rfl rfl rfl ?_;simp only [Go.Proofs.Tryz.f166];refine hgR ?_
  repeat' ((first | refine hfk ?_ ?_<;>intros | refine hik ?_ | with_reducible first | refine y5k (qOf p q hp hq hq0) ?_ | refine x4p (qOf p q hp hq hq0) ?_)<;>refine hgS ?_)
  exact RLe.ofEq rfl
theorem vts (s:ByteArray):CallsD Γ prog 136 [.one (cS s)] (.tup [.agg (unO (symF s)),.one (cB (symF s).isSome)]):=by
 have h1:=yaf (Γ:=Γ) 0 1 1 1 (by decide) (by decide) (by decide) (by decide);have h2:=yaf (Γ:=Γ) 0 1 1000000 1 (by decide) (by decide) (by decide) (by decide);have h3:=yaf (Γ:=Γ) 1 1 1 1 (by decide) (by decide) (by decide) (by decide);have h4:=yaf (Γ:=Γ) 1 3 1 1000 (by decide) (by decide) (by decide) (by decide);have h5:=yaf (Γ:=Γ) 2 1 1 1 (by decide) (by decide) (by decide) (by decide);have h6:=yaf (Γ:=Γ) 2 1 3600 1 (by decide) (by decide) (by decide) (by decide);have h7:=yaf (Γ:=Γ) 2 1 86400 1 (by decide) (by decide) (by decide) (by decide);have h8:=yaf (Γ:=Γ) 3 1 1 1 (by decide) (by decide) (by decide) (by decide);have h9:=yaf (Γ:=Γ) 3 1 3600 1 (by decide) (by decide) (by decide) (by decide);have h10:=yaf (Γ:=Γ) 4 1 1 1 (by decide) (by decide) (by decide) (by decide);have h11:=yaf (Γ:=Γ) 4 1 100 1 (by decide) (by decide) (by decide) (by decide);have h12:=yaf (Γ:=Γ) 5 1 1 1 (by decide) (by decide) (by decide) (by decide);refine CallsD.run [] Go.Proofs.Tryz.func136 rfl rfl rfl ?_;simp only [Go.Proofs.Tryz.f136];refine hgR ?_
 repeat' ((first | refine hfk ?_ ?_<;>intros | refine hik ?_ | with_reducible first | refine y5k (h1) ?_ | refine x4p (h1) ?_ | refine y5k (h2) ?_ | refine x4p (h2) ?_ | refine y5k (h3) ?_ | refine x4p (h3) ?_ | refine y5k (h4) ?_ | refine x4p (h4) ?_ | refine y5k (h5) ?_ | refine x4p (h5) ?_ | refine y5k (h6) ?_ | refine x4p (h6) ?_ | refine y5k (h7) ?_ | refine x4p (h7) ?_ | refine y5k (h8) ?_ | refine x4p (h8) ?_ | refine y5k (h9) ?_ | refine x4p (h9) ?_ | refine y5k (h10) ?_ | refine x4p (h10) ?_ | refine y5k (h11) ?_ | refine x4p (h11) ?_ | refine y5k (h12) ?_ | refine x4p (h12) ?_)<;>refine hgS ?_)
 all_goals (refine RLe.ofEq ?_;conv=>simp only [Bool.and_true,Bool.true_and,Bool.and_false,Bool.false_and,Bool.or_true,Bool.true_or,Bool.or_false,Bool.false_or,Bool.not_true,Bool.not_false,decide_true,decide_false,not_true_eq_false,not_false_eq_true,zh5,if_true,if_false,Bool.and_self,Bool.or_self,cond_true,cond_false,List.length_map,ne_eq,Int.reduceEq,Int.reduceLT,Int.reduceLE, *,symF,unO,Option.isSome]);first | exact trivial | rfl
theorem vp2 (c:Int):CallsD Γ prog 137 [.one (c8 c)] (.tup [.one (cI (preO (preF c)).1),.one (cI (preO (preF c)).2),.one (cB (preF c).isSome)]):=by
 refine CallsD.run [] Go.Proofs.Tryz.func137 rfl rfl rfl ?_;simp only [Go.Proofs.Tryz.f137];refine hgR ?_
 repeat' ((first | refine hfk ?_ ?_<;>intros | refine hik ?_)<;>refine hgS ?_)
 all_goals (refine RLe.ofEq ?_;conv=>simp only [Bool.and_true,Bool.true_and,Bool.and_false,Bool.false_and,Bool.or_true,Bool.true_or,Bool.or_false,Bool.false_or,Bool.not_true,Bool.not_false,decide_true,decide_false,not_true_eq_false,not_false_eq_true,zh5,if_true,if_false,Bool.and_self,Bool.or_self,cond_true,cond_false,List.length_map,ne_eq,Int.reduceEq,Int.reduceLT,Int.reduceLE, *,preF,preO,Option.isSome]);first | exact trivial | rfl
theorem w6t (s:ByteArray):CallsD Γ prog 138 [.one (cS s)] (.one (cB (y90 s))):=by
 refine CallsD.run [] Go.Proofs.Tryz.func138 rfl rfl rfl ?_;simp only [Go.Proofs.Tryz.f138];refine hgR ?_
 repeat' ((first | refine hfk ?_ ?_<;>intros | refine hik ?_)<;>refine hgS ?_)
 all_goals refine lf1 @y90.eq_def ?_;first | exact trivial | rfl
theorem sExt (s:ByteArray) (i:Nat):s.extract 0 i=y3b s i:=rfl
theorem v4k (s:ByteArray) (i:Nat):s.extract i s.size=xto s i:=rfl
attribute [go_sem] sExt v4k
theorem v8g (s p:ByteArray) (_hs:s.size<=1073741824) (hp:p.size<=1073741824):CallsD Γ prog 201 [.one (cS s),.one (cS p)] (.one (cB (wiz s p))):=by
 refine CallsD.run [] Go.Proofs.Tryz.func201 rfl rfl rfl ?_;simp only [Go.Proofs.Tryz.f201];refine hgR ?_
 repeat' ((first | refine hfk ?_ ?_<;>intros | refine hik ?_)<;>refine hgS ?_)
 all_goals refine lf1 @wiz.eq_def ?_;first | exact trivial | rfl
theorem wag (s p:ByteArray) (hs:s.size<=1073741824) (hp:p.size<=1073741824):CallsD Γ prog 163 [.one (cS s),.one (cS p)] (.tup [.one (cS (bif wiz s p then xto s p.size else s)),.one (cB (wiz s p))]):=by
 refine CallsD.run [] Go.Proofs.Tryz.func163 rfl rfl rfl ?_;simp only [Go.Proofs.Tryz.f163];refine hgR ?_;refine y5k (v8g s p hs hp) ?_;refine hg ?_;refine x6e (fun h=>?_) (fun h=>?_)
 . refine hg ?_
   refine lfE ?_;first | exact trivial | rfl
 . have hle:p.size<=s.size:=by
    simp only [wiz,Bool.and_eq_true,decide_eq_true_eq] at h;omega
   refine hg ?_
   refine lfE ?_;first | exact trivial | rfl
theorem yv2 (s p:ByteArray) (hs:s.size<=1073741824) (hp:p.size<=1073741824):CallsD Γ prog 133 [.one (cS s),.one (cS p)] (.tup [.one (cS (bif wiz s p then xto s p.size else s)),.one (cB (wiz s p))]):=by
 refine CallsD.run [] Go.Proofs.Tryz.func133 rfl rfl rfl ?_;simp only [Go.Proofs.Tryz.f133];refine hgR ?_
 repeat' ((first | refine hfk ?_ ?_<;>intros | refine hik ?_ | with_reducible first | refine y5k (wag s p hs hp) ?_ | refine x4p (wag s p hs hp) ?_)<;>refine hgS ?_)
 all_goals refine lfE ?_;first | exact trivial | rfl
theorem cCut (s:ByteArray) (hs:s.size<=1073741824):CallsD Γ prog 134 [.one (cS s)] (.tup [.agg (itC (w3n s)),.one (cS (xer s)),.one (cB (wmz s))]):=by
 refine CallsD.run [] Go.Proofs.Tryz.func134 rfl rfl rfl ?_;simp only [Go.Proofs.Tryz.f134];refine hgR ?_;refine wwt [0,2] (fun n:Nat=>[(5,.one (.dat (cI n)))]) (fun _=>[.box [.dat (cS ⟨⟨[]⟩⟩),.dat (cI 0)] (some 165)]) (fun n=>n<=s.size/\∀ j,j<n->ylw (xw3 s j)=true) (fun n=>s.size-n) 0 ⟨Nat.zero_le _,fun j hj=>by omega⟩ ?_ ?_
 . refine hg ?_;exact StH.same svl rfl
 intro n hn;obtain ⟨hn,hj⟩:=hn;refine hg ?_;refine zq0 (fun hlt hd=>?_) (fun hlt _=>?_)
 . refine hg1 @hd ?_;refine y5k (y8v _) ?_;refine hg ?_;refine wou (fun h1=>?_) (fun h1=>?_)
   . refine hg ?_;refine ⟨n+1,⟨by omega,fun j hj'=>?_⟩,by omega,StH.same svl rfl⟩
     rcases Nat.lt_or_eq_of_le (Nat.le_of_lt_succ hj') with h2 | h2
     . exact hj j h2
     . rw [h2];exact h1
   . have hsp:=x2o hn hj (.inr h1);clear h1;refine hg ?_
     repeat' ((first | refine hfk ?_ ?_<;>intros | refine hik ?_)<;>refine hgS ?_)
     all_goals (refine RLe.ofEq ?_;conv=>simp only [Bool.and_true,Bool.true_and,Bool.and_false,Bool.false_and,Bool.or_true,Bool.true_or,Bool.or_false,Bool.false_or,Bool.not_true,Bool.not_false,decide_true,decide_false,not_true_eq_false,not_false_eq_true,zh5,if_true,if_false,Bool.and_self,Bool.or_self,cond_true,cond_false,List.length_map,ne_eq,Int.reduceEq,Int.reduceLT,Int.reduceLE, *,w3n,xer,vpx,yd9,wmz,hsp]);first | exact trivial | rfl
 . have hsp:=x2o hn hj (.inl (by omega));refine hgS ?_
   repeat' ((first | refine hfk ?_ ?_<;>intros | refine hik ?_)<;>refine hgS ?_)
   all_goals (refine RLe.ofEq ?_;conv=>simp only [Bool.and_true,Bool.true_and,Bool.and_false,Bool.false_and,Bool.or_true,Bool.true_or,Bool.or_false,Bool.false_or,Bool.not_true,Bool.not_false,decide_true,decide_false,not_true_eq_false,not_false_eq_true,zh5,if_true,if_false,Bool.and_self,Bool.or_self,cond_true,cond_false,List.length_map,ne_eq,Int.reduceEq,Int.reduceLT,Int.reduceLE, *,w3n,xer,vpx,yd9,wmz,hsp]);first | exact trivial | rfl
theorem ymm (s:ByteArray) (hs:s.size<=1073741824) (h1:1<=s.size):CallsD Γ prog 109 [.one (cS s)] (.tup [.agg (unO (yxr s)),.one (cB (yxr s).isSome)]):=by
 refine CallsD.run [] Go.Proofs.Tryz.func109 rfl rfl rfl ?_;simp only [Go.Proofs.Tryz.f109];refine hgR ?_;refine y5k (vts s) ?_
 cases hy:symF s with
 | some u=>
  conv=>simp (maxSteps:=2000000) (disch:=omega) only [go_sem,Nat.reduceAdd,Nat.reduceSub,Nat.reduceMul,Int.reduceToNat,Nat.reduceEqDiff,Nat.reduceBEq,Nat.reduceBneDiff,Nat.reduceLT,Int.reduceEq,Int.reduceLT,Int.reduceLE,Int.reduceNeg,Int.reduceAdd,Int.reduceSub,Int.reduceMul,unO,Option.isSome]
  exact RLe.ofEq (by simp only [yxr,hy];rfl)
 | none=>
  conv=>simp (maxSteps:=2000000) (disch:=omega) only [go_sem,Nat.reduceAdd,Nat.reduceSub,Nat.reduceMul,Int.reduceToNat,Nat.reduceEqDiff,Nat.reduceBEq,Nat.reduceBneDiff,Nat.reduceLT,Int.reduceEq,Int.reduceLT,Int.reduceLE,Int.reduceNeg,Int.reduceAdd,Int.reduceSub,Int.reduceMul,unO,Option.isSome]
  refine y5k (vp2 _) ?_;refine hg ?_;refine y5k (vts _) ?_
  cases hp:preF (xw3 s 0) with
  | none=>
   cases hy2:symF (xto s 1)<;>
   . conv=>simp (maxSteps:=2000000) (disch:=omega) only [go_sem,Nat.reduceAdd,Nat.reduceSub,Nat.reduceMul,Int.reduceToNat,Nat.reduceEqDiff,Nat.reduceBEq,Nat.reduceBneDiff,Nat.reduceLT,Int.reduceEq,Int.reduceLT,Int.reduceLE,Int.reduceNeg,Int.reduceAdd,Int.reduceSub,Int.reduceMul,unO,Option.isSome]
     exact RLe.ofEq (by simp only [yxr,hy,hp];rfl)
  | some p=>
   cases hy2:symF (xto s 1) with
   | none=>
    conv=>simp (maxSteps:=2000000) (disch:=omega) only [go_sem,Nat.reduceAdd,Nat.reduceSub,Nat.reduceMul,Int.reduceToNat,Nat.reduceEqDiff,Nat.reduceBEq,Nat.reduceBneDiff,Nat.reduceLT,Int.reduceEq,Int.reduceLT,Int.reduceLE,Int.reduceNeg,Int.reduceAdd,Int.reduceSub,Int.reduceMul,unO,Option.isSome]
    exact RLe.ofEq (by simp only [yxr,hy,hp,hy2];rfl)
   | some u=>
    obtain ⟨_,hu1,_⟩:=zhd hy2;obtain ⟨hp1,hp2⟩:=yko hp;obtain ⟨hf1,_⟩:=x58 hp1 hp2
    conv=>simp (maxSteps:=2000000) (disch:=omega) only [go_sem,Nat.reduceAdd,Nat.reduceSub,Nat.reduceMul,Int.reduceToNat,Nat.reduceEqDiff,Nat.reduceBEq,Nat.reduceBneDiff,Nat.reduceLT,Int.reduceEq,Int.reduceLT,Int.reduceLE,Int.reduceNeg,Int.reduceAdd,Int.reduceSub,Int.reduceMul,unO,Option.isSome,preO]
    repeat' ((first | refine hfk ?_ ?_<;>intros | refine hik ?_ | with_reducible first | refine y5k (w6t _) ?_ | refine x4p (w6t _) ?_ | refine y5k (qOf p.1 p.2 (by unfold inI;omega) (by unfold inI;omega) (by omega)) ?_ | refine x4p (qOf p.1 p.2 (by unfold inI;omega) (by unfold inI;omega) (by omega)) ?_ | refine y5k (qMul _ _ (Nat.le_trans hu1 (by decide)) (Nat.le_trans hf1 (by decide))) ?_ | refine x4p (qMul _ _ (Nat.le_trans hu1 (by decide)) (Nat.le_trans hf1 (by decide))) ?_)<;>refine hgS ?_)
    all_goals rename_i hq
    all_goals exact RLe.ofEq (by simp only [yxr,hy,hp,hy2,hq];rfl)
theorem x8n (a f:Rat) (x:Int) (hx:x.natAbs<=1000) (ha:qs a<=100000) (hf:qs f<=1000) (hf0:f≠0):CallsD Γ prog 110 [.agg (fQ a),.agg (fQ f),.one (cI x)] (.agg (fQ (yiv a f x))):=by
 refine CallsD.run [] Go.Proofs.Tryz.func110 rfl rfl rfl ?_;simp only [Go.Proofs.Tryz.f110];refine hgR ?_;refine wwt [2,3,4,6,10] (fun i:Nat=>[(11,.one (.dat (cI i)))]) (fun i=>[.box ((fQ (pw a f x i)).map .dat) (some 135),.box ((fQ f).map .dat) (some 135),.box [.dat (cI 0),.dat .zc,.dat (cI 0),.dat .zc] (some 135)]) (fun i=>i<=x.natAbs) (fun i=>x.natAbs-i) 0 (Nat.zero_le _) ?_ ?_
 . refine hg ?_;exact StH.same svl (by rw [w0n])
 intro i hi;have hq:=vin a f x i;have hm:i*(qs f+1)<=1000*1001:=Nat.mul_le_mul (by omega) (by omega);refine hg ?_;refine zcl (fun hlt _=>?_) (fun hlt _=>?_)
 . refine hg ?_;refine zcl (fun hp hd=>?_) (fun hp hd=>?_)
   . refine hg ?_;refine y5k (qMul (pw a f x i) f (by omega) (by omega)) ?_;refine hg ?_;exact ⟨i+1,by omega,by omega,StH.same svl (by rw [x0t hp])⟩
   . refine hg ?_;refine y5k (qDiv (pw a f x i) f hf0 (by omega) (by omega)) ?_;refine hg ?_;exact ⟨i+1,by omega,by omega,StH.same svl (by rw [z9m hp])⟩
 . refine hg ?_
   have e:i=x.natAbs:=by omega
   subst e;exact RLe.ofEq rfl
theorem z6z (s:ByteArray) (hs:s.size<=1073741824):CallsD Γ prog 107 [.one (cS s)] (.tup [.one (.sl 2 ((itO (yqh s)).map It.C)),.one (cB (yqh s).isSome)]):=by
 have bad:∀ b,yqh s=none->b=false->RLe (.tup [.one (.raw (.slice none 0 0)),.one (cB b)]) (.tup [.one (.sl 2 ((itO (yqh s)).map It.C)),.one (cB (yqh s).isSome)]):=fun b h hb=>by
  rw [h,hb];exact .tup (.cons (.one (.nilSl 2)) (.cons (.refl _) .nil))
 refine CallsD.run [(9,[.join])] Go.Proofs.Tryz.func107 rfl rfl rfl ?_;simp only [Go.Proofs.Tryz.f107];refine hgR ?_
 repeat' ((first | refine hfk ?_ ?_<;>intros | refine hik ?_)<;>refine hgS ?_)
 . exact .tup (.cons (.one (by rename_i h;simp only [yqh,h];exact .nilSl 2)) (.cons (by rename_i h;simp only [yqh,h];exact .refl _) .nil))
 . refine bad _ (by simp only [yqh, *];rfl) rfl
 refine y5k (yv2 _ _ hs (by decide)) ?_;refine hgS ?_;refine xut [2,3,4] (fun r:ByteArray=>[(5,.one (.dat (cS r)))]) (fun _=>[]) (fun r=>r=yp5 s) ?_ ?_
 . refine hg ?_;refine x6e (fun h=>?_) (fun h=>?_)
   . refine hg ?_;refine ⟨_,rfl,?_⟩;simp only [yp5,h];exact StH.same svl rfl
   . refine hg ?_;refine ⟨_,rfl,?_⟩;simp only [yp5,h];exact StH.same svl rfl
 intro r0 hr0
 have h0:yqh s=v0r (s.size+2) r0 []:=by simp only [yqh, *];rfl
 have hsz:r0.size<=s.size+1:=by
  rw [hr0];unfold yp5;have h42:(⟨#[42]⟩:ByteArray).size=1:=rfl
  cases wiz s ⟨#[49]⟩
  . simp only [cond_false,ByteArray.size_append];omega
  . simp only [cond_true,wuh];omega
 clear hr0;refine hg ?_;refine wwt [2,3] (fun p:Nat×ByteArray×List It=>[(4,.one (.sl 0 2 0 p.2.2.length)),(5,.one (.dat (cS p.2.1)))]) (fun p=>[.arr (.sl 2 (p.2.2.map It.C)) 0 (some 165)])
  (fun p=>p.2.1.size<p.1/\p.2.1.size<=1073741824/\p.2.2.length+p.2.1.size<=100/\v0r p.1 p.2.1 p.2.2=yqh s) (fun p=>p.2.1.size) (s.size+2,r0,[]) ⟨by simp only;omega,by simp only;omega,by simp only [List.length_nil];omega,h0.symm⟩ ?_ ?_
 . refine hg ?_;refine StH.trans (StH.empty (d:=4) (es:=2) (c:=.sl 2 []) (T:=some 165) rfl rfl (fun r hr=>by cases hr) rfl) ?_;refine hg ?_;exact StH.same svl rfl
 rintro ⟨k,r,acc⟩ ⟨h1,h2,h3,h4⟩;simp only at h1 h2 h3 h4;clear h0 hsz;obtain ⟨k,rfl⟩:∃ m,k=m+1:=⟨k-1,by omega⟩;rw [v0r] at h4;refine hg ?_;refine zcl (fun hne _=>?_) (fun he _=>?_)
 . have hne':=decide_eq_false hne;rw [hne',cond_false] at h4;have hd':=wuh r 1;refine hg ?_;have hcs:=we5 (xto r 1);have hce:=z1a (xto r 1);rw [hd'] at hcs;refine y5k (cCut (xto r 1) (by rw [hd'];omega)) ?_;refine hg ?_
   have g1:(xer (xto r 1)).size<k:=by omega
   have g2:(xer (xto r 1)).size<=1073741824:=by omega
   have g3:∀ x:It,(acc++[x]).length+(xer (xto r 1)).size<=100:=fun x=>by rw [List.length_append,List.length_singleton];omega
   have g4:(xer (xto r 1)).size<r.size:=by omega
   have hmap:∀ x:It,acc.map It.C++[itC x]=(acc++[x]).map It.C:=fun x=>by simp;rfl
   repeat' ((first | refine hfk ?_ ?_<;>intros | refine hik ?_)<;>refine hgS ?_)
   . exact bad _ (by rw [<-h4];simp only [*];rfl) rfl
   . rename_i h47 _
     have h4':v0r k (xer (xto r 1)) (acc++[⟨(w3n (xto r 1)).w,0-(w3n (xto r 1)).e⟩])=yqh s:=by
      rw [<-h4];simp only [*,wwa];rfl
     refine ⟨(k,xer (xto r 1),acc++[⟨(w3n (xto r 1)).w,0-(w3n (xto r 1)).e⟩]),?_,?_,?_⟩
     . dsimp only;exact ⟨g1,g2,g3 _,h4'⟩
     . dsimp only;exact g4
     rw [hmap ⟨(w3n (xto r 1)).w,0-(w3n (xto r 1)).e⟩];refine StH.back [2,3,4,5] 0 2 1 rfl rfl rfl rfl rfl (by kernel_rfl) ?_;refine hg ?_;exact StH.same svl rfl
   . exfalso;omega
   . exfalso;omega
   . have h4':v0r k (xer (xto r 1)) (acc++[w3n (xto r 1)])=yqh s:=by
      rw [<-h4];simp only [*,wwa];rfl
     refine ⟨(k,xer (xto r 1),acc++[w3n (xto r 1)]),?_,?_,?_⟩
     . dsimp only;exact ⟨g1,g2,g3 _,h4'⟩
     . dsimp only;exact g4
     try rw [hmap (w3n (xto r 1))]
     refine StH.back [2,3,4,5] 0 2 1 rfl rfl rfl rfl rfl (by kernel_rfl) ?_;refine hg ?_;exact StH.same svl rfl
   . exact bad _ (by rw [<-h4];simp only [*];rfl) rfl
 . refine hg ?_;have he':decide (r.size=0)=true:=decide_eq_true (by omega);rw [he',cond_true] at h4;rw [<-h4];exact RLe.ofEq rfl
theorem z07 (s:ByteArray) (hs:s.size<=1073741824):CallsD Γ prog 78 [.one (cS s)] (.tup [.agg (unO (vb5 s).1),.one (cI (vb5 s).2)]):=by
 refine CallsD.run [] Go.Proofs.Tryz.func78 rfl rfl rfl ?_;simp only [Go.Proofs.Tryz.f78];refine hgR ?_;refine y5k (z6z s hs) ?_
 cases hi:yqh s with
 | none=>
  conv=>simp (maxSteps:=2000000) (disch:=omega) only [go_sem,Nat.reduceAdd,Nat.reduceSub,Nat.reduceMul,Int.reduceToNat,Nat.reduceEqDiff,Nat.reduceBEq,Nat.reduceBneDiff,Nat.reduceLT,Int.reduceEq,Int.reduceLT,Int.reduceLE,Int.reduceNeg,Int.reduceAdd,Int.reduceSub,Int.reduceMul,Option.isSome,itO]
  exact RLe.ofEq (by simp only [vb5,hi];rfl)
 | some l=>
  obtain ⟨hl,hx⟩:=yok hi
  conv=>simp (maxSteps:=2000000) (disch:=omega) only [go_sem,Nat.reduceAdd,Nat.reduceSub,Nat.reduceMul,Int.reduceToNat,Nat.reduceEqDiff,Nat.reduceBEq,Nat.reduceBneDiff,Nat.reduceLT,Int.reduceEq,Int.reduceLT,Int.reduceLE,Int.reduceNeg,Int.reduceAdd,Int.reduceSub,Int.reduceMul,Option.isSome,itO]
  refine y5k (qInt 1 (by decide)) ?_;refine hg ?_;refine wwt [2,6,23,24] (fun p:Nat×Un=>[(25,.one (.dat (cI p.1)))]) (fun p=>[.box (unZ.map .dat) (some 137),.box ((unC p.2).map .dat) (some 137)])
   (fun p=>p.1<=l.length/\p.2.d.le (27*p.1)/\qs p.2.f<=1+100*p.1/\xpj (l.drop p.1) p.2=xpj l ⟨Dm.zero,(1:Int)⟩) (fun p=>l.length-p.1) (0,⟨Dm.zero,(1:Int)⟩) ⟨Nat.zero_le _,by unfold Dm.le;decide,zcy,rfl⟩ ?_ ?_
  . refine hg ?_;exact StH.same svl rfl
  rintro ⟨i,u⟩ ⟨h1,h2,h3,h4⟩;simp only at h1 h2 h3 h4;refine hg ?_;refine zcl (fun hlt _=>?_) (fun hlt _=>?_)
  . have hlt':i<l.length:=by omega
    have hok:=hx _ (wax hlt');rw [xp9 hlt',xpj] at h4;refine hg ?_;refine y5k (ymm _ (by have:=hok.2.1;omega) hok.1) ?_
    cases hw:yxr (l.getD i default).w with
    | none=>
     conv=>simp (maxSteps:=2000000) (disch:=omega) only [go_sem,Nat.reduceAdd,Nat.reduceSub,Nat.reduceMul,Int.reduceToNat,Nat.reduceEqDiff,Nat.reduceBEq,Nat.reduceBneDiff,Nat.reduceLT,Int.reduceEq,Int.reduceLT,Int.reduceLE,Int.reduceNeg,Int.reduceAdd,Int.reduceSub,Int.reduceMul,Option.isSome,unO]
     rw [hw] at h4;exact RLe.ofEq (by simp only [vb5,hi,<-h4])
    | some v=>
     obtain ⟨hv1,hv2,hv3⟩:=ziq hw;rw [hw] at h4;obtain ⟨b1,b2,b3,b4,b5,b6⟩:=h2;obtain ⟨d1,d2,d3,d4,d5,d6⟩:=hv1;have he:=hok.2.2;have c1:=x2z d1 he;have c2:=x2z d2 he;have c3:=x2z d3 he;have c4:=x2z d4 he;have c5:=x2z d5 he;have c6:=x2z d6 he
     have hq:qs (yiv u.f v.f (l.getD i default).e)<=qs u.f+9*(qs v.f+1):=by
      have:=vin u.f v.f (l.getD i default).e (l.getD i default).e.natAbs
      rw [<-zfq] at this;have h9:(l.getD i default).e.natAbs*(qs v.f+1)<=9*(qs v.f+1):=Nat.mul_le_mul_right _ (by omega);omega
     have hle:(u.d.acc v.d (l.getD i default).e).le (27*(i+1:Nat)):=by
      have:=Dm.zkl (x:=u.d) ⟨b1,b2,b3,b4,b5,b6⟩ ⟨d1,d2,d3,d4,d5,d6⟩ he
      rw [show (27*((i+1:Nat):Int))=27*i+27 from by omega];exact this
     conv=>simp (maxSteps:=2000000) (disch:=omega) only [go_sem,Nat.reduceAdd,Nat.reduceSub,Nat.reduceMul,Int.reduceToNat,Nat.reduceEqDiff,Nat.reduceBEq,Nat.reduceBneDiff,Nat.reduceLT,Int.reduceEq,Int.reduceLT,Int.reduceLE,Int.reduceNeg,Int.reduceAdd,Int.reduceSub,Int.reduceMul,Option.isSome,unO]
     repeat' ((first | refine hfk ?_ ?_<;>intros | refine hik ?_ | with_reducible refine zl7 ?_ | with_reducible refine zp2 ?_ | with_reducible first | refine y5k (x8n u.f v.f (l.getD i default).e (by omega) (by omega) (by omega) hv3) ?_ | refine x4p (x8n u.f v.f (l.getD i default).e (by omega) (by omega) (by omega) hv3) ?_)<;>refine hgS ?_)
     refine ⟨(i+1,⟨u.d.acc v.d (l.getD i default).e,yiv u.f v.f (l.getD i default).e⟩),?_,?_,?_⟩
     . dsimp only;exact ⟨by omega,hle,by omega,h4⟩
     . dsimp only;omega
     refine StH.back [2,6,23,24,25] 2 2 2 rfl rfl rfl rfl rfl (by kernel_rfl) ?_;refine hg ?_;exact StH.same svl rfl
  . have h4':xpj l ⟨Dm.zero,(1:Int)⟩=some u:=by rw [<-h4,List.drop_eq_nil_of_le (by omega)];rfl
    refine hg ?_
    repeat' ((first | refine hfk ?_ ?_<;>intros | refine hik ?_ | with_reducible first | refine y5k (xip _) ?_ | refine x4p (xip _) ?_)<;>refine hgS ?_)
    all_goals
     rename_i hd;exact RLe.ofEq (by simp only [vb5,hi,h4',hd];rfl)
end Go.Hp.T
