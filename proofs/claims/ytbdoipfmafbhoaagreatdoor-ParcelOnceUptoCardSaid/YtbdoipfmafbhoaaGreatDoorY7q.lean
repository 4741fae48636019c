/- Walk: kitbaglaw28.ParcelOnce. -/
import Derived.Test.YtbdoipfmafbhoaaGreatDoorY7p
/- Walk: kitbaglaw28.ParcelOnce. -/
namespace Go.Hp.T
open Go Go.RowKit Go.Slot Go.Hp Go.Slot.T
open Go.Proofs.Tryz (prog)
attribute [local irreducible] hide RH
set_option maxRecDepth 10000
set_option maxHeartbeats 8000000
variable {Γ : List (Nat × List Cell)}
theorem wParcelOnce (hG : x7m Γ 0 = .elt sgC) (s : Sht) (r : Int) (hs : s.Sm) : CallsD Γ prog 4 [.agg (shtC s), .one (cI r)] (.one (cB true)) := by
  have c0 := vru (Γ := Γ) hG
  have c1 := wch (Γ := Γ) s hs
  have cr := xqo (Γ := Γ) s hs
  have c2 := zbj (Γ := Γ) s r hs
  have hrl := hs.rl
  by_cases hin : y4x s = true ∧ 0 ≤ r ∧ r < s.recipes.length
  · obtain ⟨hR, h0, h1⟩ := hin
    obtain ⟨hA, hB⟩ := once_law hR h0 h1
    have hx := hs.r _ (wax (show r.toNat < s.recipes.length by omega))
    have cl := x8e (Γ := Γ) (s.recipes.getD r.toNat default).steps hx.2.1 hx.2.2
    have cw := y0f (Γ := Γ) s (s.recipes.getD r.toNat default) hs hx.2.1 hx.2.2
    rw [hR] at cr
    generalize z4k s r = k at *
    obtain ⟨e, a, bl⟩ := k
    dsimp only at c2 hA hB
    generalize linM (s.recipes.getD r.toNat default).steps = b1 at *
    generalize y1v s (s.recipes.getD r.toNat default) = b2 at *
    generalize fewS s = b at *
    clear hx hs hR
    cases b with
    | false =>
      refine CallsD.run [] Go.Proofs.Tryz.func4 rfl rfl rfl ?_; simp only [Go.Proofs.Tryz.f4]; refine hgR ?_
      repeat' ((first | refine hfk ?_ ?_ <;> intros | refine hik ?_ | with_reducible first | refine y5k (c0) ?_ | refine x4p (c0) ?_ | refine y5k (c1) ?_ | refine x4p (c1) ?_) <;> refine hgS ?_)
      all_goals exact RLe.ofEq rfl
    | true =>
      by_cases he : e = 0
      · subst he
        obtain rfl := hA rfl
        cases b1 with
        | false => cases hB
        | true =>
          cases b2 with
          | false => cases hB
          | true =>
            clear hA hB
            refine CallsD.run [] Go.Proofs.Tryz.func4 rfl rfl rfl ?_; simp only [Go.Proofs.Tryz.f4]; refine hgR ?_
            repeat' ((first | refine hfk ?_ ?_ <;> intros | refine hik ?_ | with_reducible first | refine y5k (c0) ?_ | refine x4p (c0) ?_ | refine y5k (c1) ?_ | refine x4p (c1) ?_ | refine y5k (cr) ?_ | refine x4p (cr) ?_ | refine y5k (c2) ?_ | refine x4p (c2) ?_ | refine y5k (cl) ?_ | refine x4p (cl) ?_ | refine y5k (cw) ?_ | refine x4p (cw) ?_) <;> refine hgS ?_)
            all_goals first | (exfalso; omega) | exact RLe.ofEq rfl
      · have hd : decide (e = 0) = false := decide_eq_false he
        rw [hd] at hB
        clear hA
        cases b1 with
        | false =>
          clear hB
          refine CallsD.run [] Go.Proofs.Tryz.func4 rfl rfl rfl ?_; simp only [Go.Proofs.Tryz.f4]; refine hgR ?_
          repeat' ((first | refine hfk ?_ ?_ <;> intros | refine hik ?_ | with_reducible first | refine y5k (c0) ?_ | refine x4p (c0) ?_ | refine y5k (c1) ?_ | refine x4p (c1) ?_ | refine y5k (cr) ?_ | refine x4p (cr) ?_ | refine y5k (c2) ?_ | refine x4p (c2) ?_ | refine y5k (cl) ?_ | refine x4p (cl) ?_ | refine y5k (cw) ?_ | refine x4p (cw) ?_) <;> refine hgS ?_)
          all_goals first | (exfalso; omega) | exact RLe.ofEq rfl
        | true =>
          cases b2 with
          | true => cases hB
          | false =>
            clear hB
            refine CallsD.run [] Go.Proofs.Tryz.func4 rfl rfl rfl ?_; simp only [Go.Proofs.Tryz.f4]; refine hgR ?_
            repeat' ((first | refine hfk ?_ ?_ <;> intros | refine hik ?_ | with_reducible first | refine y5k (c0) ?_ | refine x4p (c0) ?_ | refine y5k (c1) ?_ | refine x4p (c1) ?_ | refine y5k (cr) ?_ | refine x4p (cr) ?_ | refine y5k (c2) ?_ | refine x4p (c2) ?_ | refine y5k (cl) ?_ | refine x4p (cl) ?_ | refine y5k (cw) ?_ | refine x4p (cw) ?_) <;> refine hgS ?_)
            all_goals first | (exfalso; omega) | exact RLe.ofEq rfl
  · have hn : ∀ b, y4x s = b → b = true → ¬ (0 ≤ r ∧ r < s.recipes.length) := fun b e e' h => hin ⟨e.trans e', h⟩
    generalize y4x s = q at *
    have hn := hn q rfl
    generalize fewS s = b at *
    clear hin hs
    cases q with
    | true =>
      have hn := hn rfl
      cases b with
      | true =>
        refine CallsD.run [] Go.Proofs.Tryz.func4 rfl rfl rfl ?_; simp only [Go.Proofs.Tryz.f4]; refine hgR ?_
        repeat' ((first | refine hfk ?_ ?_ <;> intros | refine hik ?_ | with_reducible first | refine y5k (c0) ?_ | refine x4p (c0) ?_ | refine y5k (c1) ?_ | refine x4p (c1) ?_ | refine y5k (cr) ?_ | refine x4p (cr) ?_) <;> refine hgS ?_)
        all_goals first | (exfalso; omega) | exact RLe.ofEq rfl
      | false =>
        refine CallsD.run [] Go.Proofs.Tryz.func4 rfl rfl rfl ?_; simp only [Go.Proofs.Tryz.f4]; refine hgR ?_
        repeat' ((first | refine hfk ?_ ?_ <;> intros | refine hik ?_ | with_reducible first | refine y5k (c0) ?_ | refine x4p (c0) ?_ | refine y5k (c1) ?_ | refine x4p (c1) ?_ | refine y5k (cr) ?_ | refine x4p (cr) ?_) <;> refine hgS ?_)
        all_goals first | (exfalso; omega) | exact RLe.ofEq rfl
    | false =>
      clear hn
      cases b with
      | true =>
        refine CallsD.run [] Go.Proofs.Tryz.func4 rfl rfl rfl ?_; simp only [Go.Proofs.Tryz.f4]; refine hgR ?_
        repeat' ((first | refine hfk ?_ ?_ <;> intros | refine hik ?_ | with_reducible first | refine y5k (c0) ?_ | refine x4p (c0) ?_ | refine y5k (c1) ?_ | refine x4p (c1) ?_ | refine y5k (cr) ?_ | refine x4p (cr) ?_) <;> refine hgS ?_)
        all_goals first | (exfalso; omega) | exact RLe.ofEq rfl
      | false =>
        refine CallsD.run [] Go.Proofs.Tryz.func4 rfl rfl rfl ?_; simp only [Go.Proofs.Tryz.f4]; refine hgR ?_
        repeat' ((first | refine hfk ?_ ?_ <;> intros | refine hik ?_ | with_reducible first | refine y5k (c0) ?_ | refine x4p (c0) ?_ | refine y5k (c1) ?_ | refine x4p (c1) ?_ | refine y5k (cr) ?_ | refine x4p (cr) ?_) <;> refine hgS ?_)
        all_goals first | (exfalso; omega) | exact RLe.ofEq rfl
end Go.Hp.T
