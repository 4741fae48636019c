/- Walk: kitbaglaw28.ParcelBlame. -/
import Derived.Test.YtbdoipfmafbhoaaGreatDoorZ33
import Derived.Test.YtbdoipfmafbhoaaGreatDoorZ34
/- Walk: kitbaglaw28.ParcelBlame. -/
namespace Go.Hp.T
open Go Go.RowKit Go.Slot Go.Hp Go.Slot.T
open Go.Proofs.Tryz (prog)
attribute [local irreducible] hide RH
set_option maxRecDepth 10000
set_option maxHeartbeats 8000000
variable {Γ : List (Nat × List Cell)}
theorem LookSpec.bd {s : Sht} {r e a : Int} {bl : List Int} (h : LookSpec s r (e, a, bl)) : ((e = 0 ∨ e = 1) ∧ a = 0 ∧ bl = []) ∨ (¬ e = 0 ∧ ¬ e = 1 ∧ 0 ≤ r ∧ r < s.recipes.length ∧ bl.length ≤ 2 ∧ ∀ x ∈ bl, 0 ≤ x ∧ x < ((s.recipes.getD r.toNat default).steps.length : Nat)) := by
  cases h with
  | fine e he => exact .inl ⟨he, rfl, rfl⟩
  | gap hr hr' => exact .inr ⟨by decide, by decide, hr, hr', by decide, fun x hx => by cases hx⟩
  | lost hr hr' g hg p hp h => exact .inr ⟨by decide, by decide, hr, hr', by simp, fun x hx => by simp only [List.mem_singleton] at hx; omega⟩
  | bad hr hr' i hi e he => exact .inr ⟨by omega, by omega, hr, hr', by simp, fun x hx => by simp only [List.mem_singleton] at hx; omega⟩
  | doub hr hr' i hi h => exact .inr ⟨by decide, by decide, hr, hr', by simp, fun x hx => by simp only [List.mem_singleton] at hx; omega⟩
  | sh hr hr' i k hi hk h => exact .inr ⟨by decide, by decide, hr, hr', by simp, fun x hx => by simp only [List.mem_cons, List.not_mem_nil, or_false] at hx; omega⟩
theorem made_zero {l : List Stp} {p : ByteArray} (h : ∀ j, j < l.length → cntS (l.getD j default).inn p = 0) : ∀ i, i ≤ l.length → (vg7 l 0 p i).2 = 0
  | 0, _ => rfl
  | i + 1, hi => by
    have ih := made_zero h i (by omega)
    rw [vg7, decide_eq_false (by omega), cond_false]
    dsimp only
    rw [ih, h i (by omega)]
theorem wParcelBlame (hG : x9r Γ 0 = .elt sgC) (s : Sht) (r : Int) (hs : s.Sm) : CallsD Γ prog 6 [.agg (shtC s), .one (cI r)] (.one (cB true)) := by
  have c0 := vmj (Γ := Γ) hG
  have c1 := zhv (Γ := Γ) s hs
  have c2 := wib (Γ := Γ) s r hs
  have c3 := wj4 (Γ := Γ) s r hs
  have sp := yne s r
  have hrl := hs.rl
  generalize yr2 s r = k at *
  obtain ⟨e, a, bl⟩ := k
  dsimp only at c2 c3
  generalize fewS s = b at *
  cases b with
  | false =>
    refine CallsD.run [] Go.Proofs.Tryz.func6 rfl rfl rfl ?_; simp only [Go.Proofs.Tryz.f6]; refine hgR ?_
    repeat' ((first | refine hfk ?_ ?_ <;> intros | refine hik ?_ | with_reducible first | refine wud (c0) ?_ | refine vqe (c0) ?_ | refine wud (c1) ?_ | refine vqe (c1) ?_) <;> refine hgS ?_)
    all_goals exact RLe.ofEq rfl
  | true =>
    rcases sp.bd with ⟨he, rfl, rfl⟩ | ⟨he0, he1, hr, hr', hl2, hbl⟩
    · clear sp
      rcases he with rfl | rfl
      · refine CallsD.run [] Go.Proofs.Tryz.func6 rfl rfl rfl ?_; simp only [Go.Proofs.Tryz.f6]; refine hgR ?_
        repeat' ((first | refine hfk ?_ ?_ <;> intros | refine hik ?_ | with_reducible first | refine wud (c0) ?_ | refine vqe (c0) ?_ | refine wud (c1) ?_ | refine vqe (c1) ?_ | refine wud (c2) ?_ | refine vqe (c2) ?_ | refine wud (c3) ?_ | refine vqe (c3) ?_) <;> refine hgS ?_)
        all_goals first | (exfalso; omega) | exact RLe.ofEq rfl
      · refine CallsD.run [] Go.Proofs.Tryz.func6 rfl rfl rfl ?_; simp only [Go.Proofs.Tryz.f6]; refine hgR ?_
        repeat' ((first | refine hfk ?_ ?_ <;> intros | refine hik ?_ | with_reducible first | refine wud (c0) ?_ | refine vqe (c0) ?_ | refine wud (c1) ?_ | refine vqe (c1) ?_ | refine wud (c2) ?_ | refine vqe (c2) ?_ | refine wud (c3) ?_ | refine vqe (c3) ?_) <;> refine hgS ?_)
        all_goals first | (exfalso; omega) | exact RLe.ofEq rfl
    · have hx := hs.r _ (wip (show r.toNat < s.recipes.length by omega))
      have hst := hx.2.1
      have hsm := hx.2.2
      clear hx hs
      refine CallsD.run [] Go.Proofs.Tryz.func6 rfl rfl rfl ?_; simp only [Go.Proofs.Tryz.f6]; refine hgR ?_
      repeat' ((first | refine hfk ?_ ?_ <;> intros | refine hik ?_ | with_reducible first | refine wud (c0) ?_ | refine vqe (c0) ?_ | refine wud (c1) ?_ | refine vqe (c1) ?_ | refine wud (c2) ?_ | refine vqe (c2) ?_ | refine wud (c3) ?_ | refine vqe (c3) ?_) <;> refine hgS ?_)
      all_goals try (exfalso; omega)
      generalize hL : (s.recipes.getD r.toNat default).steps = l at *
      refine xou [5, 6, 7, 8, 9] (fun q : Nat => [(10, .one (.dat (cI q)))]) (fun _ => [.box ((shtC s).map .dat) (some 31)]) (fun q => q ≤ bl.length) (fun q => bl.length - q) 0 (Nat.zero_le _) ?_ ?_
      · refine hg ?_
        exact StH.same svl rfl
      intro q hq
      refine hg ?_
      refine w4y (fun hlt _ => ?_) (fun hlt hqf => ?_)
      · have hlt' : q < bl.length := by omega
        have hb : 0 ≤ bl.getD q 0 ∧ bl.getD q 0 < (l.length : Nat) := hbl _ (wip hlt')
        clear sp hbl hsm hL
        refine hg ?_
        repeat' ((first | refine hfk ?_ ?_ <;> intros | refine hik ?_) <;> refine hgS ?_)
        all_goals first | (exfalso; omega) | exact ⟨q + 1, by omega, by omega, StH.same svl rfl⟩
      clear hbl c0 c1 c2 c3 hlt hqf
      cases sp with
      | fine e he => exact absurd he (by omega)
      | gap h8 h9 =>
        rw [hL]
        clear hL hsm
        refine hg ?_
        repeat' ((first | refine hfk ?_ ?_ <;> intros | refine hik ?_) <;> refine hgS ?_)
        all_goals try (exfalso; omega)
        refine xou [5, 8] (fun i : Nat => [(11, .one (.dat (cI i)))]) (fun _ => [.box ((shtC s).map .dat) (some 31)]) (fun i => i = 0) (fun i => 1) 0 rfl ?_ ?_
        · refine hg ?_
          exact StH.same svl rfl
        rintro i rfl
        refine hg ?_
        refine w4y (fun hlt _ => ?_) (fun hlt _ => ?_)
        · exact absurd hlt (by decide)
        refine hg ?_
        repeat' ((first | refine hfk ?_ ?_ <;> intros | refine hik ?_) <;> refine hgS ?_)
        exact RLe.ofEq rfl
      | lost h8 h9 g hgl p hp h =>
        rw [hL] at hgl hp h ⊢
        refine hg ?_
        repeat' ((first | refine hfk ?_ ?_ <;> intros | refine hik ?_) <;> refine hgS ?_)
        all_goals try (exfalso; omega)
        have hy := hsm _ (wip hgl)
        have hol := hy.ol
        clear hL
        refine xou [5, 8, 9] (fun i : Nat => [(11, .one (.dat (cI i)))]) (fun _ => [.box ((shtC s).map .dat) (some 31)]) (fun i => i ≤ 1) (fun i => 1 - i) 0 (by decide) ?_ ?_
        · refine hg ?_
          exact StH.same svl rfl
        intro i hi
        refine hg ?_
        refine w4y (fun hlt _ => ?_) (fun hlt _ => ?_)
        · have hi0 : i = 0 := by have : (i : Int) < 1 := hlt; omega
          subst hi0
          refine hg ?_
          refine xou [5, 8, 9, 11] (fun z : Nat × Bool => [(12, .one (.dat (cB z.2))), (13, .one (.dat (cI z.1)))]) (fun _ => [.box ((shtC s).map .dat) (some 31)]) (fun z => z.1 ≤ (l.getD g default).out.length ∧ ∀ j, j < z.1 → (l.getD g default).out.getD j default = p → z.2 = true) (fun z => (l.getD g default).out.length - z.1) (0, false) ⟨Nat.zero_le _, fun j hj => by simp at hj⟩ ?_ ?_
          · refine hg ?_
            exact StH.same svl rfl
          rintro ⟨k, z⟩ ⟨h1, h2⟩
          dsimp only at h1 h2
          refine hg ?_
          refine w4y (fun hlt _ => ?_) (fun hlt _ => ?_)
          · have hlt' : k < (l.getD g default).out.length := by omega
            have cm := y2f (Γ := Γ) l 0 ((l.getD g default).out.getD k default) hst hsm
            have hm : (l.getD g default).out.getD k default = p → (vg7 l 0 ((l.getD g default).out.getD k default) l.length).2 = 0 := fun e => by rw [e]; exact made_zero h _ (Nat.le_refl _)
            generalize vg7 l 0 ((l.getD g default).out.getD k default) l.length = m at *
            obtain ⟨A, B⟩ := m
            dsimp only at cm hm
            cases z with
            | true =>
              refine hg ?_
              repeat' ((first | refine hfk ?_ ?_ <;> intros | refine hik ?_ | with_reducible first | refine wud (cm) ?_ | refine vqe (cm) ?_) <;> refine hgS ?_)
              exact ⟨(k + 1, true), ⟨by dsimp only; omega, fun _ _ _ => rfl⟩, by dsimp only; omega, StH.same svl rfl⟩
            | false =>
              by_cases hB : B = 0
              · subst hB
                refine hg ?_
                repeat' ((first | refine hfk ?_ ?_ <;> intros | refine hik ?_ | with_reducible first | refine wud (cm) ?_ | refine vqe (cm) ?_) <;> refine hgS ?_)
                all_goals exact ⟨(k + 1, true), ⟨by dsimp only; omega, fun _ _ _ => rfl⟩, by dsimp only; omega, StH.same svl rfl⟩
              · have hd : decide ((B : Int) = 0) = false := decide_eq_false (by omega)
                refine hg ?_
                repeat' ((first | refine hfk ?_ ?_ <;> intros | refine hik ?_ | with_reducible first | refine wud (cm) ?_ | refine vqe (cm) ?_) <;> refine hgS ?_)
                all_goals try (exfalso; omega)
                refine ⟨(k + 1, false), ⟨by dsimp only; omega, fun j hj he => ?_⟩, by dsimp only; omega, StH.same svl rfl⟩
                dsimp only at hj
                rcases Nat.lt_succ_iff_lt_or_eq.1 hj with hj | rfl
                · exact h2 j hj he
                · exact absurd (hm he) hB
          · obtain ⟨j, hj, he⟩ : ∃ j, j < (l.getD g default).out.length ∧ (l.getD g default).out.getD j default = p := by
              obtain ⟨j, hj, he⟩ := List.getElem_of_mem hp
              exact ⟨j, hj, by rw [List.getD_eq_getElem?_getD, List.getElem?_eq_getElem hj]; exact he⟩
            obtain rfl := h2 j (by omega) he
            refine hg ?_
            repeat' ((first | refine hfk ?_ ?_ <;> intros | refine hik ?_) <;> refine hgS ?_)
            exact ⟨1, by decide, by decide, StH.same svl rfl⟩
        · refine hg ?_
          repeat' ((first | refine hfk ?_ ?_ <;> intros | refine hik ?_) <;> refine hgS ?_)
          exact RLe.ofEq rfl
      | bad h8 h9 i hi e he =>
        rw [hL] at hi
        clear hL hsm
        refine hg ?_
        repeat' ((first | refine hfk ?_ ?_ <;> intros | refine hik ?_) <;> refine hgS ?_)
        all_goals first | (exfalso; omega) | exact RLe.ofEq rfl
      | doub h8 h9 i hi h =>
        rw [hL] at hi h
        have hy := hsm _ (wip hi)
        have cd := z1e (Γ := Γ) (l.getD i default) hy.il hy.ol
        rw [h] at cd
        clear hL hsm hy h
        refine hg ?_
        repeat' ((first | refine hfk ?_ ?_ <;> intros | refine hik ?_ | with_reducible first | refine wud (cd) ?_ | refine vqe (cd) ?_) <;> refine hgS ?_)
        all_goals first | (exfalso; omega) | exact RLe.ofEq rfl
      | sh h8 h9 i k hi hk h =>
        rw [hL] at hi h
        have hy := hsm _ (wip hi)
        have hz := hsm _ (wip (show k < l.length by omega))
        have cs := yfu (Γ := Γ) (l.getD k default) (l.getD i default) hz hy
        rw [h] at cs
        clear hL hsm hy hz h
        refine hg ?_
        repeat' ((first | refine hfk ?_ ?_ <;> intros | refine hik ?_ | with_reducible first | refine wud (cs) ?_ | refine vqe (cs) ?_) <;> refine hgS ?_)
        all_goals first | (exfalso; omega) | exact RLe.ofEq rfl
end Go.Hp.T
