/- Walk: kitbaglaw28.ParcelLess. -/
import Derived.Test.YtbdoipfmafbhoaaGreatDoorZ7j
/- Walk: kitbaglaw28.ParcelLess. -/
namespace Go.Hp.T
open Go Go.RowKit Go.Slot Go.Hp Go.Slot.T
open Go.Proofs.Tryz (prog)
attribute [local irreducible] hide RH
set_option maxRecDepth 10000
set_option maxHeartbeats 8000000
variable {Γ : List (Nat × List Cell)}
theorem with_sm {s : Sht} {r : Nat} {l : List Stp} (h : s.Sm) (hr : r < s.recipes.length) (hl : l.length ≤ 1073741824) (hm : ∀ y ∈ l, y.Sm) : (withS s r l).Sm := by
  obtain ⟨h1, h2, h3, h4, h5, h6, h7, h8, h9, i, n, t, f, c, p, o, rr⟩ := h
  refine ⟨h1, h2, h3, h4, h5, h6, h7, h8, ?_, i, n, t, f, c, p, o, fun x hx => ?_⟩
  · show (s.recipes.set r _).length ≤ _
    rw [List.length_set]; exact h9
  · rcases List.mem_or_eq_of_mem_set hx with hx | rfl
    · exact rr x hx
    · exact ⟨(rr _ (wip hr)).1, hl, hm⟩
theorem acc_len {s : Sht} {r : Int} (ha : Acc s r (s.recipes.getD r.toNat default)) : (s.recipes.getD r.toNat default).steps.length ≤ 100 := by
  have hR' := ha.hR
  have h0 := ha.h0
  have h1 := ha.h1
  unfold x7y at hR'
  simp only [Bool.and_eq_true] at hR'
  have := ((wvo hR'.2).2 _ (wip (show r.toNat < s.recipes.length by omega))).2.1
  unfold rcpU at this
  simp only [Bool.and_eq_true, decide_eq_true_eq] at this
  omega
theorem wParcelLess (hG : x9r Γ 0 = .elt sgC) (s : Sht) (r w : Int) (hs : s.Sm) (hw0 : 0 ≤ w) (hw1 : w ≤ 255) : CallsD Γ prog 5 [.agg (shtC s), .one (cI r), .one (.raw (.int .u8 w))] (.one (cB true)) := by
  have c0 := vmj (Γ := Γ) hG
  have c1 := zhv (Γ := Γ) s hs
  have c2 := wib (Γ := Γ) s r hs
  have hrl := hs.rl
  generalize fewS s = b at *
  cases b with
  | false =>
    refine CallsD.run [] Go.Proofs.Tryz.func5 rfl rfl rfl ?_; simp only [Go.Proofs.Tryz.f5]; refine hgR ?_
    repeat' ((first | refine hfk ?_ ?_ <;> intros | refine hik ?_ | with_reducible first | refine wud (c0) ?_ | refine vqe (c0) ?_ | refine wud (c1) ?_ | refine vqe (c1) ?_) <;> refine hgS ?_)
    all_goals exact RLe.ofEq rfl
  | true =>
    by_cases h0 : (yr2 s r).1 = 0
    · have ha := lookM_acc h0
      have hr0 := ha.h0
      have hr1 := ha.h1
      have hrn : r.toNat < s.recipes.length := by omega
      have hx := hs.r _ (wip hrn)
      have hst := acc_len ha
      have hsm := hx.2.2
      have o1 := fun k => less_out (k := k) h0
      have o2 := fun k => less_dup (k := k) h0
      have cw := fun l => cWith (Γ := Γ) s r l hr0 hr1 hrl
      have cp := fun l hl hm => wib (Γ := Γ) (withS s r.toNat l) r (with_sm hs hrn hl hm)
      rw [h0] at c2
      generalize (yr2 s r).2.1 = a at *
      generalize hL : (s.recipes.getD r.toNat default).steps = l at *
      clear ha hx hs h0
      refine CallsD.run [(11, [.room 2]), (16, [.room 2])] Go.Proofs.Tryz.func5 rfl rfl rfl ?_; simp only [Go.Proofs.Tryz.f5]; refine hgR ?_
      repeat' ((first | refine hfk ?_ ?_ <;> intros | refine hik ?_ | with_reducible first | refine wud (c0) ?_ | refine vqe (c0) ?_ | refine wud (c1) ?_ | refine vqe (c1) ?_ | refine wud (c2) ?_ | refine vqe (c2) ?_) <;> refine hgS ?_)
      all_goals try (exfalso; omega)
      · exact RLe.ofEq rfl
      have hlp : 0 < l.length := by omega
      obtain ⟨k, hk, hkl⟩ : ∃ k : Nat, w.tmod (l.length : Int) = (k : Int) ∧ k < l.length := by
        have h1 := Int.emod_nonneg w (show ((l.length : Nat) : Int) ≠ 0 by omega)
        have h2 := Int.emod_lt_of_pos w (show (0 : Int) < ((l.length : Nat) : Int) by omega)
        refine ⟨(w % (l.length : Int)).toNat, ?_, by omega⟩
        rw [Int.tmod_eq_emod_of_nonneg hw0]
        omega
      rw [hk]
      have e1 : List.take (k - 0) (List.map Stp.C l) = (l.take k).map Stp.C := by rw [Nat.sub_zero, List.map_take]
      have e2 : (l.take k).length = k := List.length_take_of_le (by omega)
      have e3 : List.take (l.length - (k + 1)) (List.drop (k + 1) (List.map Stp.C l)) = (l.drop (k + 1)).map Stp.C := by rw [List.map_drop, List.take_of_length_le (by simp)]
      have e4 : (l.drop (k + 1)).length = l.length - (k + 1) := List.length_drop
      have e5 : List.take (k + 1 - 0) (List.map Stp.C l) = (l.take (k + 1)).map Stp.C := by rw [Nat.sub_zero, List.map_take]
      have e6 : (l.take (k + 1)).length = k + 1 := List.length_take_of_le (by omega)
      have e7 : List.take (l.length - k) (List.drop k (List.map Stp.C l)) = (l.drop k).map Stp.C := by rw [List.map_drop, List.take_of_length_le (by simp)]
      have e8 : (l.drop k).length = l.length - k := List.length_drop
      have m1 : ∀ y ∈ l.take k ++ l.drop (k + 1), y ∈ l := fun y hy => by
        rcases List.mem_append.1 hy with h | h
        · exact List.mem_of_mem_take h
        · exact List.mem_of_mem_drop h
      have m2 : ∀ y ∈ l.take (k + 1) ++ l.drop k, y ∈ l := fun y hy => by
        rcases List.mem_append.1 hy with h | h
        · exact List.mem_of_mem_take h
        · exact List.mem_of_mem_drop h
      have w1 := cw (l.take k ++ l.drop (k + 1))
      have w2 := cw (l.take (k + 1) ++ l.drop k)
      have p1 := cp (l.take k ++ l.drop (k + 1)) (by rw [List.length_append, e2, e4]; omega) (fun y hy => hsm y (m1 y hy))
      have p2 := cp (l.take (k + 1) ++ l.drop k) (by rw [List.length_append, e6, e8]; omega) (fun y hy => hsm y (m2 y hy))
      have q1 := o1 k hkl
      have q2 := o2 k hkl
      rw [List.map_append] at w1 w2
      generalize withS s r.toNat (l.take k ++ l.drop (k + 1)) = s1 at *
      generalize withS s r.toNat (l.take (k + 1) ++ l.drop k) = s2 at *
      clear c0 c1 c2 cw cp o1 o2 m1 m2 hsm
      conv => simp (maxSteps := 2000000) (disch := omega) only [go_sem, Nat.reduceAdd, Nat.reduceSub, Nat.reduceMul, Int.reduceToNat, Nat.reduceEqDiff, Nat.reduceBEq, Nat.reduceBneDiff, Nat.reduceLT, Int.reduceEq, Int.reduceLT, Int.reduceLE, Int.reduceNeg, Int.reduceAdd, Int.reduceSub, Int.reduceMul, e1, e2, e3, e4]
      repeat' ((first | refine hfk ?_ ?_ <;> intros | refine hik ?_ | with_reducible first | refine wud (w1) ?_ | refine vqe (w1) ?_ | refine wud (p1) ?_ | refine vqe (p1) ?_) <;> refine hgS ?_)
      all_goals try (exfalso; omega)
      · exact RLe.ofEq rfl
      obtain ⟨b2, q2⟩ := q2 (by omega)
      rw [q2] at p2
      dsimp only at p2
      clear w1 p1 q1 e1 e2 e3 e4
      conv => simp (maxSteps := 2000000) (disch := omega) only [go_sem, Nat.reduceAdd, Nat.reduceSub, Nat.reduceMul, Int.reduceToNat, Nat.reduceEqDiff, Nat.reduceBEq, Nat.reduceBneDiff, Nat.reduceLT, Int.reduceEq, Int.reduceLT, Int.reduceLE, Int.reduceNeg, Int.reduceAdd, Int.reduceSub, Int.reduceMul, e5, e6, e7, e8]
      repeat' ((first | refine hfk ?_ ?_ <;> intros | refine hik ?_ | with_reducible first | refine wud (w2) ?_ | refine vqe (w2) ?_ | refine wud (p2) ?_ | refine vqe (p2) ?_) <;> refine hgS ?_)
      all_goals first | (exfalso; omega) | exact RLe.ofEq rfl
    · have hn : ∀ n : Int, (yr2 s r).1 = n → ¬ n = 0 := fun n e => e ▸ h0
      generalize (yr2 s r).1 = e at *
      refine CallsD.run [] Go.Proofs.Tryz.func5 rfl rfl rfl ?_; simp only [Go.Proofs.Tryz.f5]; refine hgR ?_
      repeat' ((first | refine hfk ?_ ?_ <;> intros | refine hik ?_ | with_reducible first | refine wud (c0) ?_ | refine vqe (c0) ?_ | refine wud (c1) ?_ | refine vqe (c1) ?_ | refine wud (c2) ?_ | refine vqe (c2) ?_) <;> refine hgS ?_)
      all_goals first | (exfalso; omega) | exact RLe.ofEq rfl
end Go.Hp.T
