/-
  BackTells: for all arguments of bulk at most 1048576 the statement returns true, and the arguments read as before.
-/
import Derived.Test.YtieohkidmjglgaaGreatZ8
/- Contracts of package kitbagref04: Same, Compare, Add, Sub, Mul. -/
namespace Go.Slot.T
open Go Go.RowKit Go.Slot
open Go.Proofs.Tryz (prog)
set_option maxRecDepth 10000
set_option maxHeartbeats 4000000

theorem rSame04 (s : Int) (L : List Int) (s' : Int) (M : List Int) (lL : L.length ≤ 1073741824) (_lM : M.length ≤ 1073741824) :
    CallsTo prog 122 [.agg [.raw (.int .i64 s), .ints .i64 L], .agg [.raw (.int .i64 s'), .ints .i64 M]] (.one (.raw (.bool (decide (s = s' ∧ L = M))))) := by
  obtain ⟨r, hr⟩ : ∃ r, r = decide (s = s' ∧ L = M) := ⟨_, rfl⟩
  rw [← hr]
  have bad : ¬ (s = s' ∧ L = M) → false = r := fun h => by rw [hr, decide_eq_false h]
  by_cases h1 : s = s'
  · subst h1
    by_cases h2 : (L.length : Int) = M.length
    · have hl : L.length = M.length := by omega
      have h2' : ¬ ((L.length : Int) ≠ M.length) := fun h => h h2
      refine CallsTo.run [] Go.Proofs.Tryz.func122 rfl rfl ?_; conv => simp (maxSteps := 2000000) (disch := omega) only [go_sem, Nat.reduceAdd, Nat.reduceSub, Nat.reduceMul, Int.reduceToNat, Nat.reduceEqDiff, Nat.reduceBEq, Nat.reduceBneDiff, Go.Proofs.Tryz.f122, List.replicate]
      refine condd (fun h => absurd h h2') (fun _ => ?_)
      conv => simp (maxSteps := 2000000) (disch := omega) only [go_sem, Nat.reduceAdd, Nat.reduceSub, Nat.reduceMul, Int.reduceToNat, Nat.reduceEqDiff, Nat.reduceBEq, Nat.reduceBneDiff]
      refine loopo [] (fun i : Nat => [(5, .one (.raw (.int .i64 i)))]) (fun i => i ≤ L.length ∧ L.take i = M.take i) (fun i => L.length - i) 0 ⟨Nat.zero_le _, rfl⟩ ?_ ?_
      · conv => simp (maxSteps := 2000000) (disch := omega) only [go_sem, Nat.reduceAdd, Nat.reduceSub, Nat.reduceMul, Int.reduceToNat, Nat.reduceEqDiff, Nat.reduceBEq, Nat.reduceBneDiff]
        exact StLe.weaken (by repeat' first | exact .nil | refine .cons (by first | exact .refl _ | exact .any _) ?_) rfl
      rintro i ⟨hi, he⟩
      conv => simp (maxSteps := 2000000) (disch := omega) only [go_sem, Nat.reduceAdd, Nat.reduceSub, Nat.reduceMul, Int.reduceToNat, Nat.reduceEqDiff, Nat.reduceBEq, Nat.reduceBneDiff]
      refine condd (fun h1 => ?_) (fun h1 => ?_)
      · have hg : ∀ (l : List Int), i < l.length → l.take (i + 1) = l.take i ++ [l.getD i 0] := fun l h => take_snoc 0 h
        conv => simp (maxSteps := 2000000) (disch := omega) only [go_sem, Nat.reduceAdd, Nat.reduceSub, Nat.reduceMul, Int.reduceToNat, Nat.reduceEqDiff, Nat.reduceBEq, Nat.reduceBneDiff]
        refine indk (by kernel_rfl) ?_
        conv => simp (maxSteps := 2000000) (disch := omega) only [go_sem, Nat.reduceAdd, Nat.reduceSub, Nat.reduceMul, Int.reduceToNat, Nat.reduceEqDiff, Nat.reduceBEq, Nat.reduceBneDiff]
        refine condd (fun h2 => ?_) (fun h2 => ?_)
        · conv => simp (maxSteps := 2000000) (disch := omega) only [go_sem, Nat.reduceAdd, Nat.reduceSub, Nat.reduceMul, Int.reduceToNat, Nat.reduceEqDiff, Nat.reduceBEq, Nat.reduceBneDiff]
          exact ⟨_, rfl, by rw [bad (fun e => h2 (by rw [e.2]))]; exact .one (.refl _)⟩
        · have h2 : L.getD i 0 = M.getD i 0 := by omega
          conv => simp (maxSteps := 2000000) (disch := omega) only [go_sem, Nat.reduceAdd, Nat.reduceSub, Nat.reduceMul, Int.reduceToNat, Nat.reduceEqDiff, Nat.reduceBEq, Nat.reduceBneDiff]
          refine ⟨i + 1, ⟨by omega, ?_⟩, by omega, StLe.weaken (by repeat' first | exact .nil | refine .cons (by first | exact .refl _ | exact .any _) ?_) rfl⟩
          rw [hg L (by omega), hg M (by omega), he, h2]
      · have hi : i = L.length := by omega
        subst hi
        rw [List.take_length, hl, List.take_length] at he
        have e : true = r := by rw [hr, decide_eq_true ⟨rfl, he⟩]
        conv => simp (maxSteps := 2000000) (disch := omega) only [go_sem, Nat.reduceAdd, Nat.reduceSub, Nat.reduceMul, Int.reduceToNat, Nat.reduceEqDiff, Nat.reduceBEq, Nat.reduceBneDiff]
        exact ⟨_, rfl, by rw [e]; exact .one (.refl _)⟩
    · have h2 : (L.length : Int) ≠ M.length := h2
      refine CallsTo.run [] Go.Proofs.Tryz.func122 rfl rfl ?_; conv => simp (maxSteps := 2000000) (disch := omega) only [go_sem, Nat.reduceAdd, Nat.reduceSub, Nat.reduceMul, Int.reduceToNat, Nat.reduceEqDiff, Nat.reduceBEq, Nat.reduceBneDiff, Go.Proofs.Tryz.f122, List.replicate]
      refine condd (fun _ => ?_) (fun h => absurd h2 h)
      conv => simp (maxSteps := 2000000) (disch := omega) only [go_sem, Nat.reduceAdd, Nat.reduceSub, Nat.reduceMul, Int.reduceToNat, Nat.reduceEqDiff, Nat.reduceBEq, Nat.reduceBneDiff]
      exact ⟨_, rfl, by rw [bad (fun e => h2 (by rw [e.2]))]; exact .one (.refl _)⟩
  · have h1' := decide_eq_true (show s ≠ s' from h1)
    refine CallsTo.run [] Go.Proofs.Tryz.func122 rfl rfl ?_; conv => simp (maxSteps := 2000000) (disch := omega) only [go_sem, Nat.reduceAdd, Nat.reduceSub, Nat.reduceMul, Int.reduceToNat, Nat.reduceEqDiff, Nat.reduceBEq, Nat.reduceBneDiff, Go.Proofs.Tryz.f122, List.replicate]
    refine guardn (fun h => absurd h1 h) (fun h => ?_)
    conv => simp (maxSteps := 2000000) (disch := omega) only [go_sem, Nat.reduceAdd, Nat.reduceSub, Nat.reduceMul, Int.reduceToNat, Nat.reduceEqDiff, Nat.reduceBEq, Nat.reduceBneDiff, h1']
    exact ⟨_, rfl, by rw [bad (fun e => h1 e.1)]; exact .one (.refl _)⟩
theorem same_iff (x y : Int) : (sg x = sg y ∧ dig x.natAbs = dig y.natAbs) ↔ x = y := by
  constructor
  · rintro ⟨h1, h2⟩
    have ex := num_abs x
    have ey := num_abs y
    rw [h2, ey] at ex
    rcases sg_cases x with ⟨h, e⟩ | ⟨h, e⟩ | ⟨h, e⟩ <;> rcases sg_cases y with ⟨h', e'⟩ | ⟨h', e'⟩ | ⟨h', e'⟩ <;> omega
  · rintro rfl; exact ⟨rfl, rfl⟩
theorem rCompareZ (x y : Int) (hx : okZ x) (hy : okZ y) :
    CallsTo prog 82 [.agg [.raw (.int .i64 (sg x)), .ints .i64 (dig x.natAbs)], .agg [.raw (.int .i64 (sg y)), .ints .i64 (dig y.natAbs)]] (.one (.raw (.int .i64 (ord x y)))) := by
  have sx := sg_cases x
  have sy := sg_cases y
  have hx' : (dig x.natAbs).length ≤ 268435456 := hx
  have hy' : (dig y.natAbs).length ≤ 268435456 := hy
  have hS := rSame04 (sg x) (dig x.natAbs) (sg y) (dig y.natAbs) (by omega) (by omega)
  rw [decide_eq_decide.2 (same_iff x y)] at hS
  have hL := rLess (dig x.natAbs) (dig y.natAbs) (dig_digits _) (dig_digits _) (by omega) (by omega)
  rw [num_abs, num_abs] at hL
  by_cases h : x = y
  · rw [decide_eq_true h] at hS
    rw [show ord x y = 0 by unfold ord; rw [if_neg (by omega), if_neg (by omega)]]
    refine CallsTo.run [] Go.Proofs.Tryz.func82 rfl rfl ?_; conv => simp (maxSteps := 2000000) (disch := omega) only [go_sem, Nat.reduceAdd, Nat.reduceSub, Nat.reduceMul, Int.reduceToNat, Nat.reduceEqDiff, Nat.reduceBEq, Nat.reduceBneDiff, Go.Proofs.Tryz.f82, List.replicate]
    refine callk (rRightZ x hx) ?_
    conv => simp (maxSteps := 2000000) (disch := omega) only [go_sem, Nat.reduceAdd, Nat.reduceSub, Nat.reduceMul, Int.reduceToNat, Nat.reduceEqDiff, Nat.reduceBEq, Nat.reduceBneDiff]
    refine callk (rRightZ y hy) ?_
    conv => simp (maxSteps := 2000000) (disch := omega) only [go_sem, Nat.reduceAdd, Nat.reduceSub, Nat.reduceMul, Int.reduceToNat, Nat.reduceEqDiff, Nat.reduceBEq, Nat.reduceBneDiff]
    refine callk hS ?_
    conv => simp (maxSteps := 2000000) (disch := omega) only [go_sem, Nat.reduceAdd, Nat.reduceSub, Nat.reduceMul, Int.reduceToNat, Nat.reduceEqDiff, Nat.reduceBEq, Nat.reduceBneDiff]
    exact ⟨_, rfl, .one (.refl _)⟩
  · rw [decide_eq_false h] at hS
    by_cases h1 : sg x = sg y
    · have h1' : ¬ sg x ≠ sg y := fun e => e h1
      by_cases h2 : (x.natAbs : Int) < y.natAbs
      · rw [decide_eq_true h2] at hL
        by_cases h3 : 0 < sg x
        · rw [show ord x y = -1 by unfold ord; rw [if_pos (by omega)]]
          have h3' := decide_eq_true h3
          refine CallsTo.run [] Go.Proofs.Tryz.func82 rfl rfl ?_; conv => simp (maxSteps := 2000000) (disch := omega) only [go_sem, Nat.reduceAdd, Nat.reduceSub, Nat.reduceMul, Int.reduceToNat, Nat.reduceEqDiff, Nat.reduceBEq, Nat.reduceBneDiff, Go.Proofs.Tryz.f82, List.replicate]
          refine callk (rRightZ x hx) ?_
          conv => simp (maxSteps := 2000000) (disch := omega) only [go_sem, Nat.reduceAdd, Nat.reduceSub, Nat.reduceMul, Int.reduceToNat, Nat.reduceEqDiff, Nat.reduceBEq, Nat.reduceBneDiff]
          refine callk (rRightZ y hy) ?_
          conv => simp (maxSteps := 2000000) (disch := omega) only [go_sem, Nat.reduceAdd, Nat.reduceSub, Nat.reduceMul, Int.reduceToNat, Nat.reduceEqDiff, Nat.reduceBEq, Nat.reduceBneDiff]
          refine callk hS ?_
          conv => simp (maxSteps := 2000000) (disch := omega) only [go_sem, Nat.reduceAdd, Nat.reduceSub, Nat.reduceMul, Int.reduceToNat, Nat.reduceEqDiff, Nat.reduceBEq, Nat.reduceBneDiff]
          refine condd (fun e => absurd e h1') (fun _ => ?_)
          conv => simp (maxSteps := 2000000) (disch := omega) only [go_sem, Nat.reduceAdd, Nat.reduceSub, Nat.reduceMul, Int.reduceToNat, Nat.reduceEqDiff, Nat.reduceBEq, Nat.reduceBneDiff]
          refine callk hL ?_
          conv => simp (maxSteps := 2000000) (disch := omega) only [go_sem, Nat.reduceAdd, Nat.reduceSub, Nat.reduceMul, Int.reduceToNat, Nat.reduceEqDiff, Nat.reduceBEq, Nat.reduceBneDiff, h3']
          refine indk (by kernel_rfl) ?_
          conv => simp (maxSteps := 2000000) (disch := omega) only [go_sem, Nat.reduceAdd, Nat.reduceSub, Nat.reduceMul, Int.reduceToNat, Nat.reduceEqDiff, Nat.reduceBEq, Nat.reduceBneDiff]
          exact ⟨_, rfl, .one (.refl _)⟩
        · rw [show ord x y = 1 by unfold ord; rw [if_neg (by omega), if_pos (by omega)]]
          have h3' := decide_eq_false h3
          refine CallsTo.run [] Go.Proofs.Tryz.func82 rfl rfl ?_; conv => simp (maxSteps := 2000000) (disch := omega) only [go_sem, Nat.reduceAdd, Nat.reduceSub, Nat.reduceMul, Int.reduceToNat, Nat.reduceEqDiff, Nat.reduceBEq, Nat.reduceBneDiff, Go.Proofs.Tryz.f82, List.replicate]
          refine callk (rRightZ x hx) ?_
          conv => simp (maxSteps := 2000000) (disch := omega) only [go_sem, Nat.reduceAdd, Nat.reduceSub, Nat.reduceMul, Int.reduceToNat, Nat.reduceEqDiff, Nat.reduceBEq, Nat.reduceBneDiff]
          refine callk (rRightZ y hy) ?_
          conv => simp (maxSteps := 2000000) (disch := omega) only [go_sem, Nat.reduceAdd, Nat.reduceSub, Nat.reduceMul, Int.reduceToNat, Nat.reduceEqDiff, Nat.reduceBEq, Nat.reduceBneDiff]
          refine callk hS ?_
          conv => simp (maxSteps := 2000000) (disch := omega) only [go_sem, Nat.reduceAdd, Nat.reduceSub, Nat.reduceMul, Int.reduceToNat, Nat.reduceEqDiff, Nat.reduceBEq, Nat.reduceBneDiff]
          refine condd (fun e => absurd e h1') (fun _ => ?_)
          conv => simp (maxSteps := 2000000) (disch := omega) only [go_sem, Nat.reduceAdd, Nat.reduceSub, Nat.reduceMul, Int.reduceToNat, Nat.reduceEqDiff, Nat.reduceBEq, Nat.reduceBneDiff]
          refine callk hL ?_
          conv => simp (maxSteps := 2000000) (disch := omega) only [go_sem, Nat.reduceAdd, Nat.reduceSub, Nat.reduceMul, Int.reduceToNat, Nat.reduceEqDiff, Nat.reduceBEq, Nat.reduceBneDiff, h3']
          refine indk (by kernel_rfl) ?_
          conv => simp (maxSteps := 2000000) (disch := omega) only [go_sem, Nat.reduceAdd, Nat.reduceSub, Nat.reduceMul, Int.reduceToNat, Nat.reduceEqDiff, Nat.reduceBEq, Nat.reduceBneDiff]
          exact ⟨_, rfl, .one (.refl _)⟩
      · rw [decide_eq_false h2] at hL
        by_cases h3 : 0 < sg x
        · rw [show ord x y = 1 by unfold ord; rw [if_neg (by omega), if_pos (by omega)]]
          have h3' := decide_eq_true h3
          refine CallsTo.run [] Go.Proofs.Tryz.func82 rfl rfl ?_; conv => simp (maxSteps := 2000000) (disch := omega) only [go_sem, Nat.reduceAdd, Nat.reduceSub, Nat.reduceMul, Int.reduceToNat, Nat.reduceEqDiff, Nat.reduceBEq, Nat.reduceBneDiff, Go.Proofs.Tryz.f82, List.replicate]
          refine callk (rRightZ x hx) ?_
          conv => simp (maxSteps := 2000000) (disch := omega) only [go_sem, Nat.reduceAdd, Nat.reduceSub, Nat.reduceMul, Int.reduceToNat, Nat.reduceEqDiff, Nat.reduceBEq, Nat.reduceBneDiff]
          refine callk (rRightZ y hy) ?_
          conv => simp (maxSteps := 2000000) (disch := omega) only [go_sem, Nat.reduceAdd, Nat.reduceSub, Nat.reduceMul, Int.reduceToNat, Nat.reduceEqDiff, Nat.reduceBEq, Nat.reduceBneDiff]
          refine callk hS ?_
          conv => simp (maxSteps := 2000000) (disch := omega) only [go_sem, Nat.reduceAdd, Nat.reduceSub, Nat.reduceMul, Int.reduceToNat, Nat.reduceEqDiff, Nat.reduceBEq, Nat.reduceBneDiff]
          refine condd (fun e => absurd e h1') (fun _ => ?_)
          conv => simp (maxSteps := 2000000) (disch := omega) only [go_sem, Nat.reduceAdd, Nat.reduceSub, Nat.reduceMul, Int.reduceToNat, Nat.reduceEqDiff, Nat.reduceBEq, Nat.reduceBneDiff]
          refine callk hL ?_
          conv => simp (maxSteps := 2000000) (disch := omega) only [go_sem, Nat.reduceAdd, Nat.reduceSub, Nat.reduceMul, Int.reduceToNat, Nat.reduceEqDiff, Nat.reduceBEq, Nat.reduceBneDiff, h3']
          refine indk (by kernel_rfl) ?_
          conv => simp (maxSteps := 2000000) (disch := omega) only [go_sem, Nat.reduceAdd, Nat.reduceSub, Nat.reduceMul, Int.reduceToNat, Nat.reduceEqDiff, Nat.reduceBEq, Nat.reduceBneDiff]
          exact ⟨_, rfl, .one (.refl _)⟩
        · rw [show ord x y = -1 by unfold ord; rw [if_pos (by omega)]]
          have h3' := decide_eq_false h3
          refine CallsTo.run [] Go.Proofs.Tryz.func82 rfl rfl ?_; conv => simp (maxSteps := 2000000) (disch := omega) only [go_sem, Nat.reduceAdd, Nat.reduceSub, Nat.reduceMul, Int.reduceToNat, Nat.reduceEqDiff, Nat.reduceBEq, Nat.reduceBneDiff, Go.Proofs.Tryz.f82, List.replicate]
          refine callk (rRightZ x hx) ?_
          conv => simp (maxSteps := 2000000) (disch := omega) only [go_sem, Nat.reduceAdd, Nat.reduceSub, Nat.reduceMul, Int.reduceToNat, Nat.reduceEqDiff, Nat.reduceBEq, Nat.reduceBneDiff]
          refine callk (rRightZ y hy) ?_
          conv => simp (maxSteps := 2000000) (disch := omega) only [go_sem, Nat.reduceAdd, Nat.reduceSub, Nat.reduceMul, Int.reduceToNat, Nat.reduceEqDiff, Nat.reduceBEq, Nat.reduceBneDiff]
          refine callk hS ?_
          conv => simp (maxSteps := 2000000) (disch := omega) only [go_sem, Nat.reduceAdd, Nat.reduceSub, Nat.reduceMul, Int.reduceToNat, Nat.reduceEqDiff, Nat.reduceBEq, Nat.reduceBneDiff]
          refine condd (fun e => absurd e h1') (fun _ => ?_)
          conv => simp (maxSteps := 2000000) (disch := omega) only [go_sem, Nat.reduceAdd, Nat.reduceSub, Nat.reduceMul, Int.reduceToNat, Nat.reduceEqDiff, Nat.reduceBEq, Nat.reduceBneDiff]
          refine callk hL ?_
          conv => simp (maxSteps := 2000000) (disch := omega) only [go_sem, Nat.reduceAdd, Nat.reduceSub, Nat.reduceMul, Int.reduceToNat, Nat.reduceEqDiff, Nat.reduceBEq, Nat.reduceBneDiff, h3']
          refine indk (by kernel_rfl) ?_
          conv => simp (maxSteps := 2000000) (disch := omega) only [go_sem, Nat.reduceAdd, Nat.reduceSub, Nat.reduceMul, Int.reduceToNat, Nat.reduceEqDiff, Nat.reduceBEq, Nat.reduceBneDiff]
          exact ⟨_, rfl, .one (.refl _)⟩
    · refine CallsTo.run [] Go.Proofs.Tryz.func82 rfl rfl ?_; conv => simp (maxSteps := 2000000) (disch := omega) only [go_sem, Nat.reduceAdd, Nat.reduceSub, Nat.reduceMul, Int.reduceToNat, Nat.reduceEqDiff, Nat.reduceBEq, Nat.reduceBneDiff, Go.Proofs.Tryz.f82, List.replicate]
      refine callk (rRightZ x hx) ?_
      conv => simp (maxSteps := 2000000) (disch := omega) only [go_sem, Nat.reduceAdd, Nat.reduceSub, Nat.reduceMul, Int.reduceToNat, Nat.reduceEqDiff, Nat.reduceBEq, Nat.reduceBneDiff]
      refine callk (rRightZ y hy) ?_
      conv => simp (maxSteps := 2000000) (disch := omega) only [go_sem, Nat.reduceAdd, Nat.reduceSub, Nat.reduceMul, Int.reduceToNat, Nat.reduceEqDiff, Nat.reduceBEq, Nat.reduceBneDiff]
      refine callk hS ?_
      conv => simp (maxSteps := 2000000) (disch := omega) only [go_sem, Nat.reduceAdd, Nat.reduceSub, Nat.reduceMul, Int.reduceToNat, Nat.reduceEqDiff, Nat.reduceBEq, Nat.reduceBneDiff]
      refine condd (fun _ => ?_) (fun e => absurd h1 e)
      conv => simp (maxSteps := 2000000) (disch := omega) only [go_sem, Nat.reduceAdd, Nat.reduceSub, Nat.reduceMul, Int.reduceToNat, Nat.reduceEqDiff, Nat.reduceBEq, Nat.reduceBneDiff]
      refine condd (fun h2 => ?_) (fun h2 => ?_)
      · conv => simp (maxSteps := 2000000) (disch := omega) only [go_sem, Nat.reduceAdd, Nat.reduceSub, Nat.reduceMul, Int.reduceToNat, Nat.reduceEqDiff, Nat.reduceBEq, Nat.reduceBneDiff]
        rw [show ord x y = -1 by unfold ord; rw [if_pos (by omega)]]
        exact ⟨_, rfl, .one (.refl _)⟩
      · conv => simp (maxSteps := 2000000) (disch := omega) only [go_sem, Nat.reduceAdd, Nat.reduceSub, Nat.reduceMul, Int.reduceToNat, Nat.reduceEqDiff, Nat.reduceBEq, Nat.reduceBneDiff]
        rw [show ord x y = 1 by unfold ord; rw [if_neg (by omega), if_pos (by omega)]]
        exact ⟨_, rfl, .one (.refl _)⟩
theorem rAddZ (x y : Int) (hx : okZ x) (hy : okZ y) :
    CallsTo prog 96 [.agg [.raw (.int .i64 (sg x)), .ints .i64 (dig x.natAbs)], .agg [.raw (.int .i64 (sg y)), .ints .i64 (dig y.natAbs)]]
      (.tup [.agg [.raw (.int .i64 (sg (x + y))), .ints .i64 (dig (x + y).natAbs)], .one (.raw (.int .i64 0))]) := by
  have sx := sg_cases x
  have sy := sg_cases y
  have hx' : (dig x.natAbs).length ≤ 268435456 := hx
  have hy' : (dig y.natAbs).length ≤ 268435456 := hy
  have hl := len_add x y
  have hP := rPlus (dig x.natAbs) (dig y.natAbs) (dig_digits _) (dig_digits _) (by omega) (by omega)
  rw [num_abs, num_abs] at hP
  have hL := rLess (dig x.natAbs) (dig y.natAbs) (dig_digits _) (dig_digits _) (by omega) (by omega)
  rw [num_abs, num_abs] at hL
  by_cases h : sg x = 0 ∨ sg y = 0 ∨ sg x = sg y
  · have hA : ((x.natAbs : Int) + y.natAbs).toNat = (x + y).natAbs := by omega
    rw [hA] at hP
    have ho : (ior .i64 (sg x) (sg y) = 1 ∧ 0 ≤ x + y) ∨ (ior .i64 (sg x) (sg y) = -1 ∧ x + y ≤ 0) ∨ x + y = 0 := by
      rcases sx with ⟨h1, e⟩ | ⟨h1, e⟩ | ⟨h1, e⟩ <;> rcases sy with ⟨h2, e'⟩ | ⟨h2, e'⟩ | ⟨h2, e'⟩ <;> rw [e, e'] <;> first | exact .inl ⟨by decide, by omega⟩ | exact .inr (.inl ⟨by decide, by omega⟩) | exact .inr (.inr (by omega)) | (exfalso; omega)
    have hM := rMadeZ (ior .i64 (sg x) (sg y)) (x + y) (by omega) ho
    by_cases h1 : sg x = 0
    · have h1' := decide_eq_true h1
      refine CallsTo.run [] Go.Proofs.Tryz.func96 rfl rfl ?_; conv => simp (maxSteps := 2000000) (disch := omega) only [go_sem, Nat.reduceAdd, Nat.reduceSub, Nat.reduceMul, Int.reduceToNat, Nat.reduceEqDiff, Nat.reduceBEq, Nat.reduceBneDiff, Go.Proofs.Tryz.f96, List.replicate]
      refine callk (rRightZ x hx) ?_
      conv => simp (maxSteps := 2000000) (disch := omega) only [go_sem, Nat.reduceAdd, Nat.reduceSub, Nat.reduceMul, Int.reduceToNat, Nat.reduceEqDiff, Nat.reduceBEq, Nat.reduceBneDiff]
      refine callk (rRightZ y hy) ?_
      conv => simp (maxSteps := 2000000) (disch := omega) only [go_sem, Nat.reduceAdd, Nat.reduceSub, Nat.reduceMul, Int.reduceToNat, Nat.reduceEqDiff, Nat.reduceBEq, Nat.reduceBneDiff, h1']
      refine callk hP ?_
      conv => simp (maxSteps := 2000000) (disch := omega) only [go_sem, Nat.reduceAdd, Nat.reduceSub, Nat.reduceMul, Int.reduceToNat, Nat.reduceEqDiff, Nat.reduceBEq, Nat.reduceBneDiff]
      refine callk hM ?_
      conv => simp (maxSteps := 2000000) (disch := omega) only [go_sem, Nat.reduceAdd, Nat.reduceSub, Nat.reduceMul, Int.reduceToNat, Nat.reduceEqDiff, Nat.reduceBEq, Nat.reduceBneDiff]
      refine indk (by kernel_rfl) ?_
      conv => simp (maxSteps := 2000000) (disch := omega) only [go_sem, Nat.reduceAdd, Nat.reduceSub, Nat.reduceMul, Int.reduceToNat, Nat.reduceEqDiff, Nat.reduceBEq, Nat.reduceBneDiff]
      exact ⟨_, rfl, .tup (.cons (.refl _) (.cons (.refl _) .nil))⟩
    · have h1' := decide_eq_false h1
      by_cases h2 : sg y = 0
      · have h2' := decide_eq_true h2
        refine CallsTo.run [] Go.Proofs.Tryz.func96 rfl rfl ?_; conv => simp (maxSteps := 2000000) (disch := omega) only [go_sem, Nat.reduceAdd, Nat.reduceSub, Nat.reduceMul, Int.reduceToNat, Nat.reduceEqDiff, Nat.reduceBEq, Nat.reduceBneDiff, Go.Proofs.Tryz.f96, List.replicate]
        refine callk (rRightZ x hx) ?_
        conv => simp (maxSteps := 2000000) (disch := omega) only [go_sem, Nat.reduceAdd, Nat.reduceSub, Nat.reduceMul, Int.reduceToNat, Nat.reduceEqDiff, Nat.reduceBEq, Nat.reduceBneDiff]
        refine callk (rRightZ y hy) ?_
        conv => simp (maxSteps := 2000000) (disch := omega) only [go_sem, Nat.reduceAdd, Nat.reduceSub, Nat.reduceMul, Int.reduceToNat, Nat.reduceEqDiff, Nat.reduceBEq, Nat.reduceBneDiff, h1', h2']
        refine callk hP ?_
        conv => simp (maxSteps := 2000000) (disch := omega) only [go_sem, Nat.reduceAdd, Nat.reduceSub, Nat.reduceMul, Int.reduceToNat, Nat.reduceEqDiff, Nat.reduceBEq, Nat.reduceBneDiff]
        refine callk hM ?_
        conv => simp (maxSteps := 2000000) (disch := omega) only [go_sem, Nat.reduceAdd, Nat.reduceSub, Nat.reduceMul, Int.reduceToNat, Nat.reduceEqDiff, Nat.reduceBEq, Nat.reduceBneDiff]
        refine indk (by kernel_rfl) ?_
        conv => simp (maxSteps := 2000000) (disch := omega) only [go_sem, Nat.reduceAdd, Nat.reduceSub, Nat.reduceMul, Int.reduceToNat, Nat.reduceEqDiff, Nat.reduceBEq, Nat.reduceBneDiff]
        exact ⟨_, rfl, .tup (.cons (.refl _) (.cons (.refl _) .nil))⟩
      · have h2' := decide_eq_false h2
        have h3 : sg x = sg y := by omega
        refine CallsTo.run [] Go.Proofs.Tryz.func96 rfl rfl ?_; conv => simp (maxSteps := 2000000) (disch := omega) only [go_sem, Nat.reduceAdd, Nat.reduceSub, Nat.reduceMul, Int.reduceToNat, Nat.reduceEqDiff, Nat.reduceBEq, Nat.reduceBneDiff, Go.Proofs.Tryz.f96, List.replicate]
        refine callk (rRightZ x hx) ?_
        conv => simp (maxSteps := 2000000) (disch := omega) only [go_sem, Nat.reduceAdd, Nat.reduceSub, Nat.reduceMul, Int.reduceToNat, Nat.reduceEqDiff, Nat.reduceBEq, Nat.reduceBneDiff]
        refine callk (rRightZ y hy) ?_
        conv => simp (maxSteps := 2000000) (disch := omega) only [go_sem, Nat.reduceAdd, Nat.reduceSub, Nat.reduceMul, Int.reduceToNat, Nat.reduceEqDiff, Nat.reduceBEq, Nat.reduceBneDiff, h1', h2']
        refine condd (fun _ => ?_) (fun e => absurd h3 e)
        conv => simp (maxSteps := 2000000) (disch := omega) only [go_sem, Nat.reduceAdd, Nat.reduceSub, Nat.reduceMul, Int.reduceToNat, Nat.reduceEqDiff, Nat.reduceBEq, Nat.reduceBneDiff]
        refine callk hP ?_
        conv => simp (maxSteps := 2000000) (disch := omega) only [go_sem, Nat.reduceAdd, Nat.reduceSub, Nat.reduceMul, Int.reduceToNat, Nat.reduceEqDiff, Nat.reduceBEq, Nat.reduceBneDiff]
        refine callk hM ?_
        conv => simp (maxSteps := 2000000) (disch := omega) only [go_sem, Nat.reduceAdd, Nat.reduceSub, Nat.reduceMul, Int.reduceToNat, Nat.reduceEqDiff, Nat.reduceBEq, Nat.reduceBneDiff]
        refine indk (by kernel_rfl) ?_
        conv => simp (maxSteps := 2000000) (disch := omega) only [go_sem, Nat.reduceAdd, Nat.reduceSub, Nat.reduceMul, Int.reduceToNat, Nat.reduceEqDiff, Nat.reduceBEq, Nat.reduceBneDiff]
        exact ⟨_, rfl, .tup (.cons (.refl _) (.cons (.refl _) .nil))⟩
  · have h1 : ¬ sg x = 0 := fun e => h (.inl e)
    have h2 : ¬ sg y = 0 := fun e => h (.inr (.inl e))
    have h3 : ¬ sg x = sg y := fun e => h (.inr (.inr e))
    have h1' := decide_eq_false h1
    have h2' := decide_eq_false h2
    by_cases h4 : (x.natAbs : Int) < y.natAbs
    · rw [decide_eq_true h4] at hL
      have hD := rMinus y.natAbs x.natAbs (by omega) (by omega)
      have hA : y.natAbs - x.natAbs = (x + y).natAbs := by omega
      rw [hA] at hD
      have hM := rMadeZ (sg y) (x + y) (by omega) (by omega)
      refine CallsTo.run [] Go.Proofs.Tryz.func96 rfl rfl ?_; conv => simp (maxSteps := 2000000) (disch := omega) only [go_sem, Nat.reduceAdd, Nat.reduceSub, Nat.reduceMul, Int.reduceToNat, Nat.reduceEqDiff, Nat.reduceBEq, Nat.reduceBneDiff, Go.Proofs.Tryz.f96, List.replicate]
      refine callk (rRightZ x hx) ?_
      conv => simp (maxSteps := 2000000) (disch := omega) only [go_sem, Nat.reduceAdd, Nat.reduceSub, Nat.reduceMul, Int.reduceToNat, Nat.reduceEqDiff, Nat.reduceBEq, Nat.reduceBneDiff]
      refine callk (rRightZ y hy) ?_
      conv => simp (maxSteps := 2000000) (disch := omega) only [go_sem, Nat.reduceAdd, Nat.reduceSub, Nat.reduceMul, Int.reduceToNat, Nat.reduceEqDiff, Nat.reduceBEq, Nat.reduceBneDiff, h1', h2']
      refine condd (fun e => absurd e h3) (fun _ => ?_)
      conv => simp (maxSteps := 2000000) (disch := omega) only [go_sem, Nat.reduceAdd, Nat.reduceSub, Nat.reduceMul, Int.reduceToNat, Nat.reduceEqDiff, Nat.reduceBEq, Nat.reduceBneDiff]
      refine callk hL ?_
      conv => simp (maxSteps := 2000000) (disch := omega) only [go_sem, Nat.reduceAdd, Nat.reduceSub, Nat.reduceMul, Int.reduceToNat, Nat.reduceEqDiff, Nat.reduceBEq, Nat.reduceBneDiff]
      refine callk hD ?_
      conv => simp (maxSteps := 2000000) (disch := omega) only [go_sem, Nat.reduceAdd, Nat.reduceSub, Nat.reduceMul, Int.reduceToNat, Nat.reduceEqDiff, Nat.reduceBEq, Nat.reduceBneDiff]
      refine callk hM ?_
      conv => simp (maxSteps := 2000000) (disch := omega) only [go_sem, Nat.reduceAdd, Nat.reduceSub, Nat.reduceMul, Int.reduceToNat, Nat.reduceEqDiff, Nat.reduceBEq, Nat.reduceBneDiff]
      refine indk (by kernel_rfl) ?_
      conv => simp (maxSteps := 2000000) (disch := omega) only [go_sem, Nat.reduceAdd, Nat.reduceSub, Nat.reduceMul, Int.reduceToNat, Nat.reduceEqDiff, Nat.reduceBEq, Nat.reduceBneDiff]
      exact ⟨_, rfl, .tup (.cons (.refl _) (.cons (.refl _) .nil))⟩
    · rw [decide_eq_false h4] at hL
      have hD := rMinus x.natAbs y.natAbs (by omega) (by omega)
      have hA : x.natAbs - y.natAbs = (x + y).natAbs := by omega
      rw [hA] at hD
      have hM := rMadeZ (sg x) (x + y) (by omega) (by omega)
      refine CallsTo.run [] Go.Proofs.Tryz.func96 rfl rfl ?_; conv => simp (maxSteps := 2000000) (disch := omega) only [go_sem, Nat.reduceAdd, Nat.reduceSub, Nat.reduceMul, Int.reduceToNat, Nat.reduceEqDiff, Nat.reduceBEq, Nat.reduceBneDiff, Go.Proofs.Tryz.f96, List.replicate]
      refine callk (rRightZ x hx) ?_
      conv => simp (maxSteps := 2000000) (disch := omega) only [go_sem, Nat.reduceAdd, Nat.reduceSub, Nat.reduceMul, Int.reduceToNat, Nat.reduceEqDiff, Nat.reduceBEq, Nat.reduceBneDiff]
      refine callk (rRightZ y hy) ?_
      conv => simp (maxSteps := 2000000) (disch := omega) only [go_sem, Nat.reduceAdd, Nat.reduceSub, Nat.reduceMul, Int.reduceToNat, Nat.reduceEqDiff, Nat.reduceBEq, Nat.reduceBneDiff, h1', h2']
      refine condd (fun e => absurd e h3) (fun _ => ?_)
      conv => simp (maxSteps := 2000000) (disch := omega) only [go_sem, Nat.reduceAdd, Nat.reduceSub, Nat.reduceMul, Int.reduceToNat, Nat.reduceEqDiff, Nat.reduceBEq, Nat.reduceBneDiff]
      refine callk hL ?_
      conv => simp (maxSteps := 2000000) (disch := omega) only [go_sem, Nat.reduceAdd, Nat.reduceSub, Nat.reduceMul, Int.reduceToNat, Nat.reduceEqDiff, Nat.reduceBEq, Nat.reduceBneDiff]
      refine callk hD ?_
      conv => simp (maxSteps := 2000000) (disch := omega) only [go_sem, Nat.reduceAdd, Nat.reduceSub, Nat.reduceMul, Int.reduceToNat, Nat.reduceEqDiff, Nat.reduceBEq, Nat.reduceBneDiff]
      refine callk hM ?_
      conv => simp (maxSteps := 2000000) (disch := omega) only [go_sem, Nat.reduceAdd, Nat.reduceSub, Nat.reduceMul, Int.reduceToNat, Nat.reduceEqDiff, Nat.reduceBEq, Nat.reduceBneDiff]
      refine indk (by kernel_rfl) ?_
      conv => simp (maxSteps := 2000000) (disch := omega) only [go_sem, Nat.reduceAdd, Nat.reduceSub, Nat.reduceMul, Int.reduceToNat, Nat.reduceEqDiff, Nat.reduceBEq, Nat.reduceBneDiff]
      exact ⟨_, rfl, .tup (.cons (.refl _) (.cons (.refl _) .nil))⟩
theorem rSubZ (x y : Int) (hx : okZ x) (hy : okZ y) :
    CallsTo prog 94 [.agg [.raw (.int .i64 (sg x)), .ints .i64 (dig x.natAbs)], .agg [.raw (.int .i64 (sg y)), .ints .i64 (dig y.natAbs)]]
      (.tup [.agg [.raw (.int .i64 (sg (x - y))), .ints .i64 (dig (x - y).natAbs)], .one (.raw (.int .i64 0))]) := by
  have hA := rAddZ x (-y) hx (by unfold okZ; rw [Int.natAbs_neg]; exact hy)
  rw [← Int.sub_eq_add_neg] at hA
  refine CallsTo.run [] Go.Proofs.Tryz.func94 rfl rfl ?_; conv => simp (maxSteps := 2000000) (disch := omega) only [go_sem, Nat.reduceAdd, Nat.reduceSub, Nat.reduceMul, Int.reduceToNat, Nat.reduceEqDiff, Nat.reduceBEq, Nat.reduceBneDiff, Go.Proofs.Tryz.f94, List.replicate]
  refine callk (rRightZ y hy) ?_
  conv => simp (maxSteps := 2000000) (disch := omega) only [go_sem, Nat.reduceAdd, Nat.reduceSub, Nat.reduceMul, Int.reduceToNat, Nat.reduceEqDiff, Nat.reduceBEq, Nat.reduceBneDiff]
  refine callk (rNegZ y hy) ?_
  conv => simp (maxSteps := 2000000) (disch := omega) only [go_sem, Nat.reduceAdd, Nat.reduceSub, Nat.reduceMul, Int.reduceToNat, Nat.reduceEqDiff, Nat.reduceBEq, Nat.reduceBneDiff]
  refine callk hA ?_
  conv => simp (maxSteps := 2000000) (disch := omega) only [go_sem, Nat.reduceAdd, Nat.reduceSub, Nat.reduceMul, Int.reduceToNat, Nat.reduceEqDiff, Nat.reduceBEq, Nat.reduceBneDiff]
  refine indk (by kernel_rfl) ?_
  conv => simp (maxSteps := 2000000) (disch := omega) only [go_sem, Nat.reduceAdd, Nat.reduceSub, Nat.reduceMul, Int.reduceToNat, Nat.reduceEqDiff, Nat.reduceBEq, Nat.reduceBneDiff]
  exact ⟨_, rfl, .tup (.cons (.refl _) (.cons (.refl _) .nil))⟩
theorem rMulZ (x y : Int) (hx : okZ x) (hy : okZ y) :
    CallsTo prog 81 [.agg [.raw (.int .i64 (sg x)), .ints .i64 (dig x.natAbs)], .agg [.raw (.int .i64 (sg y)), .ints .i64 (dig y.natAbs)]]
      (.tup [.agg [.raw (.int .i64 (sg (x * y))), .ints .i64 (dig (x * y).natAbs)], .one (.raw (.int .i64 0))]) := by
  have hx' : (dig x.natAbs).length ≤ 268435456 := hx
  have hy' : (dig y.natAbs).length ≤ 268435456 := hy
  have hl := len_mul x y
  have hT := rTimes (dig x.natAbs) (dig y.natAbs) (dig_digits _) (dig_digits _) (by omega) (by omega)
  rw [num_abs, num_abs, ← Int.natCast_mul, Int.toNat_natCast, ← Int.natAbs_mul] at hT
  have hm := sg_mul x y
  have hr := sg_cases (x * y)
  have hM := rMadeZ (sg (x * y)) (x * y) (by omega) (sg_ok _)
  refine CallsTo.run [] Go.Proofs.Tryz.func81 rfl rfl ?_; conv => simp (maxSteps := 2000000) (disch := omega) only [go_sem, Nat.reduceAdd, Nat.reduceSub, Nat.reduceMul, Int.reduceToNat, Nat.reduceEqDiff, Nat.reduceBEq, Nat.reduceBneDiff, Go.Proofs.Tryz.f81, List.replicate]
  refine callk (rRightZ x hx) ?_
  conv => simp (maxSteps := 2000000) (disch := omega) only [go_sem, Nat.reduceAdd, Nat.reduceSub, Nat.reduceMul, Int.reduceToNat, Nat.reduceEqDiff, Nat.reduceBEq, Nat.reduceBneDiff]
  refine callk (rRightZ y hy) ?_
  conv => simp (maxSteps := 2000000) (disch := omega) only [go_sem, Nat.reduceAdd, Nat.reduceSub, Nat.reduceMul, Int.reduceToNat, Nat.reduceEqDiff, Nat.reduceBEq, Nat.reduceBneDiff, hm]
  refine callk hT ?_
  conv => simp (maxSteps := 2000000) (disch := omega) only [go_sem, Nat.reduceAdd, Nat.reduceSub, Nat.reduceMul, Int.reduceToNat, Nat.reduceEqDiff, Nat.reduceBEq, Nat.reduceBneDiff, hm]
  refine callk hM ?_
  conv => simp (maxSteps := 2000000) (disch := omega) only [go_sem, Nat.reduceAdd, Nat.reduceSub, Nat.reduceMul, Int.reduceToNat, Nat.reduceEqDiff, Nat.reduceBEq, Nat.reduceBneDiff]
  refine indk (by kernel_rfl) ?_
  conv => simp (maxSteps := 2000000) (disch := omega) only [go_sem, Nat.reduceAdd, Nat.reduceSub, Nat.reduceMul, Int.reduceToNat, Nat.reduceEqDiff, Nat.reduceBEq, Nat.reduceBneDiff]
  exact ⟨_, rfl, .tup (.cons (.refl _) (.cons (.refl _) .nil))⟩
end Go.Slot.T

/- Contracts of package kitbagref05: Right, Add, Sub, Mul, Neg, Sign, Compare. -/
namespace Go.Slot.T
open Go Go.RowKit Go.Slot
open Go.Proofs.Tryz (prog)
set_option maxRecDepth 10000
set_option maxHeartbeats 4000000

theorem ord_zero (x y : Int) : ord x y = 0 ↔ x = y := by unfold ord; repeat' split <;> omega
theorem rRight05 (f : Fc) (hf : f.sz ≤ 268435456) : CallsTo prog 51 [.agg f.C] (.one (.raw (.bool (decide f.ok)))) := by
  obtain ⟨s, L, t, M⟩ := f
  obtain ⟨hL, hM⟩ := szL hf
  dsimp only at hL hM
  obtain ⟨r, hr⟩ : ∃ r, r = decide (Fc.mk s L t M).ok := ⟨_, rfl⟩
  rw [← hr]
  have bad : ¬ FracRight s L t M → r = false := fun h => by rw [hr]; exact decide_eq_false h
  have hRL := rRight s L (by omega)
  have hRM := rRight t M (by omega)
  by_cases h1 : BigRight s L
  · rw [decide_eq_true h1] at hRL
    by_cases h2 : BigRight t M
    · rw [decide_eq_true h2] at hRM
      obtain ⟨x, rfl, rfl⟩ := (bigRight_iff _ _).1 h1
      obtain ⟨y, rfl, rfl⟩ := (bigRight_iff _ _).1 h2
      refine CallsTo.run [] Go.Proofs.Tryz.func51 rfl rfl ?_; conv => simp (maxSteps := 2000000) (disch := omega) only [go_sem, Nat.reduceAdd, Nat.reduceSub, Nat.reduceMul, Int.reduceToNat, Nat.reduceEqDiff, Nat.reduceBEq, Nat.reduceBneDiff, Go.Proofs.Tryz.f51, List.replicate]
      refine callk hRL ?_
      conv => simp (maxSteps := 2000000) (disch := omega) only [go_sem, Nat.reduceAdd, Nat.reduceSub, Nat.reduceMul, Int.reduceToNat, Nat.reduceEqDiff, Nat.reduceBEq, Nat.reduceBneDiff]
      refine callk hRM ?_
      conv => simp (maxSteps := 2000000) (disch := omega) only [go_sem, Nat.reduceAdd, Nat.reduceSub, Nat.reduceMul, Int.reduceToNat, Nat.reduceEqDiff, Nat.reduceBEq, Nat.reduceBneDiff]
      refine condd (fun h3 => ?_) (fun h3 => ?_)
      · have e := bad (fun h => by have := h.2.2.1; omega)
        subst e
        conv => simp (maxSteps := 2000000) (disch := omega) only [go_sem, Nat.reduceAdd, Nat.reduceSub, Nat.reduceMul, Int.reduceToNat, Nat.reduceEqDiff, Nat.reduceBEq, Nat.reduceBneDiff]
        exact ⟨_, rfl, .one (.refl _)⟩
      · have h3 : sg y = 1 := by have := sg_cases y; omega
        have hgl : okZ (Int.gcd x y : Int) := by
          have : (Int.gcd x y : Int).natAbs ≤ y.natAbs := by
            have hy : 0 < y.natAbs := by rcases sg_cases y with ⟨h, e⟩ | ⟨h, e⟩ | ⟨h, e⟩ <;> omega
            exact Nat.le_of_dvd hy (Nat.gcd_dvd_right _ _)
          exact Nat.le_trans (dig_len_le this) hM
        have e : r = decide (ord (Int.gcd x y : Int) 1 = 0) := by
          rw [hr]
          apply decide_eq_decide.2
          rw [ord_zero]
          show FracRight _ _ _ _ ↔ _
          unfold FracRight
          rw [sg_abs, sg_abs]
          constructor
          · exact fun h => by have := h.2.2.2; omega
          · exact fun h => ⟨h1, h2, h3, by omega⟩
        subst e
        have ho := rOf 1 (by decide)
        have hc := rCompareZ (Int.gcd x y : Int) 1 hgl (inI_ok (by decide))
        conv => simp (maxSteps := 2000000) (disch := omega) only [go_sem, Nat.reduceAdd, Nat.reduceSub, Nat.reduceMul, Int.reduceToNat, Nat.reduceEqDiff, Nat.reduceBEq, Nat.reduceBneDiff]
        refine callk (rGcdZ x y hL hM) ?_
        conv => simp (maxSteps := 2000000) (disch := omega) only [go_sem, Nat.reduceAdd, Nat.reduceSub, Nat.reduceMul, Int.reduceToNat, Nat.reduceEqDiff, Nat.reduceBEq, Nat.reduceBneDiff]
        refine callk ho ?_
        conv => simp (maxSteps := 2000000) (disch := omega) only [go_sem, Nat.reduceAdd, Nat.reduceSub, Nat.reduceMul, Int.reduceToNat, Nat.reduceEqDiff, Nat.reduceBEq, Nat.reduceBneDiff]
        refine callk hc ?_
        conv => simp (maxSteps := 2000000) (disch := omega) only [go_sem, Nat.reduceAdd, Nat.reduceSub, Nat.reduceMul, Int.reduceToNat, Nat.reduceEqDiff, Nat.reduceBEq, Nat.reduceBneDiff]
        refine indk (by kernel_rfl) ?_
        conv => simp (maxSteps := 2000000) (disch := omega) only [go_sem, Nat.reduceAdd, Nat.reduceSub, Nat.reduceMul, Int.reduceToNat, Nat.reduceEqDiff, Nat.reduceBEq, Nat.reduceBneDiff]
        exact ⟨_, rfl, .one (.refl _)⟩
    · have e := bad (fun h => h2 h.2.1)
      subst e
      rw [decide_eq_false h2] at hRM
      refine CallsTo.run [] Go.Proofs.Tryz.func51 rfl rfl ?_; conv => simp (maxSteps := 2000000) (disch := omega) only [go_sem, Nat.reduceAdd, Nat.reduceSub, Nat.reduceMul, Int.reduceToNat, Nat.reduceEqDiff, Nat.reduceBEq, Nat.reduceBneDiff, Go.Proofs.Tryz.f51, List.replicate]
      refine callk hRL ?_
      conv => simp (maxSteps := 2000000) (disch := omega) only [go_sem, Nat.reduceAdd, Nat.reduceSub, Nat.reduceMul, Int.reduceToNat, Nat.reduceEqDiff, Nat.reduceBEq, Nat.reduceBneDiff]
      refine callk hRM ?_
      conv => simp (maxSteps := 2000000) (disch := omega) only [go_sem, Nat.reduceAdd, Nat.reduceSub, Nat.reduceMul, Int.reduceToNat, Nat.reduceEqDiff, Nat.reduceBEq, Nat.reduceBneDiff]
      exact ⟨_, rfl, .one (.refl _)⟩
  · have e := bad (fun h => h1 h.1)
    subst e
    rw [decide_eq_false h1] at hRL
    refine CallsTo.run [] Go.Proofs.Tryz.func51 rfl rfl ?_; conv => simp (maxSteps := 2000000) (disch := omega) only [go_sem, Nat.reduceAdd, Nat.reduceSub, Nat.reduceMul, Int.reduceToNat, Nat.reduceEqDiff, Nat.reduceBEq, Nat.reduceBneDiff, Go.Proofs.Tryz.f51, List.replicate]
    refine callk hRL ?_
    conv => simp (maxSteps := 2000000) (disch := omega) only [go_sem, Nat.reduceAdd, Nat.reduceSub, Nat.reduceMul, Int.reduceToNat, Nat.reduceEqDiff, Nat.reduceBEq, Nat.reduceBneDiff]
    exact ⟨_, rfl, .one (.refl _)⟩
theorem rRightQ (r : Rat) (h : (Fc.of r).sz ≤ 268435456) : CallsTo prog 51 [.agg (Fc.of r).C] (.one (.raw (.bool true))) := by
  have := rRight05 (Fc.of r) h
  rwa [decide_eq_true (Fc.of_ok r)] at this
theorem rMulQ0 (x : Int) (d : Nat) (hx : okZ x) (hd : d ≠ 0) (hl : (dig d).length ≤ 268435456) :
    CallsTo prog 81 [.agg [.raw (.int .i64 (sg x)), .ints .i64 (dig x.natAbs)], .agg [.raw (.int .i64 1), .ints .i64 (dig d)]]
      (.tup [.agg [.raw (.int .i64 (sg (x * d))), .ints .i64 (dig (x * d).natAbs)], .one (.raw (.int .i64 0))]) := by
  have := rMulZ x (d : Int) hx hl
  rw [sg_nat hd] at this
  exact this
theorem rMulD (c d : Nat) (hc0 : c ≠ 0) (hd : d ≠ 0) (hc : (dig c).length ≤ 268435456) (hl : (dig d).length ≤ 268435456) :
    CallsTo prog 81 [.agg [.raw (.int .i64 1), .ints .i64 (dig c)], .agg [.raw (.int .i64 1), .ints .i64 (dig d)]]
      (.tup [.agg [.raw (.int .i64 1), .ints .i64 (dig (c * d))], .one (.raw (.int .i64 0))]) := by
  have := rMulQ0 (c : Int) d hc hd hl
  rw [sg_nat hc0, show (c : Int) * d = ((c * d : Nat) : Int) from (Int.natCast_mul c d).symm, sg_nat (Nat.mul_ne_zero hc0 hd)] at this
  exact this
theorem rAddQ (x y : Rat) (ha : (Fc.of x).sz ≤ 67108864) (hb : (Fc.of y).sz ≤ 67108864) :
    CallsTo prog 55 [.agg (Fc.of x).C, .agg (Fc.of y).C] (.tup [.agg (Fc.of (x + y)).C, .one (.raw (.int .i64 0))]) := by
  have lx := szO ha
  have ly := szO hb
  have l1 := len_mul x.num y.den
  have l2 := len_mul y.num x.den
  have l3 := len_add (x.num * y.den) (y.num * x.den)
  have l4 := dig_len_mul x.den y.den
  rw [Int.natAbs_natCast] at l1 l2
  rw [Rat.add_def']
  refine CallsTo.run [] Go.Proofs.Tryz.func55 rfl rfl ?_; conv => simp (maxSteps := 2000000) (disch := omega) only [go_sem, Nat.reduceAdd, Nat.reduceSub, Nat.reduceMul, Int.reduceToNat, Nat.reduceEqDiff, Nat.reduceBEq, Nat.reduceBneDiff, Go.Proofs.Tryz.f55, List.replicate]
  refine callk (rRightQ x (by omega)) ?_
  conv => simp (maxSteps := 2000000) (disch := omega) only [go_sem, Nat.reduceAdd, Nat.reduceSub, Nat.reduceMul, Int.reduceToNat, Nat.reduceEqDiff, Nat.reduceBEq, Nat.reduceBneDiff]
  refine callk (rRightQ y (by omega)) ?_
  conv => simp (maxSteps := 2000000) (disch := omega) only [go_sem, Nat.reduceAdd, Nat.reduceSub, Nat.reduceMul, Int.reduceToNat, Nat.reduceEqDiff, Nat.reduceBEq, Nat.reduceBneDiff]
  refine callk (rMulQ0 x.num y.den (by unfold okZ; omega) y.den_nz (by omega)) ?_
  conv => simp (maxSteps := 2000000) (disch := omega) only [go_sem, Nat.reduceAdd, Nat.reduceSub, Nat.reduceMul, Int.reduceToNat, Nat.reduceEqDiff, Nat.reduceBEq, Nat.reduceBneDiff]
  refine callk (rMulQ0 y.num x.den (by unfold okZ; omega) x.den_nz (by omega)) ?_
  conv => simp (maxSteps := 2000000) (disch := omega) only [go_sem, Nat.reduceAdd, Nat.reduceSub, Nat.reduceMul, Int.reduceToNat, Nat.reduceEqDiff, Nat.reduceBEq, Nat.reduceBneDiff]
  refine callk (rMulD x.den y.den x.den_nz y.den_nz (by omega) (by omega)) ?_
  conv => simp (maxSteps := 2000000) (disch := omega) only [go_sem, Nat.reduceAdd, Nat.reduceSub, Nat.reduceMul, Int.reduceToNat, Nat.reduceEqDiff, Nat.reduceBEq, Nat.reduceBneDiff]
  refine callk (rAddZ (x.num * y.den) (y.num * x.den) (by unfold okZ; omega) (by unfold okZ; omega)) ?_
  conv => simp (maxSteps := 2000000) (disch := omega) only [go_sem, Nat.reduceAdd, Nat.reduceSub, Nat.reduceMul, Int.reduceToNat, Nat.reduceEqDiff, Nat.reduceBEq, Nat.reduceBneDiff]
  refine callk (rNewQ (x.num * y.den + y.num * x.den) (x.den * y.den) (by unfold okZ; omega) (Nat.mul_ne_zero x.den_nz y.den_nz) (by omega)) ?_
  conv => simp (maxSteps := 2000000) (disch := omega) only [go_sem, Nat.reduceAdd, Nat.reduceSub, Nat.reduceMul, Int.reduceToNat, Nat.reduceEqDiff, Nat.reduceBEq, Nat.reduceBneDiff]
  exact ⟨_, rfl, .tup (.cons (.refl _) (.cons (.refl _) .nil))⟩
theorem rSubQ (x y : Rat) (ha : (Fc.of x).sz ≤ 67108864) (hb : (Fc.of y).sz ≤ 67108864) :
    CallsTo prog 53 [.agg (Fc.of x).C, .agg (Fc.of y).C] (.tup [.agg (Fc.of (x - y)).C, .one (.raw (.int .i64 0))]) := by
  have lx := szO ha
  have ly := szO hb
  have l1 := len_mul x.num y.den
  have l2 := len_mul y.num x.den
  have l3 := len_add (x.num * y.den) (-(y.num * x.den))
  have l4 := dig_len_mul x.den y.den
  rw [Int.natAbs_natCast] at l1 l2
  rw [Int.natAbs_neg, ← Int.sub_eq_add_neg] at l3
  rw [Rat.sub_def']
  refine CallsTo.run [] Go.Proofs.Tryz.func53 rfl rfl ?_; conv => simp (maxSteps := 2000000) (disch := omega) only [go_sem, Nat.reduceAdd, Nat.reduceSub, Nat.reduceMul, Int.reduceToNat, Nat.reduceEqDiff, Nat.reduceBEq, Nat.reduceBneDiff, Go.Proofs.Tryz.f53, List.replicate]
  refine callk (rRightQ x (by omega)) ?_
  conv => simp (maxSteps := 2000000) (disch := omega) only [go_sem, Nat.reduceAdd, Nat.reduceSub, Nat.reduceMul, Int.reduceToNat, Nat.reduceEqDiff, Nat.reduceBEq, Nat.reduceBneDiff]
  refine callk (rRightQ y (by omega)) ?_
  conv => simp (maxSteps := 2000000) (disch := omega) only [go_sem, Nat.reduceAdd, Nat.reduceSub, Nat.reduceMul, Int.reduceToNat, Nat.reduceEqDiff, Nat.reduceBEq, Nat.reduceBneDiff]
  refine callk (rMulQ0 x.num y.den (by unfold okZ; omega) y.den_nz (by omega)) ?_
  conv => simp (maxSteps := 2000000) (disch := omega) only [go_sem, Nat.reduceAdd, Nat.reduceSub, Nat.reduceMul, Int.reduceToNat, Nat.reduceEqDiff, Nat.reduceBEq, Nat.reduceBneDiff]
  refine callk (rMulQ0 y.num x.den (by unfold okZ; omega) x.den_nz (by omega)) ?_
  conv => simp (maxSteps := 2000000) (disch := omega) only [go_sem, Nat.reduceAdd, Nat.reduceSub, Nat.reduceMul, Int.reduceToNat, Nat.reduceEqDiff, Nat.reduceBEq, Nat.reduceBneDiff]
  refine callk (rMulD x.den y.den x.den_nz y.den_nz (by omega) (by omega)) ?_
  conv => simp (maxSteps := 2000000) (disch := omega) only [go_sem, Nat.reduceAdd, Nat.reduceSub, Nat.reduceMul, Int.reduceToNat, Nat.reduceEqDiff, Nat.reduceBEq, Nat.reduceBneDiff]
  refine callk (rSubZ (x.num * y.den) (y.num * x.den) (by unfold okZ; omega) (by unfold okZ; omega)) ?_
  conv => simp (maxSteps := 2000000) (disch := omega) only [go_sem, Nat.reduceAdd, Nat.reduceSub, Nat.reduceMul, Int.reduceToNat, Nat.reduceEqDiff, Nat.reduceBEq, Nat.reduceBneDiff]
  refine callk (rNewQ (x.num * y.den - y.num * x.den) (x.den * y.den) (by unfold okZ; omega) (Nat.mul_ne_zero x.den_nz y.den_nz) (by omega)) ?_
  conv => simp (maxSteps := 2000000) (disch := omega) only [go_sem, Nat.reduceAdd, Nat.reduceSub, Nat.reduceMul, Int.reduceToNat, Nat.reduceEqDiff, Nat.reduceBEq, Nat.reduceBneDiff]
  exact ⟨_, rfl, .tup (.cons (.refl _) (.cons (.refl _) .nil))⟩
theorem rMulQ (x y : Rat) (ha : (Fc.of x).sz ≤ 67108864) (hb : (Fc.of y).sz ≤ 67108864) :
    CallsTo prog 54 [.agg (Fc.of x).C, .agg (Fc.of y).C] (.tup [.agg (Fc.of (x * y)).C, .one (.raw (.int .i64 0))]) := by
  have lx := szO ha
  have ly := szO hb
  have l1 := len_mul x.num y.num
  have l4 := dig_len_mul x.den y.den
  rw [Rat.mul_def']
  refine CallsTo.run [] Go.Proofs.Tryz.func54 rfl rfl ?_; conv => simp (maxSteps := 2000000) (disch := omega) only [go_sem, Nat.reduceAdd, Nat.reduceSub, Nat.reduceMul, Int.reduceToNat, Nat.reduceEqDiff, Nat.reduceBEq, Nat.reduceBneDiff, Go.Proofs.Tryz.f54, List.replicate]
  refine callk (rRightQ x (by omega)) ?_
  conv => simp (maxSteps := 2000000) (disch := omega) only [go_sem, Nat.reduceAdd, Nat.reduceSub, Nat.reduceMul, Int.reduceToNat, Nat.reduceEqDiff, Nat.reduceBEq, Nat.reduceBneDiff]
  refine callk (rRightQ y (by omega)) ?_
  conv => simp (maxSteps := 2000000) (disch := omega) only [go_sem, Nat.reduceAdd, Nat.reduceSub, Nat.reduceMul, Int.reduceToNat, Nat.reduceEqDiff, Nat.reduceBEq, Nat.reduceBneDiff]
  refine callk (rMulZ x.num y.num (by unfold okZ; omega) (by unfold okZ; omega)) ?_
  conv => simp (maxSteps := 2000000) (disch := omega) only [go_sem, Nat.reduceAdd, Nat.reduceSub, Nat.reduceMul, Int.reduceToNat, Nat.reduceEqDiff, Nat.reduceBEq, Nat.reduceBneDiff]
  refine callk (rMulD x.den y.den x.den_nz y.den_nz (by omega) (by omega)) ?_
  conv => simp (maxSteps := 2000000) (disch := omega) only [go_sem, Nat.reduceAdd, Nat.reduceSub, Nat.reduceMul, Int.reduceToNat, Nat.reduceEqDiff, Nat.reduceBEq, Nat.reduceBneDiff]
  refine callk (rNewQ (x.num * y.num) (x.den * y.den) (by unfold okZ; omega) (Nat.mul_ne_zero x.den_nz y.den_nz) (by omega)) ?_
  conv => simp (maxSteps := 2000000) (disch := omega) only [go_sem, Nat.reduceAdd, Nat.reduceSub, Nat.reduceMul, Int.reduceToNat, Nat.reduceEqDiff, Nat.reduceBEq, Nat.reduceBneDiff]
  exact ⟨_, rfl, .tup (.cons (.refl _) (.cons (.refl _) .nil))⟩
theorem rNegQ (x : Rat) (ha : (Fc.of x).sz ≤ 67108864) : CallsTo prog 84 [.agg (Fc.of x).C] (.agg (Fc.of (-x)).C) := by
  have lx := szO ha
  refine CallsTo.run [] Go.Proofs.Tryz.func84 rfl rfl ?_; conv => simp (maxSteps := 2000000) (disch := omega) only [go_sem, Nat.reduceAdd, Nat.reduceSub, Nat.reduceMul, Int.reduceToNat, Nat.reduceEqDiff, Nat.reduceBEq, Nat.reduceBneDiff, Go.Proofs.Tryz.f84, List.replicate]
  refine callk (rRightQ x (by omega)) ?_
  conv => simp (maxSteps := 2000000) (disch := omega) only [go_sem, Nat.reduceAdd, Nat.reduceSub, Nat.reduceMul, Int.reduceToNat, Nat.reduceEqDiff, Nat.reduceBEq, Nat.reduceBneDiff]
  refine callk (rNegZ x.num (by unfold okZ; omega)) ?_
  conv => simp (maxSteps := 2000000) (disch := omega) only [go_sem, Nat.reduceAdd, Nat.reduceSub, Nat.reduceMul, Int.reduceToNat, Nat.reduceEqDiff, Nat.reduceBEq, Nat.reduceBneDiff]
  refine indk (by kernel_rfl) ?_
  conv => simp (maxSteps := 2000000) (disch := omega) only [go_sem, Nat.reduceAdd, Nat.reduceSub, Nat.reduceMul, Int.reduceToNat, Nat.reduceEqDiff, Nat.reduceBEq, Nat.reduceBneDiff]
  exact ⟨_, rfl, .one (.refl _)⟩
theorem rSignQ (x : Rat) (ha : (Fc.of x).sz ≤ 67108864) : CallsTo prog 52 [.agg (Fc.of x).C] (.one (.raw (.int .i64 (sg x.num)))) := by
  refine CallsTo.run [] Go.Proofs.Tryz.func52 rfl rfl ?_; conv => simp (maxSteps := 2000000) (disch := omega) only [go_sem, Nat.reduceAdd, Nat.reduceSub, Nat.reduceMul, Int.reduceToNat, Nat.reduceEqDiff, Nat.reduceBEq, Nat.reduceBneDiff, Go.Proofs.Tryz.f52, List.replicate]
  refine callk (rRightQ x (by omega)) ?_
  conv => simp (maxSteps := 2000000) (disch := omega) only [go_sem, Nat.reduceAdd, Nat.reduceSub, Nat.reduceMul, Int.reduceToNat, Nat.reduceEqDiff, Nat.reduceBEq, Nat.reduceBneDiff]
  exact ⟨_, rfl, .one (.refl _)⟩
theorem rCmpQ (x y : Rat) (ha : (Fc.of x).sz ≤ 67108864) (hb : (Fc.of y).sz ≤ 67108864) :
    CallsTo prog 41 [.agg (Fc.of x).C, .agg (Fc.of y).C] (.one (.raw (.int .i64 (Fc.ordQ x y)))) := by
  have lx := szO ha
  have ly := szO hb
  have l1 := len_mul x.num y.den
  have l2 := len_mul y.num x.den
  rw [Int.natAbs_natCast] at l1 l2
  rw [← Fc.ordQ_int]
  refine CallsTo.run [] Go.Proofs.Tryz.func41 rfl rfl ?_; conv => simp (maxSteps := 2000000) (disch := omega) only [go_sem, Nat.reduceAdd, Nat.reduceSub, Nat.reduceMul, Int.reduceToNat, Nat.reduceEqDiff, Nat.reduceBEq, Nat.reduceBneDiff, Go.Proofs.Tryz.f41, List.replicate]
  refine callk (rRightQ x (by omega)) ?_
  conv => simp (maxSteps := 2000000) (disch := omega) only [go_sem, Nat.reduceAdd, Nat.reduceSub, Nat.reduceMul, Int.reduceToNat, Nat.reduceEqDiff, Nat.reduceBEq, Nat.reduceBneDiff]
  refine callk (rRightQ y (by omega)) ?_
  conv => simp (maxSteps := 2000000) (disch := omega) only [go_sem, Nat.reduceAdd, Nat.reduceSub, Nat.reduceMul, Int.reduceToNat, Nat.reduceEqDiff, Nat.reduceBEq, Nat.reduceBneDiff]
  refine callk (rMulQ0 x.num y.den (by unfold okZ; omega) y.den_nz (by omega)) ?_
  conv => simp (maxSteps := 2000000) (disch := omega) only [go_sem, Nat.reduceAdd, Nat.reduceSub, Nat.reduceMul, Int.reduceToNat, Nat.reduceEqDiff, Nat.reduceBEq, Nat.reduceBneDiff]
  refine callk (rMulQ0 y.num x.den (by unfold okZ; omega) x.den_nz (by omega)) ?_
  conv => simp (maxSteps := 2000000) (disch := omega) only [go_sem, Nat.reduceAdd, Nat.reduceSub, Nat.reduceMul, Int.reduceToNat, Nat.reduceEqDiff, Nat.reduceBEq, Nat.reduceBneDiff]
  refine callk (rCompareZ (x.num * y.den) (y.num * x.den) (by unfold okZ; omega) (by unfold okZ; omega)) ?_
  conv => simp (maxSteps := 2000000) (disch := omega) only [go_sem, Nat.reduceAdd, Nat.reduceSub, Nat.reduceMul, Int.reduceToNat, Nat.reduceEqDiff, Nat.reduceBEq, Nat.reduceBneDiff]
  exact ⟨_, rfl, .one (.refl _)⟩
end Go.Slot.T

/- Contracts of packages kitbagref05 (as data), kitbagref10 (Right, Width), kitbagref19 (Point, Right, At). -/
namespace Go.Slot.T
open Go Go.RowKit Go.Slot
open Go.Proofs.Tryz (prog)
set_option maxRecDepth 10000
set_option maxHeartbeats 4000000

theorem rRightT (f : Fc) (h : f.sz ≤ 268435456) (hb : f.ok) : CallsTo prog 51 [.agg f.C] (.one (.raw (.bool true))) := by
  have := rRight05 f h
  rwa [decide_eq_true hb] at this
theorem rRightN (f : Fc) (h : f.sz ≤ 268435456) (hb : ¬ f.ok) : CallsTo prog 51 [.agg f.C] (.one (.raw (.bool false))) := by
  have := rRight05 f h
  rwa [decide_eq_false hb] at this
theorem rAddF (a b : Fc) (h1 : a.ok) (h2 : b.ok) (ha : a.sz ≤ 67108864) (hb : b.sz ≤ 67108864) :
    CallsTo prog 55 [.agg a.C, .agg b.C] (.tup [.agg (Fc.add a b).C, .one (.raw (.int .i64 0))]) := by
  obtain ⟨x, rfl⟩ := Fc.ok_ex h1
  obtain ⟨y, rfl⟩ := Fc.ok_ex h2
  rw [Fc.add_of]
  exact rAddQ x y ha hb
theorem rSubF (a b : Fc) (h1 : a.ok) (h2 : b.ok) (ha : a.sz ≤ 67108864) (hb : b.sz ≤ 67108864) :
    CallsTo prog 53 [.agg a.C, .agg b.C] (.tup [.agg (Fc.sub a b).C, .one (.raw (.int .i64 0))]) := by
  obtain ⟨x, rfl⟩ := Fc.ok_ex h1
  obtain ⟨y, rfl⟩ := Fc.ok_ex h2
  rw [Fc.sub_of]
  exact rSubQ x y ha hb
theorem rMulF (a b : Fc) (h1 : a.ok) (h2 : b.ok) (ha : a.sz ≤ 67108864) (hb : b.sz ≤ 67108864) :
    CallsTo prog 54 [.agg a.C, .agg b.C] (.tup [.agg (Fc.mul a b).C, .one (.raw (.int .i64 0))]) := by
  obtain ⟨x, rfl⟩ := Fc.ok_ex h1
  obtain ⟨y, rfl⟩ := Fc.ok_ex h2
  rw [Fc.mul_of]
  exact rMulQ x y ha hb
theorem rNegF (a : Fc) (h1 : a.ok) (ha : a.sz ≤ 67108864) : CallsTo prog 84 [.agg a.C] (.agg (Fc.neg a).C) := by
  obtain ⟨x, rfl⟩ := Fc.ok_ex h1
  rw [Fc.neg_of]
  exact rNegQ x ha
theorem rSignF (a : Fc) (h1 : a.ok) (ha : a.sz ≤ 67108864) : CallsTo prog 52 [.agg a.C] (.one (.raw (.int .i64 (Fc.sign a)))) := by
  obtain ⟨x, rfl⟩ := Fc.ok_ex h1
  rw [Fc.sign_of]
  exact rSignQ x ha
theorem rCmpF (a b : Fc) (h1 : a.ok) (h2 : b.ok) (ha : a.sz ≤ 67108864) (hb : b.sz ≤ 67108864) :
    CallsTo prog 41 [.agg a.C, .agg b.C] (.one (.raw (.int .i64 (Fc.cmp a b)))) := by
  obtain ⟨x, rfl⟩ := Fc.ok_ex h1
  obtain ⟨y, rfl⟩ := Fc.ok_ex h2
  rw [Fc.cmp_of]
  exact rCmpQ x y ha hb
theorem r10Right (s : Sc) (h : s.sz ≤ 67108864) : CallsTo prog 71 [.agg s.C] (.one (.raw (.bool (decide s.ok)))) := by
  have ⟨hl, hh⟩ := Sc.low_sz h
  by_cases h1 : s.low.ok
  · by_cases h2 : s.high.ok
    · rw [show decide s.ok = decide (Fc.cmp s.low s.high ≤ 0) from decide_eq_decide.2 ⟨fun h => h.2.2, fun h => ⟨h1, h2, h⟩⟩]
      refine CallsTo.run [] Go.Proofs.Tryz.func71 rfl rfl ?_; conv => simp (maxSteps := 2000000) (disch := omega) only [go_sem, Nat.reduceAdd, Nat.reduceSub, Nat.reduceMul, Int.reduceToNat, Nat.reduceEqDiff, Nat.reduceBEq, Nat.reduceBneDiff, Go.Proofs.Tryz.f71, List.replicate]
      refine callk (rRightT s.low (by omega) h1) ?_
      conv => simp (maxSteps := 2000000) (disch := omega) only [go_sem, Nat.reduceAdd, Nat.reduceSub, Nat.reduceMul, Int.reduceToNat, Nat.reduceEqDiff, Nat.reduceBEq, Nat.reduceBneDiff]
      refine callk (rRightT s.high (by omega) h2) ?_
      conv => simp (maxSteps := 2000000) (disch := omega) only [go_sem, Nat.reduceAdd, Nat.reduceSub, Nat.reduceMul, Int.reduceToNat, Nat.reduceEqDiff, Nat.reduceBEq, Nat.reduceBneDiff]
      refine callk (rCmpF s.low s.high h1 h2 hl hh) ?_
      conv => simp (maxSteps := 2000000) (disch := omega) only [go_sem, Nat.reduceAdd, Nat.reduceSub, Nat.reduceMul, Int.reduceToNat, Nat.reduceEqDiff, Nat.reduceBEq, Nat.reduceBneDiff]
      exact ⟨_, rfl, .one (.refl _)⟩
    · rw [decide_eq_false (fun h => h2 h.2.1)]
      refine CallsTo.run [] Go.Proofs.Tryz.func71 rfl rfl ?_; conv => simp (maxSteps := 2000000) (disch := omega) only [go_sem, Nat.reduceAdd, Nat.reduceSub, Nat.reduceMul, Int.reduceToNat, Nat.reduceEqDiff, Nat.reduceBEq, Nat.reduceBneDiff, Go.Proofs.Tryz.f71, List.replicate]
      refine callk (rRightT s.low (by omega) h1) ?_
      conv => simp (maxSteps := 2000000) (disch := omega) only [go_sem, Nat.reduceAdd, Nat.reduceSub, Nat.reduceMul, Int.reduceToNat, Nat.reduceEqDiff, Nat.reduceBEq, Nat.reduceBneDiff]
      refine callk (rRightN s.high (by omega) h2) ?_
      conv => simp (maxSteps := 2000000) (disch := omega) only [go_sem, Nat.reduceAdd, Nat.reduceSub, Nat.reduceMul, Int.reduceToNat, Nat.reduceEqDiff, Nat.reduceBEq, Nat.reduceBneDiff]
      exact ⟨_, rfl, .one (.refl _)⟩
  · rw [decide_eq_false (fun h => h1 h.1)]
    refine CallsTo.run [] Go.Proofs.Tryz.func71 rfl rfl ?_; conv => simp (maxSteps := 2000000) (disch := omega) only [go_sem, Nat.reduceAdd, Nat.reduceSub, Nat.reduceMul, Int.reduceToNat, Nat.reduceEqDiff, Nat.reduceBEq, Nat.reduceBneDiff, Go.Proofs.Tryz.f71, List.replicate]
    refine callk (rRightN s.low (by omega) h1) ?_
    conv => simp (maxSteps := 2000000) (disch := omega) only [go_sem, Nat.reduceAdd, Nat.reduceSub, Nat.reduceMul, Int.reduceToNat, Nat.reduceEqDiff, Nat.reduceBEq, Nat.reduceBneDiff]
    exact ⟨_, rfl, .one (.refl _)⟩
theorem r10Width (s : Sc) (h : s.sz ≤ 67108864) (h1 : s.ok) : CallsTo prog 83 [.agg s.C] (.agg (Sc.width s).C) := by
  have ⟨hl, hh⟩ := Sc.low_sz h
  have hr := r10Right s h
  rw [decide_eq_true h1] at hr
  rw [show Sc.width s = Fc.sub s.high s.low from if_pos h1]
  refine CallsTo.run [] Go.Proofs.Tryz.func83 rfl rfl ?_; conv => simp (maxSteps := 2000000) (disch := omega) only [go_sem, Nat.reduceAdd, Nat.reduceSub, Nat.reduceMul, Int.reduceToNat, Nat.reduceEqDiff, Nat.reduceBEq, Nat.reduceBneDiff, Go.Proofs.Tryz.f83, List.replicate]
  refine callk hr ?_
  conv => simp (maxSteps := 2000000) (disch := omega) only [go_sem, Nat.reduceAdd, Nat.reduceSub, Nat.reduceMul, Int.reduceToNat, Nat.reduceEqDiff, Nat.reduceBEq, Nat.reduceBneDiff]
  refine callk (rSubF s.high s.low h1.2.1 h1.1 hh hl) ?_
  conv => simp (maxSteps := 2000000) (disch := omega) only [go_sem, Nat.reduceAdd, Nat.reduceSub, Nat.reduceMul, Int.reduceToNat, Nat.reduceEqDiff, Nat.reduceBEq, Nat.reduceBneDiff]
  exact ⟨_, rfl, .one (.refl _)⟩
theorem oks_get {l : List Fc} (h : oks l) {i : Nat} (hi : i < l.length) : (l.getD i Fc.zero).ok := h _ (by simp [hi])
theorem okS_get {l : List Sc} (h : okS l) {i : Nat} (hi : i < l.length) : (l.getD i Sc.zero).ok := h _ (by simp [hi])
theorem r19Point (l : List Fc) (hl : l.length ≤ 1048576) (hs : ∀ f ∈ l, f.sz ≤ 67108864) :
    CallsTo prog 73 [.one (.sl 4 (l.map Fc.C))] (.one (.raw (.bool (decide (oks l))))) := by
  obtain ⟨r, hr⟩ : ∃ r, r = decide (oks l) := ⟨_, rfl⟩
  rw [← hr]
  have bad : ¬ oks l → false = r := fun h => by rw [hr, decide_eq_false h]
  refine CallsTo.run [] Go.Proofs.Tryz.func73 rfl rfl ?_; conv => simp (maxSteps := 2000000) (disch := omega) only [go_sem, Nat.reduceAdd, Nat.reduceSub, Nat.reduceMul, Int.reduceToNat, Nat.reduceEqDiff, Nat.reduceBEq, Nat.reduceBneDiff, Go.Proofs.Tryz.f73, List.replicate]
  refine loopo [0] (fun i : Nat => [(3, .one (.raw (.int .i64 i)))]) (fun i => i ≤ l.length ∧ ∀ f ∈ l.take i, f.ok) (fun i => l.length - i) 0 ⟨Nat.zero_le _, by simp⟩ ?_ ?_
  · conv => simp (maxSteps := 2000000) (disch := omega) only [go_sem, Nat.reduceAdd, Nat.reduceSub, Nat.reduceMul, Int.reduceToNat, Nat.reduceEqDiff, Nat.reduceBEq, Nat.reduceBneDiff]
    exact StLe.weaken (by repeat' first | exact .nil | refine .cons (by first | exact .refl _ | exact .any _) ?_) rfl
  rintro i ⟨hi, he⟩
  conv => simp (maxSteps := 2000000) (disch := omega) only [go_sem, Nat.reduceAdd, Nat.reduceSub, Nat.reduceMul, Int.reduceToNat, Nat.reduceEqDiff, Nat.reduceBEq, Nat.reduceBneDiff]
  refine condd (fun h2 => ?_) (fun h2 => ?_)
  · have hi1 : i < l.length := by omega
    have hb := getD_sz hs hi1
    by_cases h3 : (l.getD i Fc.zero).ok
    · conv => simp (maxSteps := 2000000) (disch := omega) only [go_sem, Nat.reduceAdd, Nat.reduceSub, Nat.reduceMul, Int.reduceToNat, Nat.reduceEqDiff, Nat.reduceBEq, Nat.reduceBneDiff]
      refine callk (rRightT (l.getD i Fc.zero) (by omega) h3) ?_
      conv => simp (maxSteps := 2000000) (disch := omega) only [go_sem, Nat.reduceAdd, Nat.reduceSub, Nat.reduceMul, Int.reduceToNat, Nat.reduceEqDiff, Nat.reduceBEq, Nat.reduceBneDiff]
      exact ⟨i + 1, ⟨by omega, all_take Fc.zero he hi1 h3⟩, by omega, StLe.weaken (by repeat' first | exact .nil | refine .cons (by first | exact .refl _ | exact .any _) ?_) rfl⟩
    · conv => simp (maxSteps := 2000000) (disch := omega) only [go_sem, Nat.reduceAdd, Nat.reduceSub, Nat.reduceMul, Int.reduceToNat, Nat.reduceEqDiff, Nat.reduceBEq, Nat.reduceBneDiff]
      refine callk (rRightN (l.getD i Fc.zero) (by omega) h3) ?_
      conv => simp (maxSteps := 2000000) (disch := omega) only [go_sem, Nat.reduceAdd, Nat.reduceSub, Nat.reduceMul, Int.reduceToNat, Nat.reduceEqDiff, Nat.reduceBEq, Nat.reduceBneDiff]
      exact ⟨_, rfl, by rw [bad (fun h => h3 (oks_get h hi1))]; exact .one (.refl _)⟩
  · have hi' : i = l.length := by omega
    rw [hi', List.take_length] at he
    conv => simp (maxSteps := 2000000) (disch := omega) only [go_sem, Nat.reduceAdd, Nat.reduceSub, Nat.reduceMul, Int.reduceToNat, Nat.reduceEqDiff, Nat.reduceBEq, Nat.reduceBneDiff]
    exact ⟨_, rfl, by rw [hr, decide_eq_true (show oks l from he)]; exact .one (.refl _)⟩
theorem r19Right (a : Af) (n : Nat) (hl : a.l.length ≤ 1048576) (_hn : n ≤ 1048576) (hs : a.le 67108864) :
    CallsTo prog 72 [.agg a.C, .one (.raw (.int .i64 n))] (.one (.raw (.bool (decide (a.ok n))))) := by
  have hp := r19Point a.l hl hs.2
  have hc := hs.1
  by_cases h1 : a.c.ok
  · by_cases h2 : (a.l.length : Int) = n
    · have h2' := decide_eq_true h2
      rw [show decide (oks a.l) = decide (a.ok n) from decide_eq_decide.2 ⟨fun h => ⟨by omega, h1, h⟩, fun h => h.2.2⟩] at hp
      refine CallsTo.run [] Go.Proofs.Tryz.func72 rfl rfl ?_; conv => simp (maxSteps := 2000000) (disch := omega) only [go_sem, Nat.reduceAdd, Nat.reduceSub, Nat.reduceMul, Int.reduceToNat, Nat.reduceEqDiff, Nat.reduceBEq, Nat.reduceBneDiff, Go.Proofs.Tryz.f72, List.replicate]
      refine callk (rRightT a.c (by omega) h1) ?_
      conv => simp (maxSteps := 2000000) (disch := omega) only [go_sem, Nat.reduceAdd, Nat.reduceSub, Nat.reduceMul, Int.reduceToNat, Nat.reduceEqDiff, Nat.reduceBEq, Nat.reduceBneDiff, h2']
      refine callk hp ?_
      conv => simp (maxSteps := 2000000) (disch := omega) only [go_sem, Nat.reduceAdd, Nat.reduceSub, Nat.reduceMul, Int.reduceToNat, Nat.reduceEqDiff, Nat.reduceBEq, Nat.reduceBneDiff]
      exact ⟨_, rfl, .one (.refl _)⟩
    · have h2' := decide_eq_false h2
      rw [decide_eq_false (fun h => h2 (by rw [h.1]))]
      refine CallsTo.run [] Go.Proofs.Tryz.func72 rfl rfl ?_; conv => simp (maxSteps := 2000000) (disch := omega) only [go_sem, Nat.reduceAdd, Nat.reduceSub, Nat.reduceMul, Int.reduceToNat, Nat.reduceEqDiff, Nat.reduceBEq, Nat.reduceBneDiff, Go.Proofs.Tryz.f72, List.replicate]
      refine callk (rRightT a.c (by omega) h1) ?_
      conv => simp (maxSteps := 2000000) (disch := omega) only [go_sem, Nat.reduceAdd, Nat.reduceSub, Nat.reduceMul, Int.reduceToNat, Nat.reduceEqDiff, Nat.reduceBEq, Nat.reduceBneDiff, h2']
      exact ⟨_, rfl, .one (.refl _)⟩
  · rw [decide_eq_false (fun h => h1 h.2.1)]
    refine CallsTo.run [] Go.Proofs.Tryz.func72 rfl rfl ?_; conv => simp (maxSteps := 2000000) (disch := omega) only [go_sem, Nat.reduceAdd, Nat.reduceSub, Nat.reduceMul, Int.reduceToNat, Nat.reduceEqDiff, Nat.reduceBEq, Nat.reduceBneDiff, Go.Proofs.Tryz.f72, List.replicate]
    refine callk (rRightN a.c (by omega) h1) ?_
    conv => simp (maxSteps := 2000000) (disch := omega) only [go_sem, Nat.reduceAdd, Nat.reduceSub, Nat.reduceMul, Int.reduceToNat, Nat.reduceEqDiff, Nat.reduceBEq, Nat.reduceBneDiff]
    exact ⟨_, rfl, .one (.refl _)⟩
theorem mul_swap (a b : Fc) : Fc.mul a b = Fc.mul b a := by
  unfold Fc.mul Fc.op2
  by_cases h : a.ok ∧ b.ok
  · rw [if_pos h, if_pos h.symm]; dsimp only; rw [Rat.mul_comm]
  · rw [if_neg h, if_neg (fun e => h e.symm)]
theorem add_swap (a b : Fc) : Fc.add a b = Fc.add b a := by
  unfold Fc.add Fc.op2
  by_cases h : a.ok ∧ b.ok
  · rw [if_pos h, if_pos h.symm]; dsimp only; rw [Rat.add_comm]
  · rw [if_neg h, if_neg (fun e => h e.symm)]
theorem copy_ok {a : Fc} (h : a.ok) : Af.copy a = a := by
  obtain ⟨x, rfl⟩ := Fc.ok_ex h
  exact Af.copy_of x
theorem r19At (a : Af) (v : List Fc) (h1 : a.ok v.length) (h2 : oks v) (hv : v.length ≤ 1024) (hs : a.le 16384) (hsv : ∀ f ∈ v, f.sz ≤ 16384) :
    CallsTo prog 33 [.agg a.C, .one (.sl 4 (v.map Fc.C))] (.tup [.agg (a.at' v).C, .one (.raw (.bool true))]) := by
  have hs' : a.le 67108864 := ⟨by have := hs.1; omega, fun f hf => by have := hs.2 f hf; omega⟩
  have hsv' : ∀ f ∈ v, f.sz ≤ 67108864 := fun f hf => by have := hsv f hf; omega
  have hlen := h1.1
  have hr := r19Right a v.length (by omega) (by omega) hs'
  have hw := r19Point v (by omega) hsv'
  rw [decide_eq_true h1] at hr
  rw [decide_eq_true h2] at hw
  rw [show a.at' v = Af.sum (Af.copy a.c) a.l v from if_pos ⟨h1, h2⟩, copy_ok h1.2.1]
  have hc1 := hs.1
  refine CallsTo.run [] Go.Proofs.Tryz.func33 rfl rfl ?_; conv => simp (maxSteps := 2000000) (disch := omega) only [go_sem, Nat.reduceAdd, Nat.reduceSub, Nat.reduceMul, Int.reduceToNat, Nat.reduceEqDiff, Nat.reduceBEq, Nat.reduceBneDiff, Go.Proofs.Tryz.f33, List.replicate]
  refine callk hr ?_
  conv => simp (maxSteps := 2000000) (disch := omega) only [go_sem, Nat.reduceAdd, Nat.reduceSub, Nat.reduceMul, Int.reduceToNat, Nat.reduceEqDiff, Nat.reduceBEq, Nat.reduceBneDiff]
  refine callk hw ?_
  conv => simp (maxSteps := 2000000) (disch := omega) only [go_sem, Nat.reduceAdd, Nat.reduceSub, Nat.reduceMul, Int.reduceToNat, Nat.reduceEqDiff, Nat.reduceBEq, Nat.reduceBneDiff]
  refine loopo [1, 2, 4] (fun x : Nat × Fc => [(6, .box x.2.C), (7, .one (.raw (.int .i64 x.1)))])
    (fun x => x.1 ≤ v.length ∧ x.2.ok ∧ x.2.sz ≤ 16384 + x.1 * 32769 ∧ Af.sum a.c a.l v = Af.sum x.2 (a.l.drop x.1) (v.drop x.1)) (fun x => v.length - x.1) (0, a.c) ⟨Nat.zero_le _, h1.2.1, by dsimp only; omega, rfl⟩ ?_ ?_
  · conv => simp (maxSteps := 2000000) (disch := omega) only [go_sem, Nat.reduceAdd, Nat.reduceSub, Nat.reduceMul, Int.reduceToNat, Nat.reduceEqDiff, Nat.reduceBEq, Nat.reduceBneDiff]
    exact StLe.weaken (by repeat' first | exact .nil | refine .cons (by first | exact .refl _ | exact .any _) ?_) rfl
  rintro ⟨i, s⟩ ⟨hi, hok, hss, he⟩
  simp only at hi hok hss he
  conv => simp (maxSteps := 2000000) (disch := omega) only [go_sem, Nat.reduceAdd, Nat.reduceSub, Nat.reduceMul, Int.reduceToNat, Nat.reduceEqDiff, Nat.reduceBEq, Nat.reduceBneDiff]
  refine condd (fun h => ?_) (fun h => ?_)
  · have hi1 : i < v.length := by omega
    have hi2 : i < a.l.length := by omega
    have hb1 := getD_sz hs.2 hi2
    have hb2 := getD_sz hsv hi1
    have o1 := oks_get h1.2.2 hi2
    have o2 := oks_get h2 hi1
    rw [drop_cons Fc.zero hi2, drop_cons Fc.zero hi1] at he
    have he : Af.sum a.c a.l v = Af.sum (Fc.add s (Fc.mul (a.l.getD i Fc.zero) (v.getD i Fc.zero))) (a.l.drop (i + 1)) (v.drop (i + 1)) := he
    rw [mul_swap, add_swap] at he
    have hm := Fc.sz_mul (v.getD i Fc.zero) (a.l.getD i Fc.zero)
    have ha := Fc.sz_add (Fc.mul (v.getD i Fc.zero) (a.l.getD i Fc.zero)) s
    have hi3 : i * 32769 ≤ 1024 * 32769 := Nat.mul_le_mul_right _ (by omega)
    have om := Fc.mul_ok.2 ⟨o2, o1⟩
    conv => simp (maxSteps := 2000000) (disch := omega) only [go_sem, Nat.reduceAdd, Nat.reduceSub, Nat.reduceMul, Int.reduceToNat, Nat.reduceEqDiff, Nat.reduceBEq, Nat.reduceBneDiff]
    refine callk (rMulF (v.getD i Fc.zero) (a.l.getD i Fc.zero) o2 o1 (by omega) (by omega)) ?_
    conv => simp (maxSteps := 2000000) (disch := omega) only [go_sem, Nat.reduceAdd, Nat.reduceSub, Nat.reduceMul, Int.reduceToNat, Nat.reduceEqDiff, Nat.reduceBEq, Nat.reduceBneDiff]
    refine indk (by kernel_rfl) ?_
    conv => simp (maxSteps := 2000000) (disch := omega) only [go_sem, Nat.reduceAdd, Nat.reduceSub, Nat.reduceMul, Int.reduceToNat, Nat.reduceEqDiff, Nat.reduceBEq, Nat.reduceBneDiff]
    refine callk (rAddF (Fc.mul (v.getD i Fc.zero) (a.l.getD i Fc.zero)) s om hok (by omega) (by omega)) ?_
    conv => simp (maxSteps := 2000000) (disch := omega) only [go_sem, Nat.reduceAdd, Nat.reduceSub, Nat.reduceMul, Int.reduceToNat, Nat.reduceEqDiff, Nat.reduceBEq, Nat.reduceBneDiff]
    exact ⟨(i + 1, Fc.add (Fc.mul (v.getD i Fc.zero) (a.l.getD i Fc.zero)) s), ⟨by dsimp only; omega, Fc.add_ok.2 ⟨om, hok⟩, by dsimp only; omega, he⟩, by dsimp only; omega, StLe.weaken (by repeat' first | exact .nil | refine .cons (by first | exact .refl _ | exact .any _) ?_) rfl⟩
  · have hi' : i = v.length := by omega
    rw [hi', List.drop_length] at he
    have he : Af.sum a.c a.l v = s := by rw [he]; cases List.drop v.length a.l <;> rfl
    conv => simp (maxSteps := 2000000) (disch := omega) only [go_sem, Nat.reduceAdd, Nat.reduceSub, Nat.reduceMul, Int.reduceToNat, Nat.reduceEqDiff, Nat.reduceBEq, Nat.reduceBneDiff]
    exact ⟨_, rfl, by rw [he]; exact .tup (.cons (.refl _) (.cons (.refl _) .nil))⟩
end Go.Slot.T

/- Contracts of package kitbagref46: Right, corner, Bounds, Swing, Narrow, Least. -/
namespace Go.Slot.T
open Go Go.RowKit Go.Slot
open Go.Proofs.Tryz (prog)
set_option maxRecDepth 10000
set_option maxHeartbeats 4000000

theorem r46Right (f : Af) (l : List Sc) (hs : small f l) : CallsTo prog 32 [.agg f.C, .one (.sl 8 (l.map Sc.C))] (.one (.raw (.bool (decide (Bk.ok f l))))) := by
  obtain ⟨h1, h2, h3, h4⟩ := hs
  have hr := r19Right f l.length (by omega) (by omega) (le_mono h3 (by omega))
  obtain ⟨r, hr'⟩ : ∃ r, r = decide (Bk.ok f l) := ⟨_, rfl⟩
  rw [← hr']
  have bad : ¬ Bk.ok f l → false = r := fun h => by rw [hr', decide_eq_false h]
  refine CallsTo.run [] Go.Proofs.Tryz.func32 rfl rfl ?_; conv => simp (maxSteps := 2000000) (disch := omega) only [go_sem, Nat.reduceAdd, Nat.reduceSub, Nat.reduceMul, Int.reduceToNat, Nat.reduceEqDiff, Nat.reduceBEq, Nat.reduceBneDiff, Go.Proofs.Tryz.f32, List.replicate]
  refine loopo [1, 2] (fun i : Nat => [(5, .one (.raw (.int .i64 i)))]) (fun i => i ≤ l.length ∧ ∀ s ∈ l.take i, s.ok) (fun i => l.length - i) 0 ⟨Nat.zero_le _, by simp⟩ ?_ ?_
  · conv => simp (maxSteps := 2000000) (disch := omega) only [go_sem, Nat.reduceAdd, Nat.reduceSub, Nat.reduceMul, Int.reduceToNat, Nat.reduceEqDiff, Nat.reduceBEq, Nat.reduceBneDiff]
    exact StLe.weaken (by repeat' first | exact .nil | refine .cons (by first | exact .refl _ | exact .any _) ?_) rfl
  rintro i ⟨hi, he⟩
  conv => simp (maxSteps := 2000000) (disch := omega) only [go_sem, Nat.reduceAdd, Nat.reduceSub, Nat.reduceMul, Int.reduceToNat, Nat.reduceEqDiff, Nat.reduceBEq, Nat.reduceBneDiff]
  refine condd (fun h5 => ?_) (fun h5 => ?_)
  · have hi1 : i < l.length := by omega
    have hb := getS_sz h4 hi1
    have hR := r10Right (l.getD i Sc.zero) (by omega)
    by_cases h6 : (l.getD i Sc.zero).ok
    · rw [decide_eq_true h6] at hR
      conv => simp (maxSteps := 2000000) (disch := omega) only [go_sem, Nat.reduceAdd, Nat.reduceSub, Nat.reduceMul, Int.reduceToNat, Nat.reduceEqDiff, Nat.reduceBEq, Nat.reduceBneDiff]
      refine callk hR ?_
      conv => simp (maxSteps := 2000000) (disch := omega) only [go_sem, Nat.reduceAdd, Nat.reduceSub, Nat.reduceMul, Int.reduceToNat, Nat.reduceEqDiff, Nat.reduceBEq, Nat.reduceBneDiff]
      exact ⟨i + 1, ⟨by omega, all_take Sc.zero he hi1 h6⟩, by omega, StLe.weaken (by repeat' first | exact .nil | refine .cons (by first | exact .refl _ | exact .any _) ?_) rfl⟩
    · rw [decide_eq_false h6] at hR
      conv => simp (maxSteps := 2000000) (disch := omega) only [go_sem, Nat.reduceAdd, Nat.reduceSub, Nat.reduceMul, Int.reduceToNat, Nat.reduceEqDiff, Nat.reduceBEq, Nat.reduceBneDiff]
      refine callk hR ?_
      conv => simp (maxSteps := 2000000) (disch := omega) only [go_sem, Nat.reduceAdd, Nat.reduceSub, Nat.reduceMul, Int.reduceToNat, Nat.reduceEqDiff, Nat.reduceBEq, Nat.reduceBneDiff]
      exact ⟨_, rfl, by rw [bad (fun h => h6 (okS_get h.2 hi1))]; exact .one (.refl _)⟩
  · have hi' : i = l.length := by omega
    rw [hi', List.take_length] at he
    rw [show decide (f.ok l.length) = r by rw [hr']; exact decide_eq_decide.2 ⟨fun h => ⟨h, he⟩, fun h => h.1⟩] at hr
    conv => simp (maxSteps := 2000000) (disch := omega) only [go_sem, Nat.reduceAdd, Nat.reduceSub, Nat.reduceMul, Int.reduceToNat, Nat.reduceEqDiff, Nat.reduceBEq, Nat.reduceBneDiff]
    refine callk hr ?_
    conv => simp (maxSteps := 2000000) (disch := omega) only [go_sem, Nat.reduceAdd, Nat.reduceSub, Nat.reduceMul, Int.reduceToNat, Nat.reduceEqDiff, Nat.reduceBEq, Nat.reduceBneDiff]
    exact ⟨_, rfl, .one (.refl _)⟩
theorem lo_ok {c : Fc} {s : Sc} (h : s.ok) : Bk.lo c s = if 0 ≤ Fc.sign c then s.low else s.high := by
  unfold Bk.lo
  rw [copy_ok h.1, copy_ok h.2.1]
  by_cases h' : 0 ≤ Fc.sign c
  · rw [if_pos h', if_neg (by omega)]
  · rw [if_neg h', if_pos (by omega)]
theorem hi_ok {c : Fc} {s : Sc} (h : s.ok) : Bk.hi c s = if 0 ≤ Fc.sign c then s.high else s.low := by
  unfold Bk.hi
  rw [copy_ok h.1, copy_ok h.2.1]
  by_cases h' : 0 ≤ Fc.sign c
  · rw [if_pos h', if_neg (by omega)]
  · rw [if_neg h', if_pos (by omega)]
theorem r46lows (f : Af) (l : List Sc) (hs : small f l) (hok : Bk.ok f l) :
    CallsTo prog 34 [.agg f.C, .one (.sl 8 (l.map Sc.C)), .one (.raw (.bool true))] (.one (.sl 4 ((Bk.lows f l).map Fc.C))) := by
  obtain ⟨h1, h2, h3, h4⟩ := hs
  have hlen := hok.1.1
  refine CallsTo.run [] Go.Proofs.Tryz.func34 rfl rfl ?_; conv => simp (maxSteps := 2000000) (disch := omega) only [go_sem, Nat.reduceAdd, Nat.reduceSub, Nat.reduceMul, Int.reduceToNat, Nat.reduceEqDiff, Nat.reduceBEq, Nat.reduceBneDiff, Go.Proofs.Tryz.f34, List.replicate]
  refine loopo [1, 2, 3] (fun x : Nat × Bool => [(7, .one (.tok (if x.2 then 31 else 39) (.sl 4 ((List.zipWith Bk.lo (f.l.take x.1) (l.take x.1)).map Fc.C)))), (8, .one (.raw (.int .i64 x.1)))])
    (fun x => x.1 ≤ l.length) (fun x => l.length - x.1) (0, true) (Nat.zero_le _) ?_ ?_
  · refine StLe.trans (StLe.tokI 7 31 (.sl 4 []) rfl rfl rfl) ?_
    conv => simp (maxSteps := 2000000) (disch := omega) only [go_sem, Nat.reduceAdd, Nat.reduceSub, Nat.reduceMul, Int.reduceToNat, Nat.reduceEqDiff, Nat.reduceBEq, Nat.reduceBneDiff]
    exact StLe.weaken (by repeat' first | exact .nil | refine .cons (by first | exact .refl _ | exact .any _) ?_) rfl
  rintro ⟨i, b⟩ hi
  simp only at hi
  have hz1 : (List.zipWith Bk.lo (f.l.take i) (l.take i)).length = i := by simp; omega
  cases b
  all_goals
    conv => simp (maxSteps := 2000000) (disch := omega) only [go_sem, Nat.reduceAdd, Nat.reduceSub, Nat.reduceMul, Int.reduceToNat, Nat.reduceEqDiff, Nat.reduceBEq, Nat.reduceBneDiff]
    refine condd (fun h => ?_) (fun h => ?_)
    · have hi1 : i < f.l.length := by omega
      have hi2 : i < l.length := by omega
      have hso := okS_get hok.2 hi2
      have hco := oks_get hok.1.2.2 hi1
      have hcs := getD_sz h3.2 hi1
      have e1 := zipG_snoc (op := Bk.lo) Fc.zero Sc.zero hi1 hi2
      rw [lo_ok hso] at e1
      by_cases h5 : 0 ≤ Fc.sign (f.l.getD i Fc.zero)
      · have h5' := decide_eq_true h5
        rw [if_pos h5] at e1
        conv => simp (maxSteps := 2000000) (disch := omega) only [go_sem, Nat.reduceAdd, Nat.reduceSub, Nat.reduceMul, Int.reduceToNat, Nat.reduceEqDiff, Nat.reduceBEq, Nat.reduceBneDiff]
        refine callk (rSignF (f.l.getD i Fc.zero) hco (by omega)) ?_
        conv => simp (maxSteps := 2000000) (disch := omega) only [go_sem, Nat.reduceAdd, Nat.reduceSub, Nat.reduceMul, Int.reduceToNat, Nat.reduceEqDiff, Nat.reduceBEq, Nat.reduceBneDiff, h5', hz1]
        refine ⟨(i + 1, true), by dsimp only; omega, by dsimp only; omega, ?_⟩
        dsimp only
        rw [← e1]
        exact StLe.weaken (by repeat' first | exact .nil | refine .cons (by first | exact .refl _ | exact .any _) ?_) rfl
      · have h5' := decide_eq_false h5
        rw [if_neg h5] at e1
        conv => simp (maxSteps := 2000000) (disch := omega) only [go_sem, Nat.reduceAdd, Nat.reduceSub, Nat.reduceMul, Int.reduceToNat, Nat.reduceEqDiff, Nat.reduceBEq, Nat.reduceBneDiff]
        refine callk (rSignF (f.l.getD i Fc.zero) hco (by omega)) ?_
        conv => simp (maxSteps := 2000000) (disch := omega) only [go_sem, Nat.reduceAdd, Nat.reduceSub, Nat.reduceMul, Int.reduceToNat, Nat.reduceEqDiff, Nat.reduceBEq, Nat.reduceBneDiff, h5', hz1]
        refine ⟨(i + 1, false), by dsimp only; omega, by dsimp only; omega, ?_⟩
        dsimp only
        rw [← e1]
        exact StLe.weaken (by repeat' first | exact .nil | refine .cons (by first | exact .refl _ | exact .any _) ?_) rfl
    · have hi' : i = l.length := by omega
      rw [hi', List.take_length, ← hlen, List.take_length]
      conv => simp (maxSteps := 2000000) (disch := omega) only [go_sem, Nat.reduceAdd, Nat.reduceSub, Nat.reduceMul, Int.reduceToNat, Nat.reduceEqDiff, Nat.reduceBEq, Nat.reduceBneDiff]
      exact ⟨_, rfl, .one (.refl _)⟩
theorem r46highs (f : Af) (l : List Sc) (hs : small f l) (hok : Bk.ok f l) :
    CallsTo prog 34 [.agg f.C, .one (.sl 8 (l.map Sc.C)), .one (.raw (.bool false))] (.one (.sl 4 ((Bk.highs f l).map Fc.C))) := by
  obtain ⟨h1, h2, h3, h4⟩ := hs
  have hlen := hok.1.1
  refine CallsTo.run [] Go.Proofs.Tryz.func34 rfl rfl ?_; conv => simp (maxSteps := 2000000) (disch := omega) only [go_sem, Nat.reduceAdd, Nat.reduceSub, Nat.reduceMul, Int.reduceToNat, Nat.reduceEqDiff, Nat.reduceBEq, Nat.reduceBneDiff, Go.Proofs.Tryz.f34, List.replicate]
  refine loopo [1, 2, 3] (fun x : Nat × Bool => [(7, .one (.tok (if x.2 then 31 else 39) (.sl 4 ((List.zipWith Bk.hi (f.l.take x.1) (l.take x.1)).map Fc.C)))), (8, .one (.raw (.int .i64 x.1)))])
    (fun x => x.1 ≤ l.length) (fun x => l.length - x.1) (0, true) (Nat.zero_le _) ?_ ?_
  · refine StLe.trans (StLe.tokI 7 31 (.sl 4 []) rfl rfl rfl) ?_
    conv => simp (maxSteps := 2000000) (disch := omega) only [go_sem, Nat.reduceAdd, Nat.reduceSub, Nat.reduceMul, Int.reduceToNat, Nat.reduceEqDiff, Nat.reduceBEq, Nat.reduceBneDiff]
    exact StLe.weaken (by repeat' first | exact .nil | refine .cons (by first | exact .refl _ | exact .any _) ?_) rfl
  rintro ⟨i, b⟩ hi
  simp only at hi
  have hz1 : (List.zipWith Bk.hi (f.l.take i) (l.take i)).length = i := by simp; omega
  cases b
  all_goals
    conv => simp (maxSteps := 2000000) (disch := omega) only [go_sem, Nat.reduceAdd, Nat.reduceSub, Nat.reduceMul, Int.reduceToNat, Nat.reduceEqDiff, Nat.reduceBEq, Nat.reduceBneDiff]
    refine condd (fun h => ?_) (fun h => ?_)
    · have hi1 : i < f.l.length := by omega
      have hi2 : i < l.length := by omega
      have hso := okS_get hok.2 hi2
      have hco := oks_get hok.1.2.2 hi1
      have hcs := getD_sz h3.2 hi1
      have e1 := zipG_snoc (op := Bk.hi) Fc.zero Sc.zero hi1 hi2
      rw [hi_ok hso] at e1
      by_cases h5 : 0 ≤ Fc.sign (f.l.getD i Fc.zero)
      · have h5' := decide_eq_true h5
        rw [if_pos h5] at e1
        conv => simp (maxSteps := 2000000) (disch := omega) only [go_sem, Nat.reduceAdd, Nat.reduceSub, Nat.reduceMul, Int.reduceToNat, Nat.reduceEqDiff, Nat.reduceBEq, Nat.reduceBneDiff]
        refine callk (rSignF (f.l.getD i Fc.zero) hco (by omega)) ?_
        conv => simp (maxSteps := 2000000) (disch := omega) only [go_sem, Nat.reduceAdd, Nat.reduceSub, Nat.reduceMul, Int.reduceToNat, Nat.reduceEqDiff, Nat.reduceBEq, Nat.reduceBneDiff, h5', hz1]
        refine ⟨(i + 1, false), by dsimp only; omega, by dsimp only; omega, ?_⟩
        dsimp only
        rw [← e1]
        exact StLe.weaken (by repeat' first | exact .nil | refine .cons (by first | exact .refl _ | exact .any _) ?_) rfl
      · have h5' := decide_eq_false h5
        rw [if_neg h5] at e1
        conv => simp (maxSteps := 2000000) (disch := omega) only [go_sem, Nat.reduceAdd, Nat.reduceSub, Nat.reduceMul, Int.reduceToNat, Nat.reduceEqDiff, Nat.reduceBEq, Nat.reduceBneDiff]
        refine callk (rSignF (f.l.getD i Fc.zero) hco (by omega)) ?_
        conv => simp (maxSteps := 2000000) (disch := omega) only [go_sem, Nat.reduceAdd, Nat.reduceSub, Nat.reduceMul, Int.reduceToNat, Nat.reduceEqDiff, Nat.reduceBEq, Nat.reduceBneDiff, h5', hz1]
        refine ⟨(i + 1, true), by dsimp only; omega, by dsimp only; omega, ?_⟩
        dsimp only
        rw [← e1]
        exact StLe.weaken (by repeat' first | exact .nil | refine .cons (by first | exact .refl _ | exact .any _) ?_) rfl
    · have hi' : i = l.length := by omega
      rw [hi', List.take_length, ← hlen, List.take_length]
      conv => simp (maxSteps := 2000000) (disch := omega) only [go_sem, Nat.reduceAdd, Nat.reduceSub, Nat.reduceMul, Int.reduceToNat, Nat.reduceEqDiff, Nat.reduceBEq, Nat.reduceBneDiff]
      exact ⟨_, rfl, .one (.refl _)⟩
end Go.Slot.T

/- Contracts of package kitbagref46: Bounds, Swing, Narrow, Least. -/
namespace Go.Slot.T
open Go Go.RowKit Go.Slot
open Go.Proofs.Tryz (prog)
set_option maxRecDepth 10000
set_option maxHeartbeats 4000000

theorem low_oks : ∀ {fl : List Fc} {l : List Sc}, okS l → oks (List.zipWith Bk.lo fl l)
  | [], _, _ => fun f hf => by simp at hf
  | _ :: _, [], _ => fun f hf => by simp at hf
  | c :: fl, s :: l, h => by
    have h' := okS_cons.1 h
    rw [List.zipWith_cons_cons]
    refine oks_cons.2 ⟨?_, low_oks h'.2⟩
    rw [lo_ok h'.1]
    split
    · exact h'.1.1
    · exact h'.1.2.1
theorem high_oks : ∀ {fl : List Fc} {l : List Sc}, okS l → oks (List.zipWith Bk.hi fl l)
  | [], _, _ => fun f hf => by simp at hf
  | _ :: _, [], _ => fun f hf => by simp at hf
  | c :: fl, s :: l, h => by
    have h' := okS_cons.1 h
    rw [List.zipWith_cons_cons]
    refine oks_cons.2 ⟨?_, high_oks h'.2⟩
    rw [hi_ok h'.1]
    split
    · exact h'.1.2.1
    · exact h'.1.1
theorem lows_at {f : Af} {l : List Sc} (hs : small f l) (h : Bk.ok f l) :
    CallsTo prog 33 [.agg f.C, .one (.sl 4 ((Bk.lows f l).map Fc.C))] (.tup [.agg (f.at' (Bk.lows f l)).C, .one (.raw (.bool true))]) := by
  obtain ⟨h1, h2, h3, h4⟩ := hs
  have hlen := h.1.1
  have hz : (Bk.lows f l).length = l.length := by unfold Bk.lows; simp; omega
  exact r19At f (Bk.lows f l) (by rw [hz]; exact h.1) (low_oks h.2) (by omega) (le_mono h3 (by omega)) (fun g hg => by have := lows_sz h4 g hg; omega)
theorem highs_at {f : Af} {l : List Sc} (hs : small f l) (h : Bk.ok f l) :
    CallsTo prog 33 [.agg f.C, .one (.sl 4 ((Bk.highs f l).map Fc.C))] (.tup [.agg (f.at' (Bk.highs f l)).C, .one (.raw (.bool true))]) := by
  obtain ⟨h1, h2, h3, h4⟩ := hs
  have hlen := h.1.1
  have hz : (Bk.highs f l).length = l.length := by unfold Bk.highs; simp; omega
  exact r19At f (Bk.highs f l) (by rw [hz]; exact h.1) (high_oks h.2) (by omega) (le_mono h3 (by omega)) (fun g hg => by have := highs_sz h4 g hg; omega)
theorem r46Bounds (f : Af) (l : List Sc) (hs : small f l) : CallsTo prog 10 [.agg f.C, .one (.sl 8 (l.map Sc.C))] (.tup [.agg (Bk.bounds f l).C, .one (.raw (.int .i64 (Fc.er (Bk.ok f l))))]) := by
  have hr := r46Right f l hs
  by_cases h : Bk.ok f l
  · rw [decide_eq_true h] at hr
    rw [Fc.er_of h, show Bk.bounds f l = ⟨f.at' (Bk.lows f l), f.at' (Bk.highs f l)⟩ from if_pos h]
    refine CallsTo.run [] Go.Proofs.Tryz.func10 rfl rfl ?_; conv => simp (maxSteps := 2000000) (disch := omega) only [go_sem, Nat.reduceAdd, Nat.reduceSub, Nat.reduceMul, Int.reduceToNat, Nat.reduceEqDiff, Nat.reduceBEq, Nat.reduceBneDiff, Go.Proofs.Tryz.f10, List.replicate]
    refine callk hr ?_
    conv => simp (maxSteps := 2000000) (disch := omega) only [go_sem, Nat.reduceAdd, Nat.reduceSub, Nat.reduceMul, Int.reduceToNat, Nat.reduceEqDiff, Nat.reduceBEq, Nat.reduceBneDiff]
    refine callk (r46lows f l hs h) ?_
    conv => simp (maxSteps := 2000000) (disch := omega) only [go_sem, Nat.reduceAdd, Nat.reduceSub, Nat.reduceMul, Int.reduceToNat, Nat.reduceEqDiff, Nat.reduceBEq, Nat.reduceBneDiff]
    refine callk (lows_at hs h) ?_
    conv => simp (maxSteps := 2000000) (disch := omega) only [go_sem, Nat.reduceAdd, Nat.reduceSub, Nat.reduceMul, Int.reduceToNat, Nat.reduceEqDiff, Nat.reduceBEq, Nat.reduceBneDiff]
    refine indk (by kernel_rfl) ?_
    conv => simp (maxSteps := 2000000) (disch := omega) only [go_sem, Nat.reduceAdd, Nat.reduceSub, Nat.reduceMul, Int.reduceToNat, Nat.reduceEqDiff, Nat.reduceBEq, Nat.reduceBneDiff]
    refine callk (r46highs f l hs h) ?_
    conv => simp (maxSteps := 2000000) (disch := omega) only [go_sem, Nat.reduceAdd, Nat.reduceSub, Nat.reduceMul, Int.reduceToNat, Nat.reduceEqDiff, Nat.reduceBEq, Nat.reduceBneDiff]
    refine callk (highs_at hs h) ?_
    conv => simp (maxSteps := 2000000) (disch := omega) only [go_sem, Nat.reduceAdd, Nat.reduceSub, Nat.reduceMul, Int.reduceToNat, Nat.reduceEqDiff, Nat.reduceBEq, Nat.reduceBneDiff]
    refine indk (by kernel_rfl) ?_
    conv => simp (maxSteps := 2000000) (disch := omega) only [go_sem, Nat.reduceAdd, Nat.reduceSub, Nat.reduceMul, Int.reduceToNat, Nat.reduceEqDiff, Nat.reduceBEq, Nat.reduceBneDiff]
    exact ⟨_, rfl, .tup (.cons (.refl _) (.cons (.refl _) .nil))⟩
  · rw [decide_eq_false h] at hr
    rw [Fc.er_bad h, show Bk.bounds f l = Sc.zero from if_neg h]
    refine CallsTo.run [] Go.Proofs.Tryz.func10 rfl rfl ?_; conv => simp (maxSteps := 2000000) (disch := omega) only [go_sem, Nat.reduceAdd, Nat.reduceSub, Nat.reduceMul, Int.reduceToNat, Nat.reduceEqDiff, Nat.reduceBEq, Nat.reduceBneDiff, Go.Proofs.Tryz.f10, List.replicate]
    refine callk hr ?_
    conv => simp (maxSteps := 2000000) (disch := omega) only [go_sem, Nat.reduceAdd, Nat.reduceSub, Nat.reduceMul, Int.reduceToNat, Nat.reduceEqDiff, Nat.reduceBEq, Nat.reduceBneDiff]
    exact ⟨_, rfl, .tup (.cons zeroS (.cons (.refl _) .nil))⟩
theorem r46Least (f : Af) (l : List Sc) (hs : small f l) : CallsTo prog 14 [.agg f.C, .one (.sl 8 (l.map Sc.C))]
    (.tup [.one (.sl 4 ((if Bk.ok f l then Bk.lows f l else []).map Fc.C)), .agg (if Bk.ok f l then f.at' (Bk.lows f l) else Fc.zero).C, .one (.raw (.int .i64 (Fc.er (Bk.ok f l))))]) := by
  have hr := r46Right f l hs
  by_cases h : Bk.ok f l
  · rw [decide_eq_true h] at hr
    rw [Fc.er_of h, if_pos h, if_pos h]
    refine CallsTo.run [] Go.Proofs.Tryz.func14 rfl rfl ?_; conv => simp (maxSteps := 2000000) (disch := omega) only [go_sem, Nat.reduceAdd, Nat.reduceSub, Nat.reduceMul, Int.reduceToNat, Nat.reduceEqDiff, Nat.reduceBEq, Nat.reduceBneDiff, Go.Proofs.Tryz.f14, List.replicate]
    refine callk hr ?_
    conv => simp (maxSteps := 2000000) (disch := omega) only [go_sem, Nat.reduceAdd, Nat.reduceSub, Nat.reduceMul, Int.reduceToNat, Nat.reduceEqDiff, Nat.reduceBEq, Nat.reduceBneDiff]
    refine callk (r46lows f l hs h) ?_
    conv => simp (maxSteps := 2000000) (disch := omega) only [go_sem, Nat.reduceAdd, Nat.reduceSub, Nat.reduceMul, Int.reduceToNat, Nat.reduceEqDiff, Nat.reduceBEq, Nat.reduceBneDiff]
    refine callk (lows_at hs h) ?_
    conv => simp (maxSteps := 2000000) (disch := omega) only [go_sem, Nat.reduceAdd, Nat.reduceSub, Nat.reduceMul, Int.reduceToNat, Nat.reduceEqDiff, Nat.reduceBEq, Nat.reduceBneDiff]
    refine indk (by kernel_rfl) ?_
    conv => simp (maxSteps := 2000000) (disch := omega) only [go_sem, Nat.reduceAdd, Nat.reduceSub, Nat.reduceMul, Int.reduceToNat, Nat.reduceEqDiff, Nat.reduceBEq, Nat.reduceBneDiff]
    exact ⟨_, rfl, .tup (.cons (.refl _) (.cons (.refl _) (.cons (.refl _) .nil)))⟩
  · rw [decide_eq_false h] at hr
    rw [Fc.er_bad h, if_neg h, if_neg h]
    refine CallsTo.run [] Go.Proofs.Tryz.func14 rfl rfl ?_; conv => simp (maxSteps := 2000000) (disch := omega) only [go_sem, Nat.reduceAdd, Nat.reduceSub, Nat.reduceMul, Int.reduceToNat, Nat.reduceEqDiff, Nat.reduceBEq, Nat.reduceBneDiff, Go.Proofs.Tryz.f14, List.replicate]
    refine callk hr ?_
    conv => simp (maxSteps := 2000000) (disch := omega) only [go_sem, Nat.reduceAdd, Nat.reduceSub, Nat.reduceMul, Int.reduceToNat, Nat.reduceEqDiff, Nat.reduceBEq, Nat.reduceBneDiff]
    exact ⟨_, rfl, .tup (.cons (.one (.nilSl _)) (.cons zeroLe (.cons (.refl _) .nil)))⟩
theorem swing_ref {c : Fc} {s : Sc} (hc : c.ok) (hs : s.ok) : Bk.swing c s = if Fc.sign (Fc.mul c (Sc.width s)) < 0 then Fc.neg (Fc.mul c (Sc.width s)) else Fc.mul c (Sc.width s) := by
  obtain ⟨x, rfl⟩ := Fc.ok_ex hc
  obtain ⟨p, rfl, hp⟩ := Sc.ok_ex hs
  unfold Bk.swing
  rw [width_of p hp, Fc.mul_of, Fc.neg_of, Fc.maxf_of, Fc.sign_of, Rat.max_def]
  generalize x * (p.2 - p.1) = m
  by_cases h : m < 0
  · rw [if_pos ((sg_neg_iff m).2 h), if_pos (by grind)]
  · rw [if_neg (fun e => h ((sg_neg_iff m).1 e))]
    split
    · rw [show -m = m by grind]
    · rfl
theorem width_ok {s : Sc} (h : s.ok) : (Sc.width s).ok := by
  unfold Sc.width; rw [if_pos h]; exact Fc.sub_ok.2 ⟨h.2.1, h.1⟩
theorem swing_ok {c : Fc} {s : Sc} (hc : c.ok) (hs : s.ok) : (Bk.swing c s).ok := by
  rw [swing_ref hc hs]
  have hm := Fc.mul_ok.2 ⟨hc, width_ok hs⟩
  split
  · obtain ⟨q, e⟩ := Fc.ok_ex hm
    rw [e, Fc.neg_of]; exact Fc.of_ok _
  · exact hm
theorem r46Swing (f : Af) (l : List Sc) (i : Nat) (hs : small f l) (hok : Bk.ok f l) (hi : i < l.length) :
    CallsTo prog 42 [.agg f.C, .one (.sl 8 (l.map Sc.C)), .one (.raw (.int .i64 i))] (.agg (Bk.swing (f.l.getD i Fc.zero) (l.getD i Sc.zero)).C) := by
  obtain ⟨h1, h2, h3, h4⟩ := hs
  have hlen := hok.1.1
  have hi1 : i < f.l.length := by omega
  have hso := okS_get hok.2 hi
  have hco := oks_get hok.1.2.2 hi1
  have hcs := getD_sz h3.2 hi1
  have hss := getS_sz h4 hi
  have hwz := width_sz hss
  have hwo := width_ok hso
  have hmz := Fc.sz_mul (f.l.getD i Fc.zero) (Sc.width (l.getD i Sc.zero))
  have hmo := Fc.mul_ok.2 ⟨hco, hwo⟩
  have cW := r10Width (l.getD i Sc.zero) (by omega) hso
  have cM := rMulF (f.l.getD i Fc.zero) (Sc.width (l.getD i Sc.zero)) hco hwo (by omega) (by omega)
  have cS := rSignF (Fc.mul (f.l.getD i Fc.zero) (Sc.width (l.getD i Sc.zero))) hmo (by omega)
  have cN := rNegF (Fc.mul (f.l.getD i Fc.zero) (Sc.width (l.getD i Sc.zero))) hmo (by omega)
  rw [swing_ref hco hso]
  refine CallsTo.run [] Go.Proofs.Tryz.func42 rfl rfl ?_; conv => simp (maxSteps := 2000000) (disch := omega) only [go_sem, Nat.reduceAdd, Nat.reduceSub, Nat.reduceMul, Int.reduceToNat, Nat.reduceEqDiff, Nat.reduceBEq, Nat.reduceBneDiff, Go.Proofs.Tryz.f42, List.replicate]
  refine callk cW ?_
  conv => simp (maxSteps := 2000000) (disch := omega) only [go_sem, Nat.reduceAdd, Nat.reduceSub, Nat.reduceMul, Int.reduceToNat, Nat.reduceEqDiff, Nat.reduceBEq, Nat.reduceBneDiff]
  refine callk cM ?_
  conv => simp (maxSteps := 2000000) (disch := omega) only [go_sem, Nat.reduceAdd, Nat.reduceSub, Nat.reduceMul, Int.reduceToNat, Nat.reduceEqDiff, Nat.reduceBEq, Nat.reduceBneDiff]
  refine indk (by kernel_rfl) ?_
  conv => simp (maxSteps := 2000000) (disch := omega) only [go_sem, Nat.reduceAdd, Nat.reduceSub, Nat.reduceMul, Int.reduceToNat, Nat.reduceEqDiff, Nat.reduceBEq, Nat.reduceBneDiff]
  refine callk cS ?_
  conv => simp (maxSteps := 2000000) (disch := omega) only [go_sem, Nat.reduceAdd, Nat.reduceSub, Nat.reduceMul, Int.reduceToNat, Nat.reduceEqDiff, Nat.reduceBEq, Nat.reduceBneDiff]
  refine condd (fun h => ?_) (fun h => ?_)
  · rw [if_pos h]
    conv => simp (maxSteps := 2000000) (disch := omega) only [go_sem, Nat.reduceAdd, Nat.reduceSub, Nat.reduceMul, Int.reduceToNat, Nat.reduceEqDiff, Nat.reduceBEq, Nat.reduceBneDiff]
    refine callk cN ?_
    conv => simp (maxSteps := 2000000) (disch := omega) only [go_sem, Nat.reduceAdd, Nat.reduceSub, Nat.reduceMul, Int.reduceToNat, Nat.reduceEqDiff, Nat.reduceBEq, Nat.reduceBneDiff]
    exact ⟨_, rfl, .one (.refl _)⟩
  · rw [if_neg h]
    conv => simp (maxSteps := 2000000) (disch := omega) only [go_sem, Nat.reduceAdd, Nat.reduceSub, Nat.reduceMul, Int.reduceToNat, Nat.reduceEqDiff, Nat.reduceBEq, Nat.reduceBneDiff]
    exact ⟨_, rfl, .one (.refl _)⟩
theorem nar_first {c : Fc} {s : Sc} (hc : c.ok) (hs : s.ok) : (if Fc.cmp (Bk.swing c s) (Fc.of 0) > 0 then ((0 : Int), Bk.swing c s) else (0, Fc.of 0)) = (0, Bk.swing c s) := by
  obtain ⟨x, rfl⟩ := Fc.ok_ex hc
  obtain ⟨p, rfl, hp⟩ := Sc.ok_ex hs
  rw [swing_of x p hp]
  have h0 := swQ_pos x p
  split
  · rfl
  · rename_i h
    rw [cmpQ_gt] at h
    rw [show swQ x p = 0 by grind]
theorem r46Narrow (f : Af) (l : List Sc) (hs : small f l) : CallsTo prog 12 [.agg f.C, .one (.sl 8 (l.map Sc.C))]
    (.tup [.one (.raw (.int .i64 (Bk.narrow f l).1)), .agg (Bk.narrow f l).2.1.C, .one (.raw (.int .i64 (Bk.narrow f l).2.2))]) := by
  have hr := r46Right f l hs
  by_cases h : Bk.ok f l
  · rw [decide_eq_true h] at hr
    have hs' := hs
    obtain ⟨h1, h2, h3, h4⟩ := hs
    have hlen := h.1.1
    by_cases h0 : l.length = 0
    · rw [show Bk.narrow f l = (0, Fc.zero, 4) by unfold Bk.narrow; rw [if_pos h, if_pos h0]]
      refine CallsTo.run [] Go.Proofs.Tryz.func12 rfl rfl ?_; conv => simp (maxSteps := 2000000) (disch := omega) only [go_sem, Nat.reduceAdd, Nat.reduceSub, Nat.reduceMul, Int.reduceToNat, Nat.reduceEqDiff, Nat.reduceBEq, Nat.reduceBneDiff, Go.Proofs.Tryz.f12, List.replicate]
      refine callk hr ?_
      conv => simp (maxSteps := 2000000) (disch := omega) only [go_sem, Nat.reduceAdd, Nat.reduceSub, Nat.reduceMul, Int.reduceToNat, Nat.reduceEqDiff, Nat.reduceBEq, Nat.reduceBneDiff]
      refine condd (fun _ => ?_) (fun h => absurd (by omega) h)
      conv => simp (maxSteps := 2000000) (disch := omega) only [go_sem, Nat.reduceAdd, Nat.reduceSub, Nat.reduceMul, Int.reduceToNat, Nat.reduceEqDiff, Nat.reduceBEq, Nat.reduceBneDiff]
      exact ⟨_, rfl, .tup (.cons (.refl _) (.cons zeroLe (.cons (.refl _) .nil)))⟩
    · rw [show Bk.narrow f l = ((Bk.nar 0 (0, Fc.of 0) f.l l).1, (Bk.nar 0 (0, Fc.of 0) f.l l).2, 0) by unfold Bk.narrow; rw [if_pos h, if_neg h0]]
      have swz : ∀ i, i < l.length → (Bk.swing (f.l.getD i Fc.zero) (l.getD i Sc.zero)).sz ≤ 32768 := fun i hi => by
        have := swing_sz (getD_sz h3.2 (show i < f.l.length by omega)) (getS_sz h4 hi)
        omega
      have swo : ∀ i, i < l.length → (Bk.swing (f.l.getD i Fc.zero) (l.getD i Sc.zero)).ok := fun i hi => swing_ok (oks_get h.1.2.2 (by omega)) (okS_get h.2 hi)
      have start : Bk.nar 0 (0, Fc.of 0) f.l l = Bk.nar 1 (0, Bk.swing (f.l.getD 0 Fc.zero) (l.getD 0 Sc.zero)) (f.l.drop 1) (l.drop 1) := by
        have e1 := drop_cons (l := f.l) (i := 0) Fc.zero (by omega)
        have e2 := drop_cons (l := l) (i := 0) Sc.zero (by omega)
        rw [List.drop_zero] at e1 e2
        rw [show Bk.nar 0 (0, Fc.of 0) f.l l = Bk.nar 0 (0, Fc.of 0) (f.l.getD 0 Fc.zero :: f.l.drop (0 + 1)) (l.getD 0 Sc.zero :: l.drop (0 + 1)) by rw [← e1, ← e2], nar_cons]
        dsimp only
        rw [show ((0 : Nat) : Int) = 0 from rfl, nar_first (oks_get h.1.2.2 (by omega)) (okS_get h.2 (by omega))]
      refine CallsTo.run [] Go.Proofs.Tryz.func12 rfl rfl ?_; conv => simp (maxSteps := 2000000) (disch := omega) only [go_sem, Nat.reduceAdd, Nat.reduceSub, Nat.reduceMul, Int.reduceToNat, Nat.reduceEqDiff, Nat.reduceBEq, Nat.reduceBneDiff, Go.Proofs.Tryz.f12, List.replicate]
      refine callk hr ?_
      conv => simp (maxSteps := 2000000) (disch := omega) only [go_sem, Nat.reduceAdd, Nat.reduceSub, Nat.reduceMul, Int.reduceToNat, Nat.reduceEqDiff, Nat.reduceBEq, Nat.reduceBneDiff]
      refine condd (fun h => absurd h (by omega)) (fun _ => ?_)
      conv => simp (maxSteps := 2000000) (disch := omega) only [go_sem, Nat.reduceAdd, Nat.reduceSub, Nat.reduceMul, Int.reduceToNat, Nat.reduceEqDiff, Nat.reduceBEq, Nat.reduceBneDiff]
      refine loopo [1, 2, 5] (fun x : Nat × Nat => [(7, .one (.raw (.int .i64 x.2))), (8, .one (.raw (.int .i64 x.1)))])
        (fun x => x.1 ≤ l.length ∧ x.2 < l.length ∧ Bk.nar 0 (0, Fc.of 0) f.l l = Bk.nar x.1 ((x.2 : Int), Bk.swing (f.l.getD x.2 Fc.zero) (l.getD x.2 Sc.zero)) (f.l.drop x.1) (l.drop x.1)) (fun x => l.length - x.1) (1, 0) ⟨by dsimp only; omega, by dsimp only; omega, start⟩ ?_ ?_
      · conv => simp (maxSteps := 2000000) (disch := omega) only [go_sem, Nat.reduceAdd, Nat.reduceSub, Nat.reduceMul, Int.reduceToNat, Nat.reduceEqDiff, Nat.reduceBEq, Nat.reduceBneDiff]
        exact StLe.weaken (by repeat' first | exact .nil | refine .cons (by first | exact .refl _ | exact .any _) ?_) rfl
      rintro ⟨i, a⟩ ⟨hi, ha, he⟩
      simp only at hi ha he
      conv => simp (maxSteps := 2000000) (disch := omega) only [go_sem, Nat.reduceAdd, Nat.reduceSub, Nat.reduceMul, Int.reduceToNat, Nat.reduceEqDiff, Nat.reduceBEq, Nat.reduceBneDiff]
      refine condd (fun h5 => ?_) (fun h5 => ?_)
      · have hi2 : i < l.length := by omega
        have hcmp := rCmpF _ _ (swo i hi2) (swo a ha) (by have := swz i hi2; omega) (by have := swz a ha; omega)
        rw [drop_cons Fc.zero (show i < f.l.length by omega), drop_cons Sc.zero hi2, nar_cons] at he
        dsimp only at he
        conv => simp (maxSteps := 2000000) (disch := omega) only [go_sem, Nat.reduceAdd, Nat.reduceSub, Nat.reduceMul, Int.reduceToNat, Nat.reduceEqDiff, Nat.reduceBEq, Nat.reduceBneDiff]
        refine callk (r46Swing f l i hs' h hi2) ?_
        conv => simp (maxSteps := 2000000) (disch := omega) only [go_sem, Nat.reduceAdd, Nat.reduceSub, Nat.reduceMul, Int.reduceToNat, Nat.reduceEqDiff, Nat.reduceBEq, Nat.reduceBneDiff]
        refine callk (r46Swing f l a hs' h ha) ?_
        conv => simp (maxSteps := 2000000) (disch := omega) only [go_sem, Nat.reduceAdd, Nat.reduceSub, Nat.reduceMul, Int.reduceToNat, Nat.reduceEqDiff, Nat.reduceBEq, Nat.reduceBneDiff]
        refine callk hcmp ?_
        conv => simp (maxSteps := 2000000) (disch := omega) only [go_sem, Nat.reduceAdd, Nat.reduceSub, Nat.reduceMul, Int.reduceToNat, Nat.reduceEqDiff, Nat.reduceBEq, Nat.reduceBneDiff]
        refine indk (by kernel_rfl) ?_
        conv => simp (maxSteps := 2000000) (disch := omega) only [go_sem, Nat.reduceAdd, Nat.reduceSub, Nat.reduceMul, Int.reduceToNat, Nat.reduceEqDiff, Nat.reduceBEq, Nat.reduceBneDiff]
        refine condd (fun h6 => ?_) (fun h6 => ?_)
        · rw [if_pos h6] at he
          conv => simp (maxSteps := 2000000) (disch := omega) only [go_sem, Nat.reduceAdd, Nat.reduceSub, Nat.reduceMul, Int.reduceToNat, Nat.reduceEqDiff, Nat.reduceBEq, Nat.reduceBneDiff]
          exact ⟨(i + 1, i), ⟨by dsimp only; omega, hi2, he⟩, by dsimp only; omega, StLe.weaken (by repeat' first | exact .nil | refine .cons (by first | exact .refl _ | exact .any _) ?_) rfl⟩
        · rw [if_neg h6] at he
          conv => simp (maxSteps := 2000000) (disch := omega) only [go_sem, Nat.reduceAdd, Nat.reduceSub, Nat.reduceMul, Int.reduceToNat, Nat.reduceEqDiff, Nat.reduceBEq, Nat.reduceBneDiff]
          exact ⟨(i + 1, a), ⟨by dsimp only; omega, ha, he⟩, by dsimp only; omega, StLe.weaken (by repeat' first | exact .nil | refine .cons (by first | exact .refl _ | exact .any _) ?_) rfl⟩
      · have hi' : i = l.length := by omega
        rw [hi', List.drop_length] at he
        have he : Bk.nar 0 (0, Fc.of 0) f.l l = ((a : Int), Bk.swing (f.l.getD a Fc.zero) (l.getD a Sc.zero)) := by rw [he]; cases List.drop l.length f.l <;> rfl
        rw [he]
        conv => simp (maxSteps := 2000000) (disch := omega) only [go_sem, Nat.reduceAdd, Nat.reduceSub, Nat.reduceMul, Int.reduceToNat, Nat.reduceEqDiff, Nat.reduceBEq, Nat.reduceBneDiff]
        refine callk (r46Swing f l a hs' h ha) ?_
        conv => simp (maxSteps := 2000000) (disch := omega) only [go_sem, Nat.reduceAdd, Nat.reduceSub, Nat.reduceMul, Int.reduceToNat, Nat.reduceEqDiff, Nat.reduceBEq, Nat.reduceBneDiff]
        exact ⟨_, rfl, .tup (.cons (.refl _) (.cons (.refl _) (.cons (.refl _) .nil)))⟩
  · rw [decide_eq_false h] at hr
    rw [show Bk.narrow f l = (0, Fc.zero, 1) from if_neg h]
    refine CallsTo.run [] Go.Proofs.Tryz.func12 rfl rfl ?_; conv => simp (maxSteps := 2000000) (disch := omega) only [go_sem, Nat.reduceAdd, Nat.reduceSub, Nat.reduceMul, Int.reduceToNat, Nat.reduceEqDiff, Nat.reduceBEq, Nat.reduceBneDiff, Go.Proofs.Tryz.f12, List.replicate]
    refine callk hr ?_
    conv => simp (maxSteps := 2000000) (disch := omega) only [go_sem, Nat.reduceAdd, Nat.reduceSub, Nat.reduceMul, Int.reduceToNat, Nat.reduceEqDiff, Nat.reduceBEq, Nat.reduceBneDiff]
    exact ⟨_, rfl, .tup (.cons (.refl _) (.cons zeroLe (.cons (.refl _) .nil)))⟩
end Go.Slot.T

/- Contracts of package kitbagref46: Floor. -/
namespace Go.Slot.T
open Go Go.RowKit Go.Slot
open Go.Proofs.Tryz (prog)
set_option maxRecDepth 10000
set_option maxHeartbeats 4000000

theorem cmp_zero {a b : Fc} (ha : a.ok) (hb : b.ok) : Fc.cmp a b = 0 ↔ a = b := by
  obtain ⟨x, rfl⟩ := Fc.ok_ex ha
  obtain ⟨y, rfl⟩ := Fc.ok_ex hb
  rw [Fc.cmp_of]
  constructor
  · intro h
    rcases Fc.ordQ_cases x y with ⟨_, e⟩ | ⟨h', _⟩ | ⟨_, e⟩
    · omega
    · rw [h']
    · omega
  · intro h
    have h := Fc.of_inj h
    rcases Fc.ordQ_cases x y with ⟨h', e⟩ | ⟨_, e⟩ | ⟨h', e⟩
    · rw [h] at h'; exact absurd h' (by grind)
    · exact e
    · rw [h] at h'; exact absurd h' (by grind)
theorem add_sub_swap {s a b : Fc} (hs : s.ok) (ha : a.ok) (hb : b.ok) : Fc.add s (Fc.sub a b) = Fc.sub (Fc.add s a) b := by
  obtain ⟨x, rfl⟩ := Fc.ok_ex hs
  obtain ⟨y, rfl⟩ := Fc.ok_ex ha
  obtain ⟨z, rfl⟩ := Fc.ok_ex hb
  rw [Fc.sub_of, Fc.add_of, Fc.add_of, Fc.sub_of]
  congr 1
  grind
theorem r46Floor (f : Af) (l : List Sc) (v : Fc) (ms : List Fc) (hs : small f l) (hv : v.sz ≤ 4096) (hm : ∀ m ∈ ms, m.sz ≤ 4096) (_hml : ms.length ≤ 1048576) :
    CallsTo prog 19 [.agg f.C, .one (.sl 8 (l.map Sc.C)), .agg v.C, .one (.sl 4 (ms.map Fc.C))] (.one (.raw (.bool (Bk.floor f l v ms)))) := by
  have hr := r46Right f l hs
  obtain ⟨h1, h2, h3, h4⟩ := hs
  obtain ⟨r, hr'⟩ : ∃ r, r = Bk.floor f l v ms := ⟨_, rfl⟩
  rw [← hr']
  by_cases g1 : Bk.ok f l
  · rw [decide_eq_true g1] at hr
    by_cases g2 : v.ok
    · by_cases g3 : (ms.length : Int) = 2 * (l.length : Int)
      · have g3' : ¬ ((ms.length : Int) ≠ 2 * (l.length : Int)) := fun h => h g3
        have hlen := g1.1.1
        have bad : ∀ i, i < ms.length → ¬ ((ms.getD i Fc.zero).ok ∧ 0 ≤ Fc.sign (ms.getD i Fc.zero)) → false = r := fun i hi h => by
          rw [hr', show Bk.floor f l v ms = false from if_neg (fun e => h (e.2.2.2 _ (by simp [hi])))]
        refine CallsTo.run [] Go.Proofs.Tryz.func19 rfl rfl ?_; conv => simp (maxSteps := 2000000) (disch := omega) only [go_sem, Nat.reduceAdd, Nat.reduceSub, Nat.reduceMul, Int.reduceToNat, Nat.reduceEqDiff, Nat.reduceBEq, Nat.reduceBneDiff, Go.Proofs.Tryz.f19, List.replicate]
        refine callk hr ?_
        conv => simp (maxSteps := 2000000) (disch := omega) only [go_sem, Nat.reduceAdd, Nat.reduceSub, Nat.reduceMul, Int.reduceToNat, Nat.reduceEqDiff, Nat.reduceBEq, Nat.reduceBneDiff]
        refine callk (rRightT v (by omega) g2) ?_
        conv => simp (maxSteps := 2000000) (disch := omega) only [go_sem, Nat.reduceAdd, Nat.reduceSub, Nat.reduceMul, Int.reduceToNat, Nat.reduceEqDiff, Nat.reduceBEq, Nat.reduceBneDiff, g3']
        refine loopo [1, 3, 4, 6] (fun i : Nat => [(9, .one (.raw (.int .i64 i)))]) (fun i => i ≤ ms.length ∧ ∀ m ∈ ms.take i, m.ok ∧ 0 ≤ Fc.sign m) (fun i => ms.length - i) 0 ⟨Nat.zero_le _, by simp⟩ ?_ ?_
        · conv => simp (maxSteps := 2000000) (disch := omega) only [go_sem, Nat.reduceAdd, Nat.reduceSub, Nat.reduceMul, Int.reduceToNat, Nat.reduceEqDiff, Nat.reduceBEq, Nat.reduceBneDiff]
          exact StLe.weaken (by repeat' first | exact .nil | refine .cons (by first | exact .refl _ | exact .any _) ?_) rfl
        rintro i ⟨hi, he⟩
        conv => simp (maxSteps := 2000000) (disch := omega) only [go_sem, Nat.reduceAdd, Nat.reduceSub, Nat.reduceMul, Int.reduceToNat, Nat.reduceEqDiff, Nat.reduceBEq, Nat.reduceBneDiff]
        refine condd (fun h => ?_) (fun h => ?_)
        · have hi1 : i < ms.length := by omega
          have hz := getD_sz hm hi1
          by_cases g4 : (ms.getD i Fc.zero).ok
          · by_cases g5 : Fc.sign (ms.getD i Fc.zero) < 0
            · conv => simp (maxSteps := 2000000) (disch := omega) only [go_sem, Nat.reduceAdd, Nat.reduceSub, Nat.reduceMul, Int.reduceToNat, Nat.reduceEqDiff, Nat.reduceBEq, Nat.reduceBneDiff]
              refine callk (rRightT (ms.getD i Fc.zero) (by omega) g4) ?_
              conv => simp (maxSteps := 2000000) (disch := omega) only [go_sem, Nat.reduceAdd, Nat.reduceSub, Nat.reduceMul, Int.reduceToNat, Nat.reduceEqDiff, Nat.reduceBEq, Nat.reduceBneDiff]
              refine callk (rSignF (ms.getD i Fc.zero) g4 (by omega)) ?_
              conv => simp (maxSteps := 2000000) (disch := omega) only [go_sem, Nat.reduceAdd, Nat.reduceSub, Nat.reduceMul, Int.reduceToNat, Nat.reduceEqDiff, Nat.reduceBEq, Nat.reduceBneDiff]
              refine condd (fun _ => ?_) (fun e => absurd g5 e)
              conv => simp (maxSteps := 2000000) (disch := omega) only [go_sem, Nat.reduceAdd, Nat.reduceSub, Nat.reduceMul, Int.reduceToNat, Nat.reduceEqDiff, Nat.reduceBEq, Nat.reduceBneDiff]
              exact ⟨_, rfl, by rw [bad i hi1 (fun e => by omega)]; exact .one (.refl _)⟩
            · conv => simp (maxSteps := 2000000) (disch := omega) only [go_sem, Nat.reduceAdd, Nat.reduceSub, Nat.reduceMul, Int.reduceToNat, Nat.reduceEqDiff, Nat.reduceBEq, Nat.reduceBneDiff]
              refine callk (rRightT (ms.getD i Fc.zero) (by omega) g4) ?_
              conv => simp (maxSteps := 2000000) (disch := omega) only [go_sem, Nat.reduceAdd, Nat.reduceSub, Nat.reduceMul, Int.reduceToNat, Nat.reduceEqDiff, Nat.reduceBEq, Nat.reduceBneDiff]
              refine callk (rSignF (ms.getD i Fc.zero) g4 (by omega)) ?_
              conv => simp (maxSteps := 2000000) (disch := omega) only [go_sem, Nat.reduceAdd, Nat.reduceSub, Nat.reduceMul, Int.reduceToNat, Nat.reduceEqDiff, Nat.reduceBEq, Nat.reduceBneDiff]
              refine condd (fun e => absurd e g5) (fun _ => ?_)
              conv => simp (maxSteps := 2000000) (disch := omega) only [go_sem, Nat.reduceAdd, Nat.reduceSub, Nat.reduceMul, Int.reduceToNat, Nat.reduceEqDiff, Nat.reduceBEq, Nat.reduceBneDiff]
              exact ⟨i + 1, ⟨by omega, all_take Fc.zero he hi1 ⟨g4, by omega⟩⟩, by omega, StLe.weaken (by repeat' first | exact .nil | refine .cons (by first | exact .refl _ | exact .any _) ?_) rfl⟩
          · conv => simp (maxSteps := 2000000) (disch := omega) only [go_sem, Nat.reduceAdd, Nat.reduceSub, Nat.reduceMul, Int.reduceToNat, Nat.reduceEqDiff, Nat.reduceBEq, Nat.reduceBneDiff]
            refine callk (rRightN (ms.getD i Fc.zero) (by omega) g4) ?_
            conv => simp (maxSteps := 2000000) (disch := omega) only [go_sem, Nat.reduceAdd, Nat.reduceSub, Nat.reduceMul, Int.reduceToNat, Nat.reduceEqDiff, Nat.reduceBEq, Nat.reduceBneDiff]
            exact ⟨_, rfl, by rw [bad i hi1 (fun e => g4 e.1)]; exact .one (.refl _)⟩
        · have hi' : i = ms.length := by omega
          rw [hi', List.take_length] at he
          have hM : Bk.okM ms := he
          rw [show Bk.floor f l v ms = Bk.verdict v (Bk.flo f.c ms f.l l) from if_pos ⟨g1, g2, by omega, hM⟩] at hr'
          clear bad
          subst hr'
          conv => simp (maxSteps := 2000000) (disch := omega) only [go_sem, Nat.reduceAdd, Nat.reduceSub, Nat.reduceMul, Int.reduceToNat, Nat.reduceEqDiff, Nat.reduceBEq, Nat.reduceBneDiff]
          refine loopo [1, 3, 4, 6] (fun x : Nat × Fc => [(10, .box x.2.C), (11, .one (.raw (.int .i64 x.1)))])
            (fun x => x.1 ≤ l.length ∧ x.2.ok ∧ x.2.sz ≤ 4096 + x.1 * 16386 ∧ Bk.flo f.c ms f.l l = Bk.flo x.2 (ms.drop (2 * x.1)) (f.l.drop x.1) (l.drop x.1)) (fun x => l.length - x.1) (0, f.c) ⟨Nat.zero_le _, g1.1.2.1, by have := h3.1; dsimp only; omega, rfl⟩ ?_ ?_
          · conv => simp (maxSteps := 2000000) (disch := omega) only [go_sem, Nat.reduceAdd, Nat.reduceSub, Nat.reduceMul, Int.reduceToNat, Nat.reduceEqDiff, Nat.reduceBEq, Nat.reduceBneDiff]
            exact StLe.weaken (by repeat' first | exact .nil | refine .cons (by first | exact .refl _ | exact .any _) ?_) rfl
          rintro ⟨i, s⟩ ⟨hi, hok, hss, he⟩
          simp only at hi hok hss he
          conv => simp (maxSteps := 2000000) (disch := omega) only [go_sem, Nat.reduceAdd, Nat.reduceSub, Nat.reduceMul, Int.reduceToNat, Nat.reduceEqDiff, Nat.reduceBEq, Nat.reduceBneDiff]
          refine condd (fun h => ?_) (fun h => ?_)
          · have hi1 : i < f.l.length := by omega
            have hi2 : i < l.length := by omega
            have hi3 : 2 * i < ms.length := by omega
            have hi4 : 2 * i + 1 < ms.length := by omega
            have b1 := getD_sz h3.2 hi1
            have b2 := Sc.low_sz (getS_sz h4 hi2)
            have b3 := getD_sz hm hi3
            have b4 := getD_sz hm hi4
            have o1 := oks_get g1.1.2.2 hi1
            have o2 := okS_get g1.2 hi2
            have o3 : (ms.getD (2 * i) Fc.zero).ok := (hM _ (by simp [hi3])).1
            have o4 : (ms.getD (2 * i + 1) Fc.zero).ok := (hM _ (by simp [hi4])).1
            have e3 : (2 * (i : Int)).toNat = 2 * i := by omega
            have e4 : (2 * (i : Int) + 1).toNat = 2 * i + 1 := by omega
            rw [drop_cons Fc.zero hi3, drop_cons Fc.zero hi4, drop_cons Fc.zero hi1, drop_cons Sc.zero hi2, flo_cons] at he
            have s1 := Fc.sz_sub (ms.getD (2 * i) Fc.zero) (ms.getD (2 * i + 1) Fc.zero)
            have s2 := Fc.sz_mul (ms.getD (2 * i) Fc.zero) (l.getD i Sc.zero).low
            have s3 := Fc.sz_mul (ms.getD (2 * i + 1) Fc.zero) (l.getD i Sc.zero).high
            have s4 := Fc.sz_add s (Fc.mul (ms.getD (2 * i) Fc.zero) (l.getD i Sc.zero).low)
            have s5 := Fc.sz_sub (Fc.add s (Fc.mul (ms.getD (2 * i) Fc.zero) (l.getD i Sc.zero).low)) (Fc.mul (ms.getD (2 * i + 1) Fc.zero) (l.getD i Sc.zero).high)
            have s6 : i * 16386 ≤ 1024 * 16386 := Nat.mul_le_mul_right _ (by omega)
            have p1 := Fc.sub_ok.2 ⟨o3, o4⟩
            have p2 := Fc.mul_ok.2 ⟨o3, o2.1⟩
            have p3 := Fc.mul_ok.2 ⟨o4, o2.2.1⟩
            have p4 := Fc.add_ok.2 ⟨hok, p2⟩
            rw [add_sub_swap hok p2 p3] at he
            have cS := rSubF _ _ o3 o4 (by omega) (by omega)
            have cC := rCmpF _ _ p1 o1 (by omega) (by omega)
            have cA := rMulF _ _ o3 o2.1 (by omega) (by omega)
            have cB := rMulF _ _ o4 o2.2.1 (by omega) (by omega)
            have cP := rAddF _ _ hok p2 (by omega) (by omega)
            have cM := rSubF _ _ p4 p3 (by omega) (by omega)
            conv => simp (maxSteps := 2000000) (disch := omega) only [go_sem, Nat.reduceAdd, Nat.reduceSub, Nat.reduceMul, Int.reduceToNat, Nat.reduceEqDiff, Nat.reduceBEq, Nat.reduceBneDiff, e3, e4]
            refine callk cS ?_
            conv => simp (maxSteps := 2000000) (disch := omega) only [go_sem, Nat.reduceAdd, Nat.reduceSub, Nat.reduceMul, Int.reduceToNat, Nat.reduceEqDiff, Nat.reduceBEq, Nat.reduceBneDiff]
            refine indk (by kernel_rfl) ?_
            conv => simp (maxSteps := 2000000) (disch := omega) only [go_sem, Nat.reduceAdd, Nat.reduceSub, Nat.reduceMul, Int.reduceToNat, Nat.reduceEqDiff, Nat.reduceBEq, Nat.reduceBneDiff]
            refine callk cC ?_
            conv => simp (maxSteps := 2000000) (disch := omega) only [go_sem, Nat.reduceAdd, Nat.reduceSub, Nat.reduceMul, Int.reduceToNat, Nat.reduceEqDiff, Nat.reduceBEq, Nat.reduceBneDiff]
            refine indk (by kernel_rfl) ?_
            conv => simp (maxSteps := 2000000) (disch := omega) only [go_sem, Nat.reduceAdd, Nat.reduceSub, Nat.reduceMul, Int.reduceToNat, Nat.reduceEqDiff, Nat.reduceBEq, Nat.reduceBneDiff]
            refine condd (fun h6 => ?_) (fun h6 => ?_)
            · have h6' : ¬ Fc.sub (ms.getD (2 * i) Fc.zero) (ms.getD (2 * i + 1) Fc.zero) = f.l.getD i Fc.zero := fun e => h6 ((cmp_zero p1 o1).2 e)
              rw [if_neg h6'] at he
              conv => simp (maxSteps := 2000000) (disch := omega) only [go_sem, Nat.reduceAdd, Nat.reduceSub, Nat.reduceMul, Int.reduceToNat, Nat.reduceEqDiff, Nat.reduceBEq, Nat.reduceBneDiff]
              exact ⟨_, rfl, by rw [he]; exact .one (.refl _)⟩
            · have h6' : Fc.sub (ms.getD (2 * i) Fc.zero) (ms.getD (2 * i + 1) Fc.zero) = f.l.getD i Fc.zero := (cmp_zero p1 o1).1 (by omega)
              rw [if_pos h6'] at he
              conv => simp (maxSteps := 2000000) (disch := omega) only [go_sem, Nat.reduceAdd, Nat.reduceSub, Nat.reduceMul, Int.reduceToNat, Nat.reduceEqDiff, Nat.reduceBEq, Nat.reduceBneDiff, e3]
              refine callk cA ?_
              conv => simp (maxSteps := 2000000) (disch := omega) only [go_sem, Nat.reduceAdd, Nat.reduceSub, Nat.reduceMul, Int.reduceToNat, Nat.reduceEqDiff, Nat.reduceBEq, Nat.reduceBneDiff]
              refine indk (by kernel_rfl) ?_
              conv => simp (maxSteps := 2000000) (disch := omega) only [go_sem, Nat.reduceAdd, Nat.reduceSub, Nat.reduceMul, Int.reduceToNat, Nat.reduceEqDiff, Nat.reduceBEq, Nat.reduceBneDiff, e4]
              refine callk cB ?_
              conv => simp (maxSteps := 2000000) (disch := omega) only [go_sem, Nat.reduceAdd, Nat.reduceSub, Nat.reduceMul, Int.reduceToNat, Nat.reduceEqDiff, Nat.reduceBEq, Nat.reduceBneDiff]
              refine indk (by kernel_rfl) ?_
              conv => simp (maxSteps := 2000000) (disch := omega) only [go_sem, Nat.reduceAdd, Nat.reduceSub, Nat.reduceMul, Int.reduceToNat, Nat.reduceEqDiff, Nat.reduceBEq, Nat.reduceBneDiff]
              refine callk cP ?_
              conv => simp (maxSteps := 2000000) (disch := omega) only [go_sem, Nat.reduceAdd, Nat.reduceSub, Nat.reduceMul, Int.reduceToNat, Nat.reduceEqDiff, Nat.reduceBEq, Nat.reduceBneDiff]
              refine callk cM ?_
              conv => simp (maxSteps := 2000000) (disch := omega) only [go_sem, Nat.reduceAdd, Nat.reduceSub, Nat.reduceMul, Int.reduceToNat, Nat.reduceEqDiff, Nat.reduceBEq, Nat.reduceBneDiff]
              exact ⟨(i + 1, Fc.sub (Fc.add s (Fc.mul (ms.getD (2 * i) Fc.zero) (l.getD i Sc.zero).low)) (Fc.mul (ms.getD (2 * i + 1) Fc.zero) (l.getD i Sc.zero).high)), ⟨by dsimp only; omega, Fc.sub_ok.2 ⟨p4, p3⟩, by dsimp only; omega, he⟩, by dsimp only; omega, StLe.weaken (by repeat' first | exact .nil | refine .cons (by first | exact .refl _ | exact .any _) ?_) rfl⟩
          · have hi' : i = l.length := by omega
            have hi6 : i * 16386 ≤ 1024 * 16386 := Nat.mul_le_mul_right _ (by omega)
            rw [hi', List.drop_length] at he
            have he : Bk.flo f.c ms f.l l = some s := by
              rw [he, List.drop_eq_nil_of_le (by omega)]
              rfl
            rw [he]
            conv => simp (maxSteps := 2000000) (disch := omega) only [go_sem, Nat.reduceAdd, Nat.reduceSub, Nat.reduceMul, Int.reduceToNat, Nat.reduceEqDiff, Nat.reduceBEq, Nat.reduceBneDiff]
            refine callk (rCmpF s v hok g2 (by omega) (by omega)) ?_
            conv => simp (maxSteps := 2000000) (disch := omega) only [go_sem, Nat.reduceAdd, Nat.reduceSub, Nat.reduceMul, Int.reduceToNat, Nat.reduceEqDiff, Nat.reduceBEq, Nat.reduceBneDiff]
            exact ⟨_, rfl, .one (.refl _)⟩
      · have g3d := decide_eq_true (show (ms.length : Int) ≠ 2 * (l.length : Int) from g3)
        rw [show Bk.floor f l v ms = false from if_neg (fun h => g3 (by have := h.2.2.1; omega))] at hr'
        subst hr'
        refine CallsTo.run [] Go.Proofs.Tryz.func19 rfl rfl ?_; conv => simp (maxSteps := 2000000) (disch := omega) only [go_sem, Nat.reduceAdd, Nat.reduceSub, Nat.reduceMul, Int.reduceToNat, Nat.reduceEqDiff, Nat.reduceBEq, Nat.reduceBneDiff, Go.Proofs.Tryz.f19, List.replicate]
        refine callk hr ?_
        conv => simp (maxSteps := 2000000) (disch := omega) only [go_sem, Nat.reduceAdd, Nat.reduceSub, Nat.reduceMul, Int.reduceToNat, Nat.reduceEqDiff, Nat.reduceBEq, Nat.reduceBneDiff]
        refine callk (rRightT v (by omega) g2) ?_
        conv => simp (maxSteps := 2000000) (disch := omega) only [go_sem, Nat.reduceAdd, Nat.reduceSub, Nat.reduceMul, Int.reduceToNat, Nat.reduceEqDiff, Nat.reduceBEq, Nat.reduceBneDiff, g3d]
        exact ⟨_, rfl, .one (.refl _)⟩
    · rw [show Bk.floor f l v ms = false from if_neg (fun h => g2 h.2.1)] at hr'
      subst hr'
      refine CallsTo.run [] Go.Proofs.Tryz.func19 rfl rfl ?_; conv => simp (maxSteps := 2000000) (disch := omega) only [go_sem, Nat.reduceAdd, Nat.reduceSub, Nat.reduceMul, Int.reduceToNat, Nat.reduceEqDiff, Nat.reduceBEq, Nat.reduceBneDiff, Go.Proofs.Tryz.f19, List.replicate]
      refine callk hr ?_
      conv => simp (maxSteps := 2000000) (disch := omega) only [go_sem, Nat.reduceAdd, Nat.reduceSub, Nat.reduceMul, Int.reduceToNat, Nat.reduceEqDiff, Nat.reduceBEq, Nat.reduceBneDiff]
      refine callk (rRightN v (by omega) g2) ?_
      conv => simp (maxSteps := 2000000) (disch := omega) only [go_sem, Nat.reduceAdd, Nat.reduceSub, Nat.reduceMul, Int.reduceToNat, Nat.reduceEqDiff, Nat.reduceBEq, Nat.reduceBneDiff]
      exact ⟨_, rfl, .one (.refl _)⟩
  · rw [decide_eq_false g1] at hr
    rw [show Bk.floor f l v ms = false from if_neg (fun h => g1 h.1)] at hr'
    subst hr'
    refine CallsTo.run [] Go.Proofs.Tryz.func19 rfl rfl ?_; conv => simp (maxSteps := 2000000) (disch := omega) only [go_sem, Nat.reduceAdd, Nat.reduceSub, Nat.reduceMul, Int.reduceToNat, Nat.reduceEqDiff, Nat.reduceBEq, Nat.reduceBneDiff, Go.Proofs.Tryz.f19, List.replicate]
    refine callk hr ?_
    conv => simp (maxSteps := 2000000) (disch := omega) only [go_sem, Nat.reduceAdd, Nat.reduceSub, Nat.reduceMul, Int.reduceToNat, Nat.reduceEqDiff, Nat.reduceBEq, Nat.reduceBneDiff]
    exact ⟨_, rfl, .one (.refl _)⟩
end Go.Slot.T

/- The statement BackBounds: its walk. -/
namespace Go.Slot.T
open Go Go.RowKit Go.Slot
open Go.Proofs.Tryz (prog)
set_option maxRecDepth 10000
set_option maxHeartbeats 4000000

/-- arguments that say more -/
theorem CallsTo.more {P : Program} {f : FuncId} {args args' : List AV} {res : AV} (h : CallsTo P f args res) (hle : LeS args' args) : CallsTo P f args' res :=
  ⟨h.1, fun M w vs hM hr => h.2 M w vs hM (by
    clear h
    induction hle generalizing vs with
    | nil => exact hr
    | cons h1 _ ih =>
      cases vs with
      | nil => exact hr.elim
      | cons v vs => exact ⟨RdB.le h1 hr.1, ih vs hr.2⟩)⟩
theorem insB_of : ∀ {vs : List Rat} {ps : List (Rat × Rat)}, inP vs ps → insB (vs.map Fc.of) (ps.map Sc.of) = true
  | [], [], _ => rfl
  | v :: vs, p :: ps, h => by
    show (decide ((Sc.of p).has (Fc.of v)) && insB (vs.map Fc.of) (ps.map Sc.of)) = true
    rw [decide_eq_true ((has_of p v).2 h.1), insB_of h.2]; rfl
theorem insB_ex : ∀ {v : List Fc} {ps : List (Rat × Rat)}, insB v (ps.map Sc.of) = true → ∃ vs : List Rat, v = vs.map Fc.of ∧ inP vs ps
  | [], [], _ => ⟨[], rfl, trivial⟩
  | [], _ :: _, h => by cases h
  | _ :: _, [], h => by cases h
  | f :: v, p :: ps, h => by
    have h : (decide ((Sc.of p).has f) && insB v (ps.map Sc.of)) = true := h
    rw [Bool.and_eq_true] at h
    have h1 := of_decide_eq_true h.1
    obtain ⟨q, rfl⟩ := Fc.ok_ex h1.2.1
    obtain ⟨vs, rfl, hi⟩ := insB_ex h.2
    exact ⟨q :: vs, rfl, (has_of p q).1 h1, hi⟩
theorem intM1 : CallsTo prog 21 [.one (.raw (.int .i64 (-1)))] (.agg (Fc.of (-1)).C) := rIntF (-1) (by decide)
theorem sameF_true (a : Fc) (h : a.sz ≤ 67108864) : CallsTo prog 16 [.agg a.C, .agg a.C] (.one (.raw (.bool true))) := by
  have := rSameF a a h h
  rwa [decide_eq_true rfl] at this
theorem sameZ : CallsTo prog 15 [.agg Sc.zero.C, .agg [.raw (.int .i64 0), .zc, .raw (.int .i64 0), .zc, .raw (.int .i64 0), .zc, .raw (.int .i64 0), .zc]] (.one (.raw (.bool true))) := by
  have := r10Same Sc.zero Sc.zero (by decide) (by decide)
  rw [decide_eq_true rfl] at this
  exact CallsTo.more this (.cons (.refl _) (.cons zeroS .nil))
end Go.Slot.T

/- The statement BackTells: its walk. -/
namespace Go.Slot.T
open Go Go.RowKit Go.Slot
open Go.Proofs.Tryz (prog)
set_option maxRecDepth 10000
set_option maxHeartbeats 4000000

theorem nar_sz {n : Nat} : ∀ (cs : List Fc) (l : List Sc) (i : Nat) (st : Int × Fc), (∀ c ∈ cs, c.sz ≤ n) → (∀ s ∈ l, s.sz ≤ n) → st.2.sz ≤ 6 * n + 2 → (Bk.nar i st cs l).2.sz ≤ 6 * n + 2
  | [], _, _, _, _, _, h => by unfold Bk.nar; exact h
  | _ :: _, [], _, _, _, _, h => by unfold Bk.nar; exact h
  | c :: cs, s :: l, i, st, h1, h2, h => by
    rw [nar_cons]
    refine nar_sz cs l _ _ (fun c' h' => h1 c' (by simp [h'])) (fun s' h' => h2 s' (by simp [h'])) ?_
    split
    · exact swing_sz (h1 c (by simp)) (h2 s (by simp))
    · exact h
theorem narrow_sz {f : Af} {l : List Sc} (h : fewC f l) : (Bk.narrow f l).2.1.sz ≤ 26 := by
  obtain ⟨h1, h2, h3, h4, h5⟩ := h
  unfold Bk.narrow
  split
  · split
    · exact Nat.zero_le _
    · have := sz_zero1
      exact nar_sz (n := 4) _ _ _ _ h5 h2 (by dsimp only; omega)
  · exact Nat.zero_le _
theorem sameL_true (a : List Fc) (la : a.length ≤ 1048576) (h : ∀ f ∈ a, f.sz ≤ 67108864) : CallsTo prog 17 [.one (.sl 4 (a.map Fc.C)), .one (.sl 4 (a.map Fc.C))] (.one (.raw (.bool true))) := by
  have := r46SameFracs a a la la h h
  rwa [decide_eq_true rfl] at this
theorem same10_true (a : Sc) (h : a.sz ≤ 67108864) : CallsTo prog 15 [.agg a.C, .agg a.C] (.one (.raw (.bool true))) := by
  have := r10Same a a h h
  rwa [decide_eq_true rfl] at this
theorem wTells (f : Af) (l : List Sc) (v : Fc) (ms : List Fc) (hr : room f l) (hv : v.sz ≤ 67108864) (hm : roomF ms) :
    CallsTo prog 3 [.agg f.C, .one (.sl 8 (l.map Sc.C)), .agg v.C, .one (.sl 4 (ms.map Fc.C))] (.one (.raw (.bool true))) := by
  have c1 := wFew hr
  have c2 := wFew4 hv
  have c3 := r46FewFracs ms 18 (by decide) hm.1 hm.2
  by_cases h1 : fewC f l
  · rw [decide_eq_true h1] at c1
    by_cases h2 : v.sz ≤ 4
    · rw [decide_eq_true h2] at c2
      by_cases h3 : fewF ms 18
      · rw [decide_eq_true h3] at c3
        have hs := few_small h1
        have bz := bounds_sz h1
        have bz' : (Bk.bounds f l).sz ≤ 67108864 := by show max _ _ ≤ _; omega
        have nz := narrow_sz h1
        have lz : ∀ g ∈ (if Bk.ok f l then Bk.lows f l else []), g.sz ≤ 67108864 := by
          intro g hg
          split at hg
          · have := lows_sz h1.2.1 g hg; omega
          · simp at hg
        have ll : (if Bk.ok f l then Bk.lows f l else []).length ≤ 1048576 := by
          split
          · have := h1.1; unfold Bk.lows; simp; omega
          · exact Nat.zero_le _
        have vz : (if Bk.ok f l then f.at' (Bk.lows f l) else Fc.zero).sz ≤ 67108864 := by
          split
          · obtain ⟨h1, h2, h3, h4, h5⟩ := h1
            have := at_sz (n := 8) (a := f) (v := Bk.lows f l) (B := 6) ⟨by omega, fun g hg => by have := h5 g hg; omega⟩ (lows_sz h2) h4
            omega
          · exact Nat.zero_le _
        have cB1 := cBounds f l hs
        have cB2 := r46Bounds f l hs
        have cN1 := cNarrow f l hs
        have cN2 := r46Narrow f l hs
        have cL1 := cLeast f l hs
        have cL2 := r46Least f l hs
        have cF1 := cFloor f l v ms hs (by omega) (fun m h => by have := h3.2 m h; omega) hm.1
        have cF2 := r46Floor f l v ms hs (by omega) (fun m h => by have := h3.2 m h; omega) hm.1
        have k1 := same10_true (Bk.bounds f l) bz'
        have k2 := sameF_true (Bk.narrow f l).2.1 (by omega)
        have k3 := sameL_true _ ll lz
        have k4 := sameF_true _ vz
        generalize Fc.er (Bk.ok f l) = e at *
        generalize Bk.bounds f l = B at *
        generalize Bk.narrow f l = R at *
        generalize (if Bk.ok f l then Bk.lows f l else []) = L at *
        generalize (if Bk.ok f l then f.at' (Bk.lows f l) else Fc.zero) = V at *
        generalize Bk.floor f l v ms = F at *
        obtain ⟨a, sw, er⟩ := R
        dsimp only at cN1 cN2 k2
        have d1 : decide (e ≠ e) = false := decide_eq_false (fun h => h rfl)
        have d2 : decide (er ≠ er) = false := decide_eq_false (fun h => h rfl)
        have d3 : decide (a ≠ a) = false := decide_eq_false (fun h => h rfl)
        refine CallsTo.run [] Go.Proofs.Tryz.func3 rfl rfl ?_; conv => simp (maxSteps := 2000000) (disch := omega) only [go_sem, Nat.reduceAdd, Nat.reduceSub, Nat.reduceMul, Int.reduceToNat, Nat.reduceEqDiff, Nat.reduceBEq, Nat.reduceBneDiff, Go.Proofs.Tryz.f3, List.replicate]
        refine callk wSane ?_
        conv => simp (maxSteps := 2000000) (disch := omega) only [go_sem, Nat.reduceAdd, Nat.reduceSub, Nat.reduceMul, Int.reduceToNat, Nat.reduceEqDiff, Nat.reduceBEq, Nat.reduceBneDiff]
        refine callk c1 ?_
        conv => simp (maxSteps := 2000000) (disch := omega) only [go_sem, Nat.reduceAdd, Nat.reduceSub, Nat.reduceMul, Int.reduceToNat, Nat.reduceEqDiff, Nat.reduceBEq, Nat.reduceBneDiff]
        refine callk c2 ?_
        conv => simp (maxSteps := 2000000) (disch := omega) only [go_sem, Nat.reduceAdd, Nat.reduceSub, Nat.reduceMul, Int.reduceToNat, Nat.reduceEqDiff, Nat.reduceBEq, Nat.reduceBneDiff]
        refine callk c3 ?_
        conv => simp (maxSteps := 2000000) (disch := omega) only [go_sem, Nat.reduceAdd, Nat.reduceSub, Nat.reduceMul, Int.reduceToNat, Nat.reduceEqDiff, Nat.reduceBEq, Nat.reduceBneDiff]
        refine callk cB1 ?_
        conv => simp (maxSteps := 2000000) (disch := omega) only [go_sem, Nat.reduceAdd, Nat.reduceSub, Nat.reduceMul, Int.reduceToNat, Nat.reduceEqDiff, Nat.reduceBEq, Nat.reduceBneDiff]
        refine callk cB2 ?_
        conv => simp (maxSteps := 2000000) (disch := omega) only [go_sem, Nat.reduceAdd, Nat.reduceSub, Nat.reduceMul, Int.reduceToNat, Nat.reduceEqDiff, Nat.reduceBEq, Nat.reduceBneDiff]
        refine callk cN1 ?_
        conv => simp (maxSteps := 2000000) (disch := omega) only [go_sem, Nat.reduceAdd, Nat.reduceSub, Nat.reduceMul, Int.reduceToNat, Nat.reduceEqDiff, Nat.reduceBEq, Nat.reduceBneDiff]
        refine callk cN2 ?_
        conv => simp (maxSteps := 2000000) (disch := omega) only [go_sem, Nat.reduceAdd, Nat.reduceSub, Nat.reduceMul, Int.reduceToNat, Nat.reduceEqDiff, Nat.reduceBEq, Nat.reduceBneDiff]
        refine callk cL1 ?_
        conv => simp (maxSteps := 2000000) (disch := omega) only [go_sem, Nat.reduceAdd, Nat.reduceSub, Nat.reduceMul, Int.reduceToNat, Nat.reduceEqDiff, Nat.reduceBEq, Nat.reduceBneDiff]
        refine callk cL2 ?_
        conv => simp (maxSteps := 2000000) (disch := omega) only [go_sem, Nat.reduceAdd, Nat.reduceSub, Nat.reduceMul, Int.reduceToNat, Nat.reduceEqDiff, Nat.reduceBEq, Nat.reduceBneDiff, d1, d2, d3]
        refine callk k1 ?_
        conv => simp (maxSteps := 2000000) (disch := omega) only [go_sem, Nat.reduceAdd, Nat.reduceSub, Nat.reduceMul, Int.reduceToNat, Nat.reduceEqDiff, Nat.reduceBEq, Nat.reduceBneDiff, d1, d2, d3]
        refine callk k2 ?_
        conv => simp (maxSteps := 2000000) (disch := omega) only [go_sem, Nat.reduceAdd, Nat.reduceSub, Nat.reduceMul, Int.reduceToNat, Nat.reduceEqDiff, Nat.reduceBEq, Nat.reduceBneDiff, d1, d2, d3]
        refine callk k3 ?_
        conv => simp (maxSteps := 2000000) (disch := omega) only [go_sem, Nat.reduceAdd, Nat.reduceSub, Nat.reduceMul, Int.reduceToNat, Nat.reduceEqDiff, Nat.reduceBEq, Nat.reduceBneDiff, d1, d2, d3]
        refine callk k4 ?_
        conv => simp (maxSteps := 2000000) (disch := omega) only [go_sem, Nat.reduceAdd, Nat.reduceSub, Nat.reduceMul, Int.reduceToNat, Nat.reduceEqDiff, Nat.reduceBEq, Nat.reduceBneDiff, d1, d2, d3]
        refine callk cF1 ?_
        conv => simp (maxSteps := 2000000) (disch := omega) only [go_sem, Nat.reduceAdd, Nat.reduceSub, Nat.reduceMul, Int.reduceToNat, Nat.reduceEqDiff, Nat.reduceBEq, Nat.reduceBneDiff]
        refine callk cF2 ?_
        conv => simp (maxSteps := 2000000) (disch := omega) only [go_sem, Nat.reduceAdd, Nat.reduceSub, Nat.reduceMul, Int.reduceToNat, Nat.reduceEqDiff, Nat.reduceBEq, Nat.reduceBneDiff]
        refine indk (by kernel_rfl) ?_
        conv => simp (maxSteps := 2000000) (disch := omega) only [go_sem, Nat.reduceAdd, Nat.reduceSub, Nat.reduceMul, Int.reduceToNat, Nat.reduceEqDiff, Nat.reduceBEq, Nat.reduceBneDiff]
        exact ⟨_, rfl, .one (.refl _)⟩
      · rw [decide_eq_false h3] at c3
        refine CallsTo.run [] Go.Proofs.Tryz.func3 rfl rfl ?_; conv => simp (maxSteps := 2000000) (disch := omega) only [go_sem, Nat.reduceAdd, Nat.reduceSub, Nat.reduceMul, Int.reduceToNat, Nat.reduceEqDiff, Nat.reduceBEq, Nat.reduceBneDiff, Go.Proofs.Tryz.f3, List.replicate]
        refine callk wSane ?_
        conv => simp (maxSteps := 2000000) (disch := omega) only [go_sem, Nat.reduceAdd, Nat.reduceSub, Nat.reduceMul, Int.reduceToNat, Nat.reduceEqDiff, Nat.reduceBEq, Nat.reduceBneDiff]
        refine callk c1 ?_
        conv => simp (maxSteps := 2000000) (disch := omega) only [go_sem, Nat.reduceAdd, Nat.reduceSub, Nat.reduceMul, Int.reduceToNat, Nat.reduceEqDiff, Nat.reduceBEq, Nat.reduceBneDiff]
        refine callk c2 ?_
        conv => simp (maxSteps := 2000000) (disch := omega) only [go_sem, Nat.reduceAdd, Nat.reduceSub, Nat.reduceMul, Int.reduceToNat, Nat.reduceEqDiff, Nat.reduceBEq, Nat.reduceBneDiff]
        refine callk c3 ?_
        conv => simp (maxSteps := 2000000) (disch := omega) only [go_sem, Nat.reduceAdd, Nat.reduceSub, Nat.reduceMul, Int.reduceToNat, Nat.reduceEqDiff, Nat.reduceBEq, Nat.reduceBneDiff]
        exact ⟨_, rfl, .one (.refl _)⟩
    · rw [decide_eq_false h2] at c2
      refine CallsTo.run [] Go.Proofs.Tryz.func3 rfl rfl ?_; conv => simp (maxSteps := 2000000) (disch := omega) only [go_sem, Nat.reduceAdd, Nat.reduceSub, Nat.reduceMul, Int.reduceToNat, Nat.reduceEqDiff, Nat.reduceBEq, Nat.reduceBneDiff, Go.Proofs.Tryz.f3, List.replicate]
      refine callk wSane ?_
      conv => simp (maxSteps := 2000000) (disch := omega) only [go_sem, Nat.reduceAdd, Nat.reduceSub, Nat.reduceMul, Int.reduceToNat, Nat.reduceEqDiff, Nat.reduceBEq, Nat.reduceBneDiff]
      refine callk c1 ?_
      conv => simp (maxSteps := 2000000) (disch := omega) only [go_sem, Nat.reduceAdd, Nat.reduceSub, Nat.reduceMul, Int.reduceToNat, Nat.reduceEqDiff, Nat.reduceBEq, Nat.reduceBneDiff]
      refine callk c2 ?_
      conv => simp (maxSteps := 2000000) (disch := omega) only [go_sem, Nat.reduceAdd, Nat.reduceSub, Nat.reduceMul, Int.reduceToNat, Nat.reduceEqDiff, Nat.reduceBEq, Nat.reduceBneDiff]
      exact ⟨_, rfl, .one (.refl _)⟩
  · rw [decide_eq_false h1] at c1
    refine CallsTo.run [] Go.Proofs.Tryz.func3 rfl rfl ?_; conv => simp (maxSteps := 2000000) (disch := omega) only [go_sem, Nat.reduceAdd, Nat.reduceSub, Nat.reduceMul, Int.reduceToNat, Nat.reduceEqDiff, Nat.reduceBEq, Nat.reduceBneDiff, Go.Proofs.Tryz.f3, List.replicate]
    refine callk wSane ?_
    conv => simp (maxSteps := 2000000) (disch := omega) only [go_sem, Nat.reduceAdd, Nat.reduceSub, Nat.reduceMul, Int.reduceToNat, Nat.reduceEqDiff, Nat.reduceBEq, Nat.reduceBneDiff]
    refine callk c1 ?_
    conv => simp (maxSteps := 2000000) (disch := omega) only [go_sem, Nat.reduceAdd, Nat.reduceSub, Nat.reduceMul, Int.reduceToNat, Nat.reduceEqDiff, Nat.reduceBEq, Nat.reduceBneDiff]
    exact ⟨_, rfl, .one (.refl _)⟩
end Go.Slot.T

/-
  BackTells: for all arguments of bulk at most 1048576 the statement returns true, and the arguments read as before.
-/
namespace Go.Proofs.YtieohkidmjglgaaGreat
set_option maxRecDepth 100000
open Go Go.Slot Go.ChangeShapes Go.WideShapes Go.RowKit
theorem backTells_params : Tryz.f3.params = #[29, 30, 26, 27] := by kernel_rfl
theorem backTells_contract (H : Type) (enc : TypeId × Value → H) (W : World) (base : Nat) (args : Array Value) (ds gs : List (DataW H)) (before : List MemPlace)
    (hval : ∀ (j : Nat) t v, Tryz.f3.params[j]? = some t → args[j]? = some v → Value.okWide Tryz.prog W .any base t v)
    (hW : DataW.Whole enc Tryz.prog Tryz.f3.params.toList Rows.backTellsSpec.vars false W args.toList ds gs before) (hk : Rows.uptoSmall H (ds ++ gs) = true) :
    Calls Tryz.prog 3 args W fun e W' => ∃ v, e = .returned v ∧ Rows.backTellsSpec.post enc Tryz.prog Tryz.f3 false true false false W args v W' := by
  have hW' := hW
  obtain ⟨p, q, hA0, hV, rfl, hfz, hnd⟩ := hW
  have hA : DataW.TrodAll enc Tryz.prog W 0 (fun _ => true) true Tryz.f3.params.toList args.toList ds p := hA0
  rw [backTells_params] at hA hval
  obtain ⟨v0, v1, v2, v3, d0, d1, d2, d3, p0, p1, p2, p3, rfl, rfl, rfl, h0, h1, h2, h3⟩ := trodAll_four hA
  have hb := bulk_bound hk
  obtain ⟨x0, r0, l0, s0⟩ := openA (hval 0 _ v0 rfl rfl) h0 (hb d0 (by simp))
  obtain ⟨x1, r1, l1, s1⟩ := openSs (hval 1 _ v1 rfl rfl) h1 (hb d1 (by simp))
  obtain ⟨x2, r2, s2⟩ := openF (hval 2 _ v2 rfl rfl) h2 (hb d2 (by simp))
  obtain ⟨x3, r3, l3, s3⟩ := openFs (hval 3 _ v3 rfl rfl) h3 (hb d3 (by simp))
  refine (ended (T.wTells x0 x1 x2 x3 ⟨l0, l1, s0, s1⟩ s2 ⟨l3, s3⟩) (vs := [v0, v1, v2, v3]) ⟨r0, r1, r2, r3, trivial⟩).mono fun e W' ⟨he, hbel⟩ => ?_
  refine ⟨_, he, law_post (P := Tryz.prog) (f := Tryz.f3) (s := Rows.backTellsSpec) (tb := 4) laid0 (by rw [backTells_params]; decide +kernel) rfl (by kernel_rfl) Tryz.underlying4 (fun ds gs hds hgs => ?_) hW' hbel⟩
  subst hgs
  rw [backTells_params] at hds
  obtain ⟨v0, v1, v2, v3, d0, d1, d2, d3, p0, p1, p2, p3, _, rfl, _, _, _, _, _⟩ := trodAll_four hds
  exact ⟨rfl, rfl, rfl⟩
theorem backTells_lifted (os : Os) (started : os.Started) (H : Type) (enc : TypeId × Value → H) (F : Stop.Interp) :
    ReturnsInHanded {} Tryz.checked os 3 .any ((Rows.OpenSpec.upto Rows.backTellsSpec).pre6 enc Tryz.prog Tryz.f3 Rows.backTellsUptoRow.domain false) (((Rows.OpenSpec.upto Rows.backTellsSpec).at F).post enc Tryz.prog Tryz.f3 false true false false) := by
  refine returnsInHanded_of_cond (C := Tryz.checked) (s := Rows.OpenSpec.upto Rows.backTellsSpec) (k := Rows.uptoSmall) rfl ownKnob0 started (by kernel_rfl) Tryz.func3
    (OpenSpec.witness (enc := enc) (C := Tryz.checked) (s := Rows.OpenSpec.upto Rows.backTellsSpec) (k := Rows.uptoSmall) rfl false ⟨#[], #[zA, .slice none 0 0, zF, .slice none 0 0], []⟩ 8 (by kernel_rfl) (by kernel_rfl) (by kernel_rfl)
      (x := ([dA, .nil, dF, .nil], [], [])) (by kernel_rfl) rfl (by kernel_rfl)) ?_
  intro W base args ds gs before hval hW _ hk _
  exact backTells_contract H enc W base args ds gs before hval hW hk
theorem backTells_over : Rows.backTellsUptoRow.holds Tryz.pinned (Rows.OpenSpec.upto Rows.backTellsSpec) :=
  OpenClaim.holds_of_cond 3 Tryz.f3 rfl rfl rfl rfl rfl rfl rfl ⟨rfl, rfl, rfl, rfl, rfl⟩ rfl rfl rfl rfl rfl (by kernel_rfl) Tryz.func3 (by kernel_rfl)
    (of_decide_eq_true (by kernel_rfl)) (by unfold Func.isWrapper; first | (rw [if_pos (by decide +kernel)]; kernel_rfl) | (rw [if_neg (by decide +kernel)]; exact ⟨rfl, rfl⟩))
    (fun os started H enc _ F => backTells_lifted os started H enc F)
theorem backTells_holds : Rows.BackTellsUptoSaid := backTells_over
end Go.Proofs.YtieohkidmjglgaaGreat
