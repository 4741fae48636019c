import Derived.Test.YtieohkidmjglgaaZ4
import Derived.Test.YtieohkidmjglgaaRows
/- Contracts of package big: Right, Compare, Neg, Add, Sub, Mul of right big integers. -/
namespace Go.Slot.T
open Go Go.RowKit Go.Slot
open Go.Proofs.Try (prog)
set_option maxRecDepth 10000
set_option maxHeartbeats 4000000

/-- not too long -/
abbrev okZ (z : Int) : Prop := (dig z.natAbs).length ≤ 268435456

theorem cRightZ (z : Int) (hz : okZ z) : CallsTo prog 38 [.agg [.raw (.int .i64 (sg z)), .ints .i64 (dig z.natAbs)]] (.one (.raw (.bool true))) := by
  have h := cRight (sg z) (dig z.natAbs) (by omega)
  rw [decide_eq_true (bigRight_z z)] at h
  exact h
theorem cRightN (s : Int) (L : List Int) (hL : L.length ≤ 268435456) (h : ¬ BigRight s L) : CallsTo prog 38 [.agg [.raw (.int .i64 s), .ints .i64 L]] (.one (.raw (.bool false))) := by
  have h' := cRight s L (by omega)
  rw [decide_eq_false h] at h'
  exact h'
theorem cSignedZ (s z : Int) (hz : (dig z.natAbs).length ≤ 1073741824) (h : (s = 1 ∧ 0 ≤ z) ∨ (s = -1 ∧ z ≤ 0) ∨ z = 0) :
    CallsTo prog 69 [.one (.raw (.int .i64 s)), .one (.ints .i64 (dig z.natAbs))] (.agg [.raw (.int .i64 (sg z)), .ints .i64 (dig z.natAbs)]) := by
  have h' := cSigned s (dig z.natAbs) (by omega)
  unfold bigC at h'
  rw [zC_of h] at h'
  exact h'
theorem cCheckedZ (z : Int) : CallsTo prog 66 [.one (.raw (.bool true)), .agg [.raw (.int .i64 (sg z)), .ints .i64 (dig z.natAbs)]]
    (.tup [.agg [.raw (.int .i64 (sg z)), .ints .i64 (dig z.natAbs)], .one (.raw (.int .i64 0))]) := cChecked true (sg z) (dig z.natAbs)

theorem cCompareZ (x y : Int) (hx : okZ x) (hy : okZ y) :
    CallsTo prog 48 [.agg [.raw (.int .i64 (sg x)), .ints .i64 (dig x.natAbs)], .agg [.raw (.int .i64 (sg y)), .ints .i64 (dig y.natAbs)]] (.one (.raw (.int .i64 (ord x y)))) := by
  have sx := sg_cases x
  have sy := sg_cases y
  refine CallsTo.run [] Go.Proofs.Try.func48 rfl rfl ?_; conv => simp (maxSteps := 2000000) (disch := omega) only [go_sem, Nat.reduceAdd, Nat.reduceSub, Nat.reduceMul, Int.reduceToNat, Nat.reduceEqDiff, Nat.reduceBEq, Nat.reduceBneDiff, Go.Proofs.Try.f48, List.replicate]
  refine callk (cRightZ x hx) ?_
  conv => simp (maxSteps := 2000000) (disch := omega) only [go_sem, Nat.reduceAdd, Nat.reduceSub, Nat.reduceMul, Int.reduceToNat, Nat.reduceEqDiff, Nat.reduceBEq, Nat.reduceBneDiff]
  refine callk (cRightZ y hy) ?_
  conv => simp (maxSteps := 2000000) (disch := omega) only [go_sem, Nat.reduceAdd, Nat.reduceSub, Nat.reduceMul, Int.reduceToNat, Nat.reduceEqDiff, Nat.reduceBEq, Nat.reduceBneDiff]
  refine condd (fun h => ?_) (fun h => ?_)
  · conv => simp (maxSteps := 2000000) (disch := omega) only [go_sem, Nat.reduceAdd, Nat.reduceSub, Nat.reduceMul, Int.reduceToNat, Nat.reduceEqDiff, Nat.reduceBEq, Nat.reduceBneDiff]
    refine callk (cCmp _ _) ?_
    conv => simp (maxSteps := 2000000) (disch := omega) only [go_sem, Nat.reduceAdd, Nat.reduceSub, Nat.reduceMul, Int.reduceToNat, Nat.reduceEqDiff, Nat.reduceBEq, Nat.reduceBneDiff]
    exact ⟨_, rfl, by rw [ord_sg x y h]; exact .one (.refl _)⟩
  · have h : sg x = sg y := by omega
    have ho : -1 ≤ ord (num (dig x.natAbs)) (num (dig y.natAbs)) ∧ ord (num (dig x.natAbs)) (num (dig y.natAbs)) ≤ 1 := by unfold ord; repeat' split <;> omega
    have hm := ord_mul x y h
    have ho' : -1 ≤ ord x y ∧ ord x y ≤ 1 := by unfold ord; repeat' split <;> omega
    conv => simp (maxSteps := 2000000) (disch := omega) only [go_sem, Nat.reduceAdd, Nat.reduceSub, Nat.reduceMul, Int.reduceToNat, Nat.reduceEqDiff, Nat.reduceBEq, Nat.reduceBneDiff]
    refine callk (cCompare _ _ (dig_digits _) (dig_norm _) (dig_digits _) (dig_norm _) (by omega) (by omega)) ?_
    conv => simp (maxSteps := 2000000) (disch := omega) only [go_sem, Nat.reduceAdd, Nat.reduceSub, Nat.reduceMul, Int.reduceToNat, Nat.reduceEqDiff, Nat.reduceBEq, Nat.reduceBneDiff, hm]
    refine indk (by kernel_rfl) ?_
    conv => simp (maxSteps := 2000000) (disch := omega) only [go_sem, Nat.reduceAdd, Nat.reduceSub, Nat.reduceMul, Int.reduceToNat, Nat.reduceEqDiff, Nat.reduceBEq, Nat.reduceBneDiff]
    exact ⟨_, rfl, .one (.refl _)⟩

theorem cNegZ (x : Int) (hx : okZ x) :
    CallsTo prog 52 [.agg [.raw (.int .i64 (sg x)), .ints .i64 (dig x.natAbs)]] (.agg [.raw (.int .i64 (sg (-x))), .ints .i64 (dig (-x).natAbs)]) := by
  have sx := sg_cases x
  have e : (-x).natAbs = x.natAbs := by omega
  have hs := cSignedZ (0 - sg x) (-x) (by rw [e]; omega) (by omega)
  rw [e] at hs ⊢
  refine CallsTo.run [] Go.Proofs.Try.func52 rfl rfl ?_; conv => simp (maxSteps := 2000000) (disch := omega) only [go_sem, Nat.reduceAdd, Nat.reduceSub, Nat.reduceMul, Int.reduceToNat, Nat.reduceEqDiff, Nat.reduceBEq, Nat.reduceBneDiff, Go.Proofs.Try.f52, List.replicate]
  refine callk (cRightZ x hx) ?_
  conv => simp (maxSteps := 2000000) (disch := omega) only [go_sem, Nat.reduceAdd, Nat.reduceSub, Nat.reduceMul, Int.reduceToNat, Nat.reduceEqDiff, Nat.reduceBEq, Nat.reduceBneDiff]
  refine callk (cClone _ (by omega)) ?_
  conv => simp (maxSteps := 2000000) (disch := omega) only [go_sem, Nat.reduceAdd, Nat.reduceSub, Nat.reduceMul, Int.reduceToNat, Nat.reduceEqDiff, Nat.reduceBEq, Nat.reduceBneDiff]
  refine callk hs ?_
  conv => simp (maxSteps := 2000000) (disch := omega) only [go_sem, Nat.reduceAdd, Nat.reduceSub, Nat.reduceMul, Int.reduceToNat, Nat.reduceEqDiff, Nat.reduceBEq, Nat.reduceBneDiff]
  refine indk (by kernel_rfl) ?_
  conv => simp (maxSteps := 2000000) (disch := omega) only [go_sem, Nat.reduceAdd, Nat.reduceSub, Nat.reduceMul, Int.reduceToNat, Nat.reduceEqDiff, Nat.reduceBEq, Nat.reduceBneDiff]
  exact ⟨_, rfl, .one (.refl _)⟩
end Go.Slot.T

/- Contracts of package big: Same, Add, Mul. -/
namespace Go.Slot.T
open Go Go.RowKit Go.Slot
open Go.Proofs.Try (prog)
set_option maxRecDepth 10000
set_option maxHeartbeats 4000000

theorem cOr (x y : Int) : CallsTo prog 93 [.one (.ints .i64 [x, y])] (.one (.raw (.int .i64 (if x ≠ 0 then x else y)))) := by
  refine CallsTo.run [] Go.Proofs.Try.func93 rfl rfl ?_; conv => simp (maxSteps := 2000000) (disch := omega) only [go_sem, Nat.reduceAdd, Nat.reduceSub, Nat.reduceMul, Int.reduceToNat, Nat.reduceEqDiff, Nat.reduceBEq, Nat.reduceBneDiff, Go.Proofs.Try.f93, List.replicate]
  refine loopo [3, 6, 7] (fun i : Nat => [(8, .one (.raw (.int .i64 i)))])
    (fun i => i = 0 ∨ (i = 1 ∧ x = 0) ∨ (i = 2 ∧ x = 0 ∧ y = 0)) (fun i => 2 - i) 0 (.inl rfl) ?_ ?_
  · conv => simp (maxSteps := 2000000) (disch := omega) only [go_sem, Nat.reduceAdd, Nat.reduceSub, Nat.reduceMul, Int.reduceToNat, Nat.reduceEqDiff, Nat.reduceBEq, Nat.reduceBneDiff]
    exact StLe.weaken (by repeat' first | exact .nil | refine .cons (by first | exact .refl _ | exact .any _) ?_) rfl
  rintro i (rfl | ⟨rfl, hx⟩ | ⟨rfl, hx, hy⟩)
  · conv => simp (maxSteps := 2000000) (disch := omega) only [go_sem, Nat.reduceAdd, Nat.reduceSub, Nat.reduceMul, Int.reduceToNat, Nat.reduceEqDiff, Nat.reduceBEq, Nat.reduceBneDiff]
    refine condd (fun _ => ?_) (fun h => absurd (by decide) h)
    conv => simp (maxSteps := 2000000) (disch := omega) only [go_sem, Nat.reduceAdd, Nat.reduceSub, Nat.reduceMul, Int.reduceToNat, Nat.reduceEqDiff, Nat.reduceBEq, Nat.reduceBneDiff]
    refine condd (fun h1 => ?_) (fun h1 => ?_)
    · have h1 : x ≠ 0 := h1
      conv => simp (maxSteps := 2000000) (disch := omega) only [go_sem, Nat.reduceAdd, Nat.reduceSub, Nat.reduceMul, Int.reduceToNat, Nat.reduceEqDiff, Nat.reduceBEq, Nat.reduceBneDiff]
      exact ⟨_, rfl, .one (.refl _)⟩
    · have h1 : x = 0 := by simpa using h1
      conv => simp (maxSteps := 2000000) (disch := omega) only [go_sem, Nat.reduceAdd, Nat.reduceSub, Nat.reduceMul, Int.reduceToNat, Nat.reduceEqDiff, Nat.reduceBEq, Nat.reduceBneDiff]
      exact ⟨1, .inr (.inl ⟨rfl, h1⟩), by decide, StLe.weaken (by repeat' first | exact .nil | refine .cons (by first | exact .refl _ | exact .any _) ?_) rfl⟩
  · conv => simp (maxSteps := 2000000) (disch := omega) only [go_sem, Nat.reduceAdd, Nat.reduceSub, Nat.reduceMul, Int.reduceToNat, Nat.reduceEqDiff, Nat.reduceBEq, Nat.reduceBneDiff]
    refine condd (fun _ => ?_) (fun h => absurd (by decide) h)
    conv => simp (maxSteps := 2000000) (disch := omega) only [go_sem, Nat.reduceAdd, Nat.reduceSub, Nat.reduceMul, Int.reduceToNat, Nat.reduceEqDiff, Nat.reduceBEq, Nat.reduceBneDiff]
    refine condd (fun h1 => ?_) (fun h1 => ?_)
    · conv => simp (maxSteps := 2000000) (disch := omega) only [go_sem, Nat.reduceAdd, Nat.reduceSub, Nat.reduceMul, Int.reduceToNat, Nat.reduceEqDiff, Nat.reduceBEq, Nat.reduceBneDiff]
      exact ⟨_, rfl, .one (.refl _)⟩
    · have h1 : y = 0 := by simpa using h1
      conv => simp (maxSteps := 2000000) (disch := omega) only [go_sem, Nat.reduceAdd, Nat.reduceSub, Nat.reduceMul, Int.reduceToNat, Nat.reduceEqDiff, Nat.reduceBEq, Nat.reduceBneDiff]
      exact ⟨2, .inr (.inr ⟨rfl, hx, h1⟩), by decide, StLe.weaken (by repeat' first | exact .nil | refine .cons (by first | exact .refl _ | exact .any _) ?_) rfl⟩
  · conv => simp (maxSteps := 2000000) (disch := omega) only [go_sem, Nat.reduceAdd, Nat.reduceSub, Nat.reduceMul, Int.reduceToNat, Nat.reduceEqDiff, Nat.reduceBEq, Nat.reduceBneDiff]
    refine condd (fun h => absurd h (by decide)) (fun _ => ?_)
    conv => simp (maxSteps := 2000000) (disch := omega) only [go_sem, Nat.reduceAdd, Nat.reduceSub, Nat.reduceMul, Int.reduceToNat, Nat.reduceEqDiff, Nat.reduceBEq, Nat.reduceBneDiff]
    exact ⟨_, rfl, by rw [hy]; exact .one (.refl _)⟩

theorem cEqual (L M : List Int) (lL : L.length ≤ 1073741824) (_lM : M.length ≤ 1073741824) :
    CallsTo prog 91 [.one (.ints .i64 L), .one (.ints .i64 M)] (.one (.raw (.bool (decide (L = M))))) := by
  refine CallsTo.run [] Go.Proofs.Try.func91 rfl rfl ?_; conv => simp (maxSteps := 2000000) (disch := omega) only [go_sem, Nat.reduceAdd, Nat.reduceSub, Nat.reduceMul, Int.reduceToNat, Nat.reduceEqDiff, Nat.reduceBEq, Nat.reduceBneDiff, Go.Proofs.Try.f91, List.replicate]
  refine condd (fun h => ?_) (fun h => ?_)
  · conv => simp (maxSteps := 2000000) (disch := omega) only [go_sem, Nat.reduceAdd, Nat.reduceSub, Nat.reduceMul, Int.reduceToNat, Nat.reduceEqDiff, Nat.reduceBEq, Nat.reduceBneDiff]
    exact ⟨_, rfl, by rw [decide_eq_false (fun e => h (by rw [e]))]; exact .one (.refl _)⟩
  · have hl : L.length = M.length := by omega
    conv => simp (maxSteps := 2000000) (disch := omega) only [go_sem, Nat.reduceAdd, Nat.reduceSub, Nat.reduceMul, Int.reduceToNat, Nat.reduceEqDiff, Nat.reduceBEq, Nat.reduceBneDiff]
    refine loopo [0, 1, 11, 12] (fun i : Nat => [(13, .one (.raw (.int .i64 i)))])
      (fun i => i ≤ L.length ∧ L.take i = M.take i) (fun i => L.length - i) 0 ⟨Nat.zero_le _, rfl⟩ ?_ ?_
    · conv => simp (maxSteps := 2000000) (disch := omega) only [go_sem, Nat.reduceAdd, Nat.reduceSub, Nat.reduceMul, Int.reduceToNat, Nat.reduceEqDiff, Nat.reduceBEq, Nat.reduceBneDiff]
      exact StLe.weaken (by repeat' first | exact .nil | refine .cons (by first | exact .refl _ | exact .any _) ?_) rfl
    rintro i ⟨hi, he⟩
    conv => simp (maxSteps := 2000000) (disch := omega) only [go_sem, Nat.reduceAdd, Nat.reduceSub, Nat.reduceMul, Int.reduceToNat, Nat.reduceEqDiff, Nat.reduceBEq, Nat.reduceBneDiff]
    refine condd (fun h1 => ?_) (fun h1 => ?_)
    · have hg : ∀ (l : List Int), i < l.length → l.take (i + 1) = l.take i ++ [l.getD i 0] := fun l h => by
        rw [List.take_add_one]; simp [h]
      conv => simp (maxSteps := 2000000) (disch := omega) only [go_sem, Nat.reduceAdd, Nat.reduceSub, Nat.reduceMul, Int.reduceToNat, Nat.reduceEqDiff, Nat.reduceBEq, Nat.reduceBneDiff]
      refine indk (by kernel_rfl) ?_
      conv => simp (maxSteps := 2000000) (disch := omega) only [go_sem, Nat.reduceAdd, Nat.reduceSub, Nat.reduceMul, Int.reduceToNat, Nat.reduceEqDiff, Nat.reduceBEq, Nat.reduceBneDiff]
      refine condd (fun h2 => ?_) (fun h2 => ?_)
      · conv => simp (maxSteps := 2000000) (disch := omega) only [go_sem, Nat.reduceAdd, Nat.reduceSub, Nat.reduceMul, Int.reduceToNat, Nat.reduceEqDiff, Nat.reduceBEq, Nat.reduceBneDiff]
        exact ⟨_, rfl, by rw [decide_eq_false (fun e => h2 (by rw [e]))]; exact .one (.refl _)⟩
      · have h2 : L.getD i 0 = M.getD i 0 := by omega
        conv => simp (maxSteps := 2000000) (disch := omega) only [go_sem, Nat.reduceAdd, Nat.reduceSub, Nat.reduceMul, Int.reduceToNat, Nat.reduceEqDiff, Nat.reduceBEq, Nat.reduceBneDiff]
        refine ⟨i + 1, ⟨by omega, ?_⟩, by omega, StLe.weaken (by repeat' first | exact .nil | refine .cons (by first | exact .refl _ | exact .any _) ?_) rfl⟩
        rw [hg L (by omega), hg M (by omega), he, h2]
    · have hi : i = L.length := by omega
      subst hi
      rw [List.take_length, hl, List.take_length] at he
      conv => simp (maxSteps := 2000000) (disch := omega) only [go_sem, Nat.reduceAdd, Nat.reduceSub, Nat.reduceMul, Int.reduceToNat, Nat.reduceEqDiff, Nat.reduceBEq, Nat.reduceBneDiff]
      exact ⟨_, rfl, by rw [decide_eq_true he]; exact .one (.refl _)⟩

theorem cSame (s : Int) (L : List Int) (s' : Int) (M : List Int) (lL : L.length ≤ 1073741824) (lM : M.length ≤ 1073741824) :
    CallsTo prog 75 [.agg [.raw (.int .i64 s), .ints .i64 L], .agg [.raw (.int .i64 s'), .ints .i64 M]] (.one (.raw (.bool (decide (s = s' ∧ L = M))))) := by
  obtain ⟨r, hr⟩ : ∃ r, r = decide (s = s' ∧ L = M) := ⟨_, rfl⟩
  rw [← hr]
  refine CallsTo.run [] Go.Proofs.Try.func75 rfl rfl ?_; conv => simp (maxSteps := 2000000) (disch := omega) only [go_sem, Nat.reduceAdd, Nat.reduceSub, Nat.reduceMul, Int.reduceToNat, Nat.reduceEqDiff, Nat.reduceBEq, Nat.reduceBneDiff, Go.Proofs.Try.f75, List.replicate]
  refine guardd (fun h => ?_) (fun h => ?_)
  · conv => simp (maxSteps := 2000000) (disch := omega) only [go_sem, Nat.reduceAdd, Nat.reduceSub, Nat.reduceMul, Int.reduceToNat, Nat.reduceEqDiff, Nat.reduceBEq, Nat.reduceBneDiff, h]
    refine callk (cEqual L M lL lM) ?_
    conv => simp (maxSteps := 2000000) (disch := omega) only [go_sem, Nat.reduceAdd, Nat.reduceSub, Nat.reduceMul, Int.reduceToNat, Nat.reduceEqDiff, Nat.reduceBEq, Nat.reduceBneDiff, h]
    exact ⟨_, rfl, by rw [hr, show decide (s = s' ∧ L = M) = decide (L = M) from decide_eq_decide.2 ⟨fun e => e.2, fun e => ⟨h, e⟩⟩]; exact .one (.refl _)⟩
  · conv => simp (maxSteps := 2000000) (disch := omega) only [go_sem, Nat.reduceAdd, Nat.reduceSub, Nat.reduceMul, Int.reduceToNat, Nat.reduceEqDiff, Nat.reduceBEq, Nat.reduceBneDiff, h]
    exact ⟨_, rfl, by rw [hr, decide_eq_false (fun e => h e.1)]; exact .one (.refl _)⟩

theorem cAddZ (x y : Int) (hx : okZ x) (hy : okZ y) :
    CallsTo prog 77 [.agg [.raw (.int .i64 (sg x)), .ints .i64 (dig x.natAbs)], .agg [.raw (.int .i64 (sg y)), .ints .i64 (dig y.natAbs)]]
      (.tup [.agg [.raw (.int .i64 (sg (x + y))), .ints .i64 (dig (x + y).natAbs)], .one (.raw (.int .i64 0))]) := by
  have sx := sg_cases x
  have sy := sg_cases y
  have hl := len_add x y
  have ex := num_abs x
  have ey := num_abs y
  have hp : sg x * sg y = 1 ∨ sg x * sg y = 0 ∨ sg x * sg y = -1 := by
    rcases sx with ⟨_, e⟩ | ⟨_, e⟩ | ⟨_, e⟩ <;> rcases sy with ⟨_, e'⟩ | ⟨_, e'⟩ | ⟨_, e'⟩ <;> rw [e, e'] <;> decide
  refine CallsTo.run [] Go.Proofs.Try.func77 rfl rfl ?_; conv => simp (maxSteps := 2000000) (disch := omega) only [go_sem, Nat.reduceAdd, Nat.reduceSub, Nat.reduceMul, Int.reduceToNat, Nat.reduceEqDiff, Nat.reduceBEq, Nat.reduceBneDiff, Go.Proofs.Try.f77, List.replicate]
  refine callk (cRightZ x hx) ?_
  conv => simp (maxSteps := 2000000) (disch := omega) only [go_sem, Nat.reduceAdd, Nat.reduceSub, Nat.reduceMul, Int.reduceToNat, Nat.reduceEqDiff, Nat.reduceBEq, Nat.reduceBneDiff]
  refine callk (cRightZ y hy) ?_
  conv => simp (maxSteps := 2000000) (disch := omega) only [go_sem, Nat.reduceAdd, Nat.reduceSub, Nat.reduceMul, Int.reduceToNat, Nat.reduceEqDiff, Nat.reduceBEq, Nat.reduceBneDiff]
  refine condd (fun h => ?_) (fun h => ?_)
  · have hs : (0 ≤ x ∧ 0 ≤ y) ∨ (x ≤ 0 ∧ y ≤ 0) := by
      rcases sx with ⟨h1, e⟩ | ⟨h1, e⟩ | ⟨h1, e⟩ <;> rcases sy with ⟨h2, e'⟩ | ⟨h2, e'⟩ | ⟨h2, e'⟩ <;> rw [e, e'] at h <;> first | omega | exact absurd h (by decide)
    conv => simp (maxSteps := 2000000) (disch := omega) only [go_sem, Nat.reduceAdd, Nat.reduceSub, Nat.reduceMul, Int.reduceToNat, Nat.reduceEqDiff, Nat.reduceBEq, Nat.reduceBneDiff]
    refine callk (cOr _ _) ?_
    conv => simp (maxSteps := 2000000) (disch := omega) only [go_sem, Nat.reduceAdd, Nat.reduceSub, Nat.reduceMul, Int.reduceToNat, Nat.reduceEqDiff, Nat.reduceBEq, Nat.reduceBneDiff]
    refine callk (cAdd' _ _ (dig_digits _) (dig_digits _) (by omega) (by omega)) ?_
    rw [ex, ey, show ((x.natAbs : Int) + y.natAbs).toNat = (x + y).natAbs by omega]
    conv => simp (maxSteps := 2000000) (disch := omega) only [go_sem, Nat.reduceAdd, Nat.reduceSub, Nat.reduceMul, Int.reduceToNat, Nat.reduceEqDiff, Nat.reduceBEq, Nat.reduceBneDiff]
    refine callk (cSignedZ _ (x + y) (by omega) (by split <;> omega)) ?_
    conv => simp (maxSteps := 2000000) (disch := omega) only [go_sem, Nat.reduceAdd, Nat.reduceSub, Nat.reduceMul, Int.reduceToNat, Nat.reduceEqDiff, Nat.reduceBEq, Nat.reduceBneDiff]
    refine callk (cCheckedZ (x + y)) ?_
    conv => simp (maxSteps := 2000000) (disch := omega) only [go_sem, Nat.reduceAdd, Nat.reduceSub, Nat.reduceMul, Int.reduceToNat, Nat.reduceEqDiff, Nat.reduceBEq, Nat.reduceBneDiff]
    refine indk (by kernel_rfl) ?_
    conv => simp (maxSteps := 2000000) (disch := omega) only [go_sem, Nat.reduceAdd, Nat.reduceSub, Nat.reduceMul, Int.reduceToNat, Nat.reduceEqDiff, Nat.reduceBEq, Nat.reduceBneDiff]
    exact ⟨_, rfl, .one (.refl _)⟩
  · have hs : (x < 0 ∧ 0 < y) ∨ (0 < x ∧ y < 0) := by
      rcases sx with ⟨h1, e⟩ | ⟨h1, e⟩ | ⟨h1, e⟩ <;> rcases sy with ⟨h2, e'⟩ | ⟨h2, e'⟩ | ⟨h2, e'⟩ <;> rw [e, e'] at h <;> first | omega | exact absurd (by decide) h
    conv => simp (maxSteps := 2000000) (disch := omega) only [go_sem, Nat.reduceAdd, Nat.reduceSub, Nat.reduceMul, Int.reduceToNat, Nat.reduceEqDiff, Nat.reduceBEq, Nat.reduceBneDiff]
    refine callk (cCompare _ _ (dig_digits _) (dig_norm _) (dig_digits _) (dig_norm _) (by omega) (by omega)) ?_
    conv => simp (maxSteps := 2000000) (disch := omega) only [go_sem, Nat.reduceAdd, Nat.reduceSub, Nat.reduceMul, Int.reduceToNat, Nat.reduceEqDiff, Nat.reduceBEq, Nat.reduceBneDiff]
    refine condd (fun h1 => ?_) (fun h1 => ?_)
    · have h2 : x.natAbs < y.natAbs := by
        rw [ex, ey] at h1; unfold ord at h1; repeat' split at h1 <;> omega
      conv => simp (maxSteps := 2000000) (disch := omega) only [go_sem, Nat.reduceAdd, Nat.reduceSub, Nat.reduceMul, Int.reduceToNat, Nat.reduceEqDiff, Nat.reduceBEq, Nat.reduceBneDiff]
      refine callk (cSub' _ _ (dig_digits _) (dig_digits _) (by omega) (dig_len_le (by omega)) (by omega)) ?_
      rw [ex, ey, show ((y.natAbs : Int) - x.natAbs).toNat = (x + y).natAbs by omega]
      conv => simp (maxSteps := 2000000) (disch := omega) only [go_sem, Nat.reduceAdd, Nat.reduceSub, Nat.reduceMul, Int.reduceToNat, Nat.reduceEqDiff, Nat.reduceBEq, Nat.reduceBneDiff]
      refine callk (cSignedZ _ (x + y) (by omega) (by omega)) ?_
      conv => simp (maxSteps := 2000000) (disch := omega) only [go_sem, Nat.reduceAdd, Nat.reduceSub, Nat.reduceMul, Int.reduceToNat, Nat.reduceEqDiff, Nat.reduceBEq, Nat.reduceBneDiff]
      refine callk (cCheckedZ (x + y)) ?_
      conv => simp (maxSteps := 2000000) (disch := omega) only [go_sem, Nat.reduceAdd, Nat.reduceSub, Nat.reduceMul, Int.reduceToNat, Nat.reduceEqDiff, Nat.reduceBEq, Nat.reduceBneDiff]
      refine indk (by kernel_rfl) ?_
      conv => simp (maxSteps := 2000000) (disch := omega) only [go_sem, Nat.reduceAdd, Nat.reduceSub, Nat.reduceMul, Int.reduceToNat, Nat.reduceEqDiff, Nat.reduceBEq, Nat.reduceBneDiff]
      exact ⟨_, rfl, .one (.refl _)⟩
    · have h2 : y.natAbs ≤ x.natAbs := by
        rw [ex, ey] at h1; unfold ord at h1; repeat' split at h1 <;> omega
      conv => simp (maxSteps := 2000000) (disch := omega) only [go_sem, Nat.reduceAdd, Nat.reduceSub, Nat.reduceMul, Int.reduceToNat, Nat.reduceEqDiff, Nat.reduceBEq, Nat.reduceBneDiff]
      refine callk (cSub' _ _ (dig_digits _) (dig_digits _) (by omega) (dig_len_le (by omega)) (by omega)) ?_
      rw [ex, ey, show ((x.natAbs : Int) - y.natAbs).toNat = (x + y).natAbs by omega]
      conv => simp (maxSteps := 2000000) (disch := omega) only [go_sem, Nat.reduceAdd, Nat.reduceSub, Nat.reduceMul, Int.reduceToNat, Nat.reduceEqDiff, Nat.reduceBEq, Nat.reduceBneDiff]
      refine callk (cSignedZ _ (x + y) (by omega) (by omega)) ?_
      conv => simp (maxSteps := 2000000) (disch := omega) only [go_sem, Nat.reduceAdd, Nat.reduceSub, Nat.reduceMul, Int.reduceToNat, Nat.reduceEqDiff, Nat.reduceBEq, Nat.reduceBneDiff]
      refine callk (cCheckedZ (x + y)) ?_
      conv => simp (maxSteps := 2000000) (disch := omega) only [go_sem, Nat.reduceAdd, Nat.reduceSub, Nat.reduceMul, Int.reduceToNat, Nat.reduceEqDiff, Nat.reduceBEq, Nat.reduceBneDiff]
      refine indk (by kernel_rfl) ?_
      conv => simp (maxSteps := 2000000) (disch := omega) only [go_sem, Nat.reduceAdd, Nat.reduceSub, Nat.reduceMul, Int.reduceToNat, Nat.reduceEqDiff, Nat.reduceBEq, Nat.reduceBneDiff]
      exact ⟨_, rfl, .one (.refl _)⟩

theorem sg_mul (x y : Int) : sg x * sg y = sg (x * y) := by
  rcases sg_cases x with ⟨h1, e⟩ | ⟨h1, e⟩ | ⟨h1, e⟩ <;> rcases sg_cases y with ⟨h2, e'⟩ | ⟨h2, e'⟩ | ⟨h2, e'⟩ <;> rw [e, e']
  · rw [sg_pos (Int.mul_pos_of_neg_of_neg h1 h2)]; rfl
  · subst h2; simp [sg_zero]
  · rw [sg_neg (Int.mul_neg_of_neg_of_pos h1 h2)]; rfl
  · subst h1; simp [sg_zero]
  · subst h1; simp [sg_zero]
  · subst h1; simp [sg_zero]
  · rw [sg_neg (Int.mul_neg_of_pos_of_neg h1 h2)]; rfl
  · subst h2; simp [sg_zero]
  · rw [sg_pos (Int.mul_pos h1 h2)]; rfl
theorem sg_ok (z : Int) : (sg z = 1 ∧ 0 ≤ z) ∨ (sg z = -1 ∧ z ≤ 0) ∨ z = 0 := by
  rcases sg_cases z with ⟨h, e⟩ | ⟨h, e⟩ | ⟨h, e⟩ <;> omega
theorem cMulZ (x y : Int) (hx : okZ x) (hy : okZ y) :
    CallsTo prog 80 [.agg [.raw (.int .i64 (sg x)), .ints .i64 (dig x.natAbs)], .agg [.raw (.int .i64 (sg y)), .ints .i64 (dig y.natAbs)]]
      (.tup [.agg [.raw (.int .i64 (sg (x * y))), .ints .i64 (dig (x * y).natAbs)], .one (.raw (.int .i64 0))]) := by
  have hl := len_mul x y
  have ex := num_abs x
  have ey := num_abs y
  have hs := sg_mul x y
  have hs1 := sg_cases (x * y)
  refine CallsTo.run [] Go.Proofs.Try.func80 rfl rfl ?_; conv => simp (maxSteps := 2000000) (disch := omega) only [go_sem, Nat.reduceAdd, Nat.reduceSub, Nat.reduceMul, Int.reduceToNat, Nat.reduceEqDiff, Nat.reduceBEq, Nat.reduceBneDiff, Go.Proofs.Try.f80, List.replicate]
  refine callk (cRightZ x hx) ?_
  conv => simp (maxSteps := 2000000) (disch := omega) only [go_sem, Nat.reduceAdd, Nat.reduceSub, Nat.reduceMul, Int.reduceToNat, Nat.reduceEqDiff, Nat.reduceBEq, Nat.reduceBneDiff]
  refine callk (cRightZ y hy) ?_
  conv => simp (maxSteps := 2000000) (disch := omega) only [go_sem, Nat.reduceAdd, Nat.reduceSub, Nat.reduceMul, Int.reduceToNat, Nat.reduceEqDiff, Nat.reduceBEq, Nat.reduceBneDiff]
  refine callk ((cMul' _ _ (dig_digits _) (dig_digits _) (by omega) (by omega)).le .own) ?_
  rw [ex, ey, show ((x.natAbs : Int) * y.natAbs).toNat = (x * y).natAbs by rw [Int.natAbs_mul, ← Int.natCast_mul]; rfl]
  conv => simp (maxSteps := 2000000) (disch := omega) only [go_sem, Nat.reduceAdd, Nat.reduceSub, Nat.reduceMul, Int.reduceToNat, Nat.reduceEqDiff, Nat.reduceBEq, Nat.reduceBneDiff, hs]
  refine callk (cSignedZ _ (x * y) (by omega) (sg_ok _)) ?_
  conv => simp (maxSteps := 2000000) (disch := omega) only [go_sem, Nat.reduceAdd, Nat.reduceSub, Nat.reduceMul, Int.reduceToNat, Nat.reduceEqDiff, Nat.reduceBEq, Nat.reduceBneDiff]
  refine callk (cCheckedZ (x * y)) ?_
  conv => simp (maxSteps := 2000000) (disch := omega) only [go_sem, Nat.reduceAdd, Nat.reduceSub, Nat.reduceMul, Int.reduceToNat, Nat.reduceEqDiff, Nat.reduceBEq, Nat.reduceBneDiff]
  refine indk (by kernel_rfl) ?_
  conv => simp (maxSteps := 2000000) (disch := omega) only [go_sem, Nat.reduceAdd, Nat.reduceSub, Nat.reduceMul, Int.reduceToNat, Nat.reduceEqDiff, Nat.reduceBEq, Nat.reduceBneDiff]
  exact ⟨_, rfl, .one (.refl _)⟩
end Go.Slot.T

/- Contracts of package big: Div, Gcd. -/
namespace Go.Slot.T
open Go Go.RowKit Go.Slot
open Go.Proofs.Try (prog)
set_option maxRecDepth 10000
set_option maxHeartbeats 4000000

/-- division of digits -/
theorem cDiv (a b : Nat) (la : (dig a).length ≤ 1073741824) (hl : (dig b).length ≤ 1073741824) (hb : b ≠ 0) :
    CallsTo prog 68 [.one (.ints .i64 (dig a)), .one (.ints .i64 (dig b))] (.tup [.one (.ints .i64 (dig (a / b))), .one (.ints .i64 (dig (a % b)))]) := by
  have ea := num_dig a
  have eb := num_dig b
  have e1 : (num (dig a) / num (dig b)).toNat = a / b := by rw [ea, eb]; exact Int.toNat_natCast _
  have e2 : (num (dig a) % num (dig b)).toNat = a % b := by rw [ea, eb]; exact Int.toNat_natCast _
  rw [← e1, ← e2]
  rcases Nat.lt_or_ge a b with h | h
  · exact cDivLt _ _ (dig_digits _) (dig_norm _) (dig_digits _) (dig_norm _) la hl (by omega)
  · rcases Nat.lt_or_ge (dig b).length 2 with h1 | h1
    · have h0 : (dig b).length ≠ 0 := fun e => hb (dig_nil.1 (List.eq_nil_of_length_eq_zero e))
      exact cDivOne _ _ (dig_digits _) (dig_norm _) (dig_digits _) (dig_norm _) la (by omega) (by omega)
    · exact cDivBig _ _ (dig_digits _) (dig_norm _) (dig_digits _) (dig_norm _) la h1 (by omega)

theorem cDivZ (x y : Int) (hx : okZ x) (hy : okZ y) (hy0 : 0 < y) :
    CallsTo prog 92 [.agg [.raw (.int .i64 (sg x)), .ints .i64 (dig x.natAbs)], .agg [.raw (.int .i64 (sg y)), .ints .i64 (dig y.natAbs)]]
      (.tup [.agg [.raw (.int .i64 (sg (x / y))), .ints .i64 (dig (x / y).natAbs)], .agg [.raw (.int .i64 (sg (x % y))), .ints .i64 (dig (x % y).natAbs)], .one (.raw (.int .i64 0))]) := by
  have sx := sg_cases x
  have sy := sg_pos hy0
  have hn := Nat.div_add_mod x.natAbs y.natAbs
  have hr := Nat.mod_lt x.natAbs (show 0 < y.natAbs by omega)
  have hqx := Nat.div_le_self x.natAbs y.natAbs
  have hrx := Nat.mod_le x.natAbs y.natAbs
  have hlq := dig_len_le hqx
  have hlr := dig_len_le hrx
  generalize hQ : x.natAbs / y.natAbs = Q at *
  generalize hR : x.natAbs % y.natAbs = R at *
  have hyQ : ((y.natAbs * Q : Nat) : Int) = y * Q := by rw [Int.natCast_mul]; congr 1; omega
  have eR := num_dig R
  have eQ := num_dig Q
  have ey := num_abs y
  have hlQ1 := dig_len_add Q 1
  have h1l : (dig 1).length = 1 := by rw [dig_pos (by decide), dig_zero]; rfl
  have hcd := cDiv x.natAbs y.natAbs (by omega) (by omega) (by omega)
  rw [hQ, hR] at hcd
  refine CallsTo.run [] Go.Proofs.Try.func92 rfl rfl ?_; conv => simp (maxSteps := 2000000) (disch := omega) only [go_sem, Nat.reduceAdd, Nat.reduceSub, Nat.reduceMul, Int.reduceToNat, Nat.reduceEqDiff, Nat.reduceBEq, Nat.reduceBneDiff, Go.Proofs.Try.f92, List.replicate]
  refine callk (cRightZ x hx) ?_
  conv => simp (maxSteps := 2000000) (disch := omega) only [go_sem, Nat.reduceAdd, Nat.reduceSub, Nat.reduceMul, Int.reduceToNat, Nat.reduceEqDiff, Nat.reduceBEq, Nat.reduceBneDiff]
  refine callk (cRightZ y hy) ?_
  conv => simp (maxSteps := 2000000) (disch := omega) only [go_sem, Nat.reduceAdd, Nat.reduceSub, Nat.reduceMul, Int.reduceToNat, Nat.reduceEqDiff, Nat.reduceBEq, Nat.reduceBneDiff]
  refine condd (fun h => absurd h (by omega)) (fun _ => ?_)
  conv => simp (maxSteps := 2000000) (disch := omega) only [go_sem, Nat.reduceAdd, Nat.reduceSub, Nat.reduceMul, Int.reduceToNat, Nat.reduceEqDiff, Nat.reduceBEq, Nat.reduceBneDiff]
  refine callk hcd ?_
  conv => simp (maxSteps := 2000000) (disch := omega) only [go_sem, Nat.reduceAdd, Nat.reduceSub, Nat.reduceMul, Int.reduceToNat, Nat.reduceEqDiff, Nat.reduceBEq, Nat.reduceBneDiff, sy, Int.mul_one]
  refine guardd (fun h1 => ?_) (fun h1 => ?_)
  · have hx0 : x < 0 := by omega
    conv => simp (maxSteps := 2000000) (disch := omega) only [go_sem, Nat.reduceAdd, Nat.reduceSub, Nat.reduceMul, Int.reduceToNat, Nat.reduceEqDiff, Nat.reduceBEq, Nat.reduceBneDiff, h1, sy, Int.mul_one]
    refine condd (fun h2 => ?_) (fun h2 => ?_)
    · have hR0 : R ≠ 0 := fun e => by rw [e, dig_zero] at h2; simp at h2
      obtain ⟨k1, k2⟩ := ediv_of (x := x) (y := y) (q := -((Q : Int) + 1)) (r := y - R) (by
        have : y * -((Q : Int) + 1) = -(y * Q) - y := by grind
        omega) (by omega) (by omega)
      have m1 : (x / y).natAbs = Q + 1 := by rw [k1]; omega
      have m2 : (x % y).natAbs = y.natAbs - R := by rw [k2]; omega
      have m3 : (num (dig Q) + num [1]).toNat = Q + 1 := by rw [eQ]; simp [num]
      have m4 : (num (dig y.natAbs) - num (dig R)).toNat = y.natAbs - R := by rw [ey, eR]; omega
      have hA := cAdd' (dig Q) [1] (dig_digits _) (digits.cons (by decide) digits.nil) (by omega) (by simp)
      rw [m3, ← m1] at hA
      have hS := cSub' (dig y.natAbs) (dig R) (dig_digits _) (dig_digits _) (by omega) (dig_len_le (by omega)) (by omega)
      rw [m4, ← m2] at hS
      have hs1 := cSignedZ (-1) (x / y) (by rw [m1]; omega) (by rw [k1]; omega)
      have hs2 := cSignedZ 1 (x % y) (by rw [m2]; have := dig_len_le (show y.natAbs - R ≤ y.natAbs by omega); omega) (by rw [k2]; omega)
      conv => simp (maxSteps := 2000000) (disch := omega) only [go_sem, Nat.reduceAdd, Nat.reduceSub, Nat.reduceMul, Int.reduceToNat, Nat.reduceEqDiff, Nat.reduceBEq, Nat.reduceBneDiff]
      refine callk hA ?_
      conv => simp (maxSteps := 2000000) (disch := omega) only [go_sem, Nat.reduceAdd, Nat.reduceSub, Nat.reduceMul, Int.reduceToNat, Nat.reduceEqDiff, Nat.reduceBEq, Nat.reduceBneDiff]
      refine callk hs1 ?_
      conv => simp (maxSteps := 2000000) (disch := omega) only [go_sem, Nat.reduceAdd, Nat.reduceSub, Nat.reduceMul, Int.reduceToNat, Nat.reduceEqDiff, Nat.reduceBEq, Nat.reduceBneDiff]
      refine callk hS ?_
      conv => simp (maxSteps := 2000000) (disch := omega) only [go_sem, Nat.reduceAdd, Nat.reduceSub, Nat.reduceMul, Int.reduceToNat, Nat.reduceEqDiff, Nat.reduceBEq, Nat.reduceBneDiff]
      refine callk hs2 ?_
      conv => simp (maxSteps := 2000000) (disch := omega) only [go_sem, Nat.reduceAdd, Nat.reduceSub, Nat.reduceMul, Int.reduceToNat, Nat.reduceEqDiff, Nat.reduceBEq, Nat.reduceBneDiff]
      refine indk (by kernel_rfl) ?_
      conv => simp (maxSteps := 2000000) (disch := omega) only [go_sem, Nat.reduceAdd, Nat.reduceSub, Nat.reduceMul, Int.reduceToNat, Nat.reduceEqDiff, Nat.reduceBEq, Nat.reduceBneDiff]
      exact ⟨_, rfl, .one (.refl _)⟩
    · have hR0 : R = 0 := dig_nil.1 (List.eq_nil_of_length_eq_zero (by omega))
      obtain ⟨k1, k2⟩ := ediv_of (x := x) (y := y) (q := -(Q : Int)) (r := 0) (by
        have : y * -(Q : Int) = -(y * Q) := by grind
        omega) (by omega) (by omega)
      have m1 : (x / y).natAbs = Q := by rw [k1]; omega
      have m2 : (x % y).natAbs = R := by rw [k2]; omega
      have hs1 := cSignedZ (sg x) (x / y) (by rw [m1]; omega) (by rw [k1]; omega)
      have hs2 := cSignedZ (sg x) (x % y) (by rw [m2]; omega) (by rw [k2]; omega)
      rw [← m1, ← m2]
      conv => simp (maxSteps := 2000000) (disch := omega) only [go_sem, Nat.reduceAdd, Nat.reduceSub, Nat.reduceMul, Int.reduceToNat, Nat.reduceEqDiff, Nat.reduceBEq, Nat.reduceBneDiff, sy, Int.mul_one]
      refine callk hs1 ?_
      conv => simp (maxSteps := 2000000) (disch := omega) only [go_sem, Nat.reduceAdd, Nat.reduceSub, Nat.reduceMul, Int.reduceToNat, Nat.reduceEqDiff, Nat.reduceBEq, Nat.reduceBneDiff]
      refine callk hs2 ?_
      conv => simp (maxSteps := 2000000) (disch := omega) only [go_sem, Nat.reduceAdd, Nat.reduceSub, Nat.reduceMul, Int.reduceToNat, Nat.reduceEqDiff, Nat.reduceBEq, Nat.reduceBneDiff]
      refine indk (by kernel_rfl) ?_
      conv => simp (maxSteps := 2000000) (disch := omega) only [go_sem, Nat.reduceAdd, Nat.reduceSub, Nat.reduceMul, Int.reduceToNat, Nat.reduceEqDiff, Nat.reduceBEq, Nat.reduceBneDiff]
      exact ⟨_, rfl, .one (.refl _)⟩
  · have hx0 : 0 ≤ x := by omega
    obtain ⟨k1, k2⟩ := ediv_of (x := x) (y := y) (q := (Q : Int)) (r := (R : Int)) (by omega) (by omega) (by omega)
    have m1 : (x / y).natAbs = Q := by rw [k1]; omega
    have m2 : (x % y).natAbs = R := by rw [k2]; omega
    have hQ0 : x = 0 → Q = 0 ∧ R = 0 := fun e => by subst e; simp at hqx hrx; exact ⟨hqx, hrx⟩
    have hs1 := cSignedZ (sg x) (x / y) (by rw [m1]; omega) (by rw [k1]; omega)
    have hs2 := cSignedZ (sg x) (x % y) (by rw [m2]; omega) (by rw [k2]; omega)
    rw [← m1, ← m2]
    conv => simp (maxSteps := 2000000) (disch := omega) only [go_sem, Nat.reduceAdd, Nat.reduceSub, Nat.reduceMul, Int.reduceToNat, Nat.reduceEqDiff, Nat.reduceBEq, Nat.reduceBneDiff, h1, sy, Int.mul_one]
    refine callk hs1 ?_
    conv => simp (maxSteps := 2000000) (disch := omega) only [go_sem, Nat.reduceAdd, Nat.reduceSub, Nat.reduceMul, Int.reduceToNat, Nat.reduceEqDiff, Nat.reduceBEq, Nat.reduceBneDiff]
    refine callk hs2 ?_
    conv => simp (maxSteps := 2000000) (disch := omega) only [go_sem, Nat.reduceAdd, Nat.reduceSub, Nat.reduceMul, Int.reduceToNat, Nat.reduceEqDiff, Nat.reduceBEq, Nat.reduceBneDiff]
    refine indk (by kernel_rfl) ?_
    conv => simp (maxSteps := 2000000) (disch := omega) only [go_sem, Nat.reduceAdd, Nat.reduceSub, Nat.reduceMul, Int.reduceToNat, Nat.reduceEqDiff, Nat.reduceBEq, Nat.reduceBneDiff]
    exact ⟨_, rfl, .one (.refl _)⟩

theorem cGcdZ (x y : Int) (hx : okZ x) (hy : okZ y) :
    CallsTo prog 39 [.agg [.raw (.int .i64 (sg x)), .ints .i64 (dig x.natAbs)], .agg [.raw (.int .i64 (sg y)), .ints .i64 (dig y.natAbs)]]
      (.tup [.agg [.raw (.int .i64 (sg (Int.gcd x y : Int))), .ints .i64 (dig (Int.gcd x y : Int).natAbs)], .one (.raw (.int .i64 0))]) := by
  refine CallsTo.run [] Go.Proofs.Try.func39 rfl rfl ?_; conv => simp (maxSteps := 2000000) (disch := omega) only [go_sem, Nat.reduceAdd, Nat.reduceSub, Nat.reduceMul, Int.reduceToNat, Nat.reduceEqDiff, Nat.reduceBEq, Nat.reduceBneDiff, Go.Proofs.Try.f39, List.replicate]
  refine callk (cRightZ x hx) ?_
  conv => simp (maxSteps := 2000000) (disch := omega) only [go_sem, Nat.reduceAdd, Nat.reduceSub, Nat.reduceMul, Int.reduceToNat, Nat.reduceEqDiff, Nat.reduceBEq, Nat.reduceBneDiff]
  refine callk (cRightZ y hy) ?_
  conv => simp (maxSteps := 2000000) (disch := omega) only [go_sem, Nat.reduceAdd, Nat.reduceSub, Nat.reduceMul, Int.reduceToNat, Nat.reduceEqDiff, Nat.reduceBEq, Nat.reduceBneDiff]
  refine callk (cClone _ (by omega)) ?_
  conv => simp (maxSteps := 2000000) (disch := omega) only [go_sem, Nat.reduceAdd, Nat.reduceSub, Nat.reduceMul, Int.reduceToNat, Nat.reduceEqDiff, Nat.reduceBEq, Nat.reduceBneDiff]
  refine indk (by kernel_rfl) ?_
  conv => simp (maxSteps := 2000000) (disch := omega) only [go_sem, Nat.reduceAdd, Nat.reduceSub, Nat.reduceMul, Int.reduceToNat, Nat.reduceEqDiff, Nat.reduceBEq, Nat.reduceBneDiff]
  refine loopo [5] (fun p : Nat × Nat => [(6, .one (.ints .i64 (dig p.1))), (7, .one (.ints .i64 (dig p.2)))])
    (fun p => Nat.gcd p.1 p.2 = Int.gcd x y ∧ (dig p.1).length ≤ 268435456 ∧ (dig p.2).length ≤ 268435456) (fun p => p.2) (x.natAbs, y.natAbs) ⟨rfl, hx, hy⟩ ?_ ?_
  · conv => simp (maxSteps := 2000000) (disch := omega) only [go_sem, Nat.reduceAdd, Nat.reduceSub, Nat.reduceMul, Int.reduceToNat, Nat.reduceEqDiff, Nat.reduceBEq, Nat.reduceBneDiff]
    exact StLe.weaken (by repeat' first | exact .nil | refine .cons (by first | exact .refl _ | exact .any _) ?_) rfl
  rintro ⟨m, n⟩ ⟨hg, hm, hn⟩
  simp only at hg hm hn
  conv => simp (maxSteps := 2000000) (disch := omega) only [go_sem, Nat.reduceAdd, Nat.reduceSub, Nat.reduceMul, Int.reduceToNat, Nat.reduceEqDiff, Nat.reduceBEq, Nat.reduceBneDiff]
  refine condd (fun h => ?_) (fun h => ?_)
  · have hn0 : n ≠ 0 := fun e => by rw [e, dig_zero] at h; simp at h
    conv => simp (maxSteps := 2000000) (disch := omega) only [go_sem, Nat.reduceAdd, Nat.reduceSub, Nat.reduceMul, Int.reduceToNat, Nat.reduceEqDiff, Nat.reduceBEq, Nat.reduceBneDiff]
    refine callk (cDiv m n (by omega) (by omega) hn0) ?_
    conv => simp (maxSteps := 2000000) (disch := omega) only [go_sem, Nat.reduceAdd, Nat.reduceSub, Nat.reduceMul, Int.reduceToNat, Nat.reduceEqDiff, Nat.reduceBEq, Nat.reduceBneDiff]
    refine ⟨(n, m % n), ⟨?_, hn, Nat.le_trans (dig_len_le (Nat.mod_le _ _)) hm⟩, Nat.mod_lt _ (by omega), StLe.weaken (by repeat' first | exact .nil | refine .cons (by first | exact .refl _ | exact .any _) ?_) rfl⟩
    dsimp only
    rw [← hg, Nat.gcd_comm n, ← Nat.gcd_rec, Nat.gcd_comm]
  · have hn0 : n = 0 := dig_nil.1 (List.eq_nil_of_length_eq_zero (by omega))
    subst hn0
    rw [Nat.gcd_zero_right] at hg
    have e : (Int.gcd x y : Int).natAbs = m := by rw [← hg]; rfl
    have hs := cSignedZ 1 (Int.gcd x y : Int) (by rw [e]; omega) (.inl ⟨rfl, by omega⟩)
    rw [e] at hs ⊢
    have hc := cChecked true (sg (Int.gcd x y : Int)) (dig m)
    conv => simp (maxSteps := 2000000) (disch := omega) only [go_sem, Nat.reduceAdd, Nat.reduceSub, Nat.reduceMul, Int.reduceToNat, Nat.reduceEqDiff, Nat.reduceBEq, Nat.reduceBneDiff]
    refine callk (cClone _ (by omega)) ?_
    conv => simp (maxSteps := 2000000) (disch := omega) only [go_sem, Nat.reduceAdd, Nat.reduceSub, Nat.reduceMul, Int.reduceToNat, Nat.reduceEqDiff, Nat.reduceBEq, Nat.reduceBneDiff]
    refine callk hs ?_
    conv => simp (maxSteps := 2000000) (disch := omega) only [go_sem, Nat.reduceAdd, Nat.reduceSub, Nat.reduceMul, Int.reduceToNat, Nat.reduceEqDiff, Nat.reduceBEq, Nat.reduceBneDiff]
    refine callk hc ?_
    conv => simp (maxSteps := 2000000) (disch := omega) only [go_sem, Nat.reduceAdd, Nat.reduceSub, Nat.reduceMul, Int.reduceToNat, Nat.reduceEqDiff, Nat.reduceBEq, Nat.reduceBneDiff, bigC]
    exact ⟨_, rfl, .one (.refl _)⟩
end Go.Slot.T

/- Plain laws: 64 bits without sign. -/
namespace Go.Slot
open Go Go.RowKit
theorem wu64 {n : Int} (h : 0 ≤ n ∧ n ≤ 18446744073709551615) : IntKind.u64.wrap n = n := by
  unfold IntKind.wrap
  simp [IntKind.bits, IntKind.signed]
  omega
theorem pow_small {i : Nat} (h : i ≤ 3) : (i = 0 ∧ (1048576 : Int) ^ i = 1) ∨ (i = 1 ∧ (1048576 : Int) ^ i = 1048576) ∨ (i = 2 ∧ (1048576 : Int) ^ i = 1099511627776) ∨ (i = 3 ∧ (1048576 : Int) ^ i = 1152921504606846976) := by
  have : i = 0 ∨ i = 1 ∨ i = 2 ∨ i = 3 := by omega
  rcases this with rfl | rfl | rfl | rfl
  · exact .inl ⟨rfl, by decide⟩
  · exact .inr (.inl ⟨rfl, by decide⟩)
  · exact .inr (.inr (.inl ⟨rfl, by decide⟩))
  · exact .inr (.inr (.inr ⟨rfl, by decide⟩))
theorem shlB {d : Int} {i : Nat} (hi : i ≤ 3) (h0 : 0 ≤ d) (h1 : d * 1048576 ^ i ≤ 18446744073709551615) : ishl .u64 d (20 * (i : Int)) = d * 1048576 ^ i := by
  unfold ishl
  have : (2 : Int) ^ (min (20 * (i : Int)).toNat IntKind.u64.bits) = 1048576 ^ i := by
    rcases pow_small hi with ⟨rfl, e⟩ | ⟨rfl, e⟩ | ⟨rfl, e⟩ | ⟨rfl, e⟩ <;> rw [e] <;> decide
  rw [this]
  exact wu64 ⟨Int.mul_nonneg h0 (Int.le_of_lt (pow_pos' i)), h1⟩
theorem orB {u d : Int} {i : Nat} (hi : i ≤ 3) (hu : 0 ≤ u ∧ u < 1048576 ^ i) (h0 : 0 ≤ d) (h1 : d * 1048576 ^ i + u ≤ 18446744073709551615) : ior .u64 u (d * 1048576 ^ i) = u + d * 1048576 ^ i := by
  unfold ior
  have key : ∀ (k : Nat) (x y : Nat), x < 2 ^ k → y * 2 ^ k + x < 2 ^ 64 → (BitVec.ofInt 64 (x : Int) ||| BitVec.ofInt 64 ((y * 2 ^ k : Nat) : Int)).toNat = y * 2 ^ k + x := fun k x y hx hy => by
    rw [BitVec.toNat_or, BitVec.toNat_ofInt, BitVec.toNat_ofInt]
    have e1 : (((x : Int)) % ((2 ^ 64 : Nat) : Int)).toNat = x := by omega
    have e2 : ((((y * 2 ^ k : Nat)) : Int) % ((2 ^ 64 : Nat) : Int)).toNat = y <<< k := by rw [Nat.shiftLeft_eq]; omega
    rw [e1, e2, Nat.or_comm, ← Nat.shiftLeft_add_eq_or_of_lt hx, Nat.shiftLeft_eq]
  obtain ⟨x, rfl⟩ := Int.eq_ofNat_of_zero_le hu.1
  obtain ⟨y, rfl⟩ := Int.eq_ofNat_of_zero_le h0
  have main : ∀ k : Nat, (1048576 : Int) ^ i = ((2 ^ k : Nat) : Int) → IntKind.u64.wrap ((BitVec.ofInt IntKind.u64.bits (x : Int) ||| BitVec.ofInt IntKind.u64.bits ((y : Int) * 1048576 ^ i)).toNat : Int) = (x : Int) + (y : Int) * 1048576 ^ i := fun k e => by
    rw [e] at h1 hu ⊢
    have h2 : (y : Int) * ((2 ^ k : Nat) : Int) = ((y * 2 ^ k : Nat) : Int) := by rw [Int.natCast_mul]
    rw [h2] at h1 ⊢
    have h3 := key k x y (by omega) (by omega)
    rw [show IntKind.u64.bits = 64 from rfl, h3, wu64 (by omega)]
    omega
  rcases pow_small hi with ⟨rfl, e⟩ | ⟨rfl, e⟩ | ⟨rfl, e⟩ | ⟨rfl, e⟩
  · exact main 0 (by rw [e]; rfl)
  · exact main 20 (by rw [e]; rfl)
  · exact main 40 (by rw [e]; rfl)
  · exact main 60 (by rw [e]; rfl)
theorem w64_neg {n : Int} (h : 9223372036854775808 ≤ n ∧ n ≤ 18446744073709551615) : IntKind.i64.wrap n = n - 18446744073709551616 := by rw [IntKind.wrap_i64]; omega
theorem wu64_neg {n : Int} (h : -18446744073709551616 ≤ n ∧ n < 0) : IntKind.u64.wrap n = n + 18446744073709551616 := by
  unfold IntKind.wrap
  simp [IntKind.bits, IntKind.signed]
  omega
attribute [go_sem] wu64
end Go.Slot

/- Contracts: big.Int, frac.one. -/
namespace Go.Slot.T
open Go Go.RowKit Go.Slot
open Go.Proofs.Try (prog)
set_option maxRecDepth 10000
set_option maxHeartbeats 4000000

/-- fits an int -/
def inI (z : Int) : Prop := -9223372036854775808 ≤ z ∧ z ≤ 9223372036854775807
instance (z : Int) : Decidable (inI z) := inferInstanceAs (Decidable (_ ∧ _))
theorem cInt (z : Int) (hz : okZ z) : CallsTo prog 70 [.agg [.raw (.int .i64 (sg z)), .ints .i64 (dig z.natAbs)]]
    (.tup [.one (.raw (.int .i64 (if inI z then z else 0))), .one (.raw (.bool (decide (inI z))))]) := by
  have hs := sg_cases z
  have hn := num_abs z
  have hd := dig_digits z.natAbs
  obtain ⟨r, hr⟩ : ∃ r, r = if inI z then z else 0 := ⟨_, rfl⟩
  obtain ⟨ok, hok⟩ : ∃ ok, ok = decide (inI z) := ⟨_, rfl⟩
  rw [← hr, ← hok]
  have bad : ¬ inI z → r = 0 ∧ ok = false := fun h => by rw [hr, hok, if_neg h, decide_eq_false h]; exact ⟨rfl, rfl⟩
  have good : inI z → r = z ∧ ok = true := fun h => by rw [hr, hok, if_pos h, decide_eq_true h]; exact ⟨rfl, rfl⟩
  clear hr hok
  refine CallsTo.run [] Go.Proofs.Try.func70 rfl rfl ?_; conv => simp (maxSteps := 2000000) (disch := omega) only [go_sem, Nat.reduceAdd, Nat.reduceSub, Nat.reduceMul, Int.reduceToNat, Nat.reduceEqDiff, Nat.reduceBEq, Nat.reduceBneDiff, Go.Proofs.Try.f70, List.replicate]
  refine callk (cRightZ z hz) ?_
  conv => simp (maxSteps := 2000000) (disch := omega) only [go_sem, Nat.reduceAdd, Nat.reduceSub, Nat.reduceMul, Int.reduceToNat, Nat.reduceEqDiff, Nat.reduceBEq, Nat.reduceBneDiff]
  refine condd (fun hbig => ?_) (fun hbig => ?_)
  · conv => simp (maxSteps := 2000000) (disch := omega) only [go_sem, Nat.reduceAdd, Nat.reduceSub, Nat.reduceMul, Int.reduceToNat, Nat.reduceEqDiff, Nat.reduceBEq, Nat.reduceBneDiff]
    obtain ⟨e1, e2⟩ := bad (fun h => by
      have : (dig z.natAbs).length ≤ 4 := dig_len (by unfold inI at h; omega)
      omega)
    exact ⟨_, rfl, by rw [e1, e2]; exact .one (.refl _)⟩
  have htop : (dig z.natAbs).length = 4 → (dig z.natAbs).getD 3 0 ≤ 8 ∨ ¬ inI z := fun h4 => by
    rcases Int.lt_or_le 8 ((dig z.natAbs).getD 3 0) with h | h
    · right
      intro hi
      have h1 := num_take_succ (dig z.natAbs) 3
      rw [take_ge (by omega), hn] at h1
      have h2 := num_nonneg (hd.take 3)
      unfold inI at hi
      omega
    · exact .inl h
  conv => simp (maxSteps := 2000000) (disch := omega) only [go_sem, Nat.reduceAdd, Nat.reduceSub, Nat.reduceMul, Int.reduceToNat, Nat.reduceEqDiff, Nat.reduceBEq, Nat.reduceBneDiff]
  refine loopo [1, 2, 3, 17, 18] (fun x : Nat × Int => [(4, .one (.raw (.int .u64 x.2))), (19, .one (.raw (.int .i64 x.1)))])
    (fun x => x.1 ≤ (dig z.natAbs).length ∧ x.2 = num ((dig z.natAbs).take x.1) ∧ (x.1 = 4 → (dig z.natAbs).getD 3 0 ≤ 8)) (fun x => (dig z.natAbs).length - x.1) (0, 0)
    ⟨Nat.zero_le _, by simp [num], by simp⟩ ?_ ?_
  · conv => simp (maxSteps := 2000000) (disch := omega) only [go_sem, Nat.reduceAdd, Nat.reduceSub, Nat.reduceMul, Int.reduceToNat, Nat.reduceEqDiff, Nat.reduceBEq, Nat.reduceBneDiff]
    exact StLe.weaken (by repeat' first | exact .nil | refine .cons (by first | exact .refl _ | exact .any _) ?_) rfl
  rintro ⟨i, u⟩ ⟨hi, hu, h4⟩
  simp only at hi hu h4
  have hu0 := num_nonneg (hd.take i)
  have hu1 := num_lt (hd.take i)
  rw [List.length_take, Nat.min_eq_left hi, ← hu] at hu1
  rw [← hu] at hu0
  conv => simp (maxSteps := 2000000) (disch := omega) only [go_sem, Nat.reduceAdd, Nat.reduceSub, Nat.reduceMul, Int.reduceToNat, Nat.reduceEqDiff, Nat.reduceBEq, Nat.reduceBneDiff]
  refine condd (fun h => ?_) (fun h => ?_)
  · have hdi := hd.getD i
    have hi3 : i ≤ 3 := by omega
    have hdB : i ≠ 3 ∨ (dig z.natAbs).getD i 0 ≤ 8 → (dig z.natAbs).getD i 0 * 1048576 ^ i + u ≤ 18446744073709551615 := fun h8 => by
      rcases pow_small hi3 with ⟨h9, e⟩ | ⟨h9, e⟩ | ⟨h9, e⟩ | ⟨h9, e⟩ <;> rw [e] at hu1 ⊢ <;> omega
    have hdB0 : 0 ≤ (dig z.natAbs).getD i 0 * 1048576 ^ i := Int.mul_nonneg hdi.1 (Int.le_of_lt (pow_pos' i))
    have hstep : u + (dig z.natAbs).getD i 0 * 1048576 ^ i = num ((dig z.natAbs).take (i + 1)) := by rw [num_take_succ, hu, Int.mul_comm]
    conv => simp (maxSteps := 2000000) (disch := omega) only [go_sem, Nat.reduceAdd, Nat.reduceSub, Nat.reduceMul, Int.reduceToNat, Nat.reduceEqDiff, Nat.reduceBEq, Nat.reduceBneDiff]
    refine guardd (fun h5 => ?_) (fun h5 => ?_)
    · have h5' := decide_eq_true h5
      conv => simp (maxSteps := 2000000) (disch := omega) only [go_sem, Nat.reduceAdd, Nat.reduceSub, Nat.reduceMul, Int.reduceToNat, Nat.reduceEqDiff, Nat.reduceBEq, Nat.reduceBneDiff, h5']
      refine condd (fun h6 => ?_) (fun h6 => ?_)
      · have i3 : i = 3 := by omega
        subst i3
        have hni : ¬ inI z := by
          rcases htop (by omega) with h7 | h7
          · omega
          · exact h7
        obtain ⟨e1, e2⟩ := bad hni
        conv => simp (maxSteps := 2000000) (disch := omega) only [go_sem, Nat.reduceAdd, Nat.reduceSub, Nat.reduceMul, Int.reduceToNat, Nat.reduceEqDiff, Nat.reduceBEq, Nat.reduceBneDiff]
        exact ⟨_, rfl, by rw [e1, e2]; exact .one (.refl _)⟩
      · have hdB := hdB (.inr (by omega))
        conv => simp (maxSteps := 2000000) (disch := omega) only [go_sem, Nat.reduceAdd, Nat.reduceSub, Nat.reduceMul, Int.reduceToNat, Nat.reduceEqDiff, Nat.reduceBEq, Nat.reduceBneDiff, shlB, orB]
        have h8 : i + 1 = 4 → (dig z.natAbs).getD 3 0 ≤ 8 := fun e => by
          have i3 : i = 3 := by omega
          subst i3
          omega
        exact ⟨(i + 1, u + (dig z.natAbs).getD i 0 * 1048576 ^ i), ⟨by dsimp only; omega, hstep, h8⟩, by dsimp only; omega, StLe.weaken (by repeat' first | exact .nil | refine .cons (by first | exact .refl _ | exact .any _) ?_) rfl⟩
    · have hdB := hdB (.inl (by omega))
      conv => simp (maxSteps := 2000000) (disch := omega) only [go_sem, Nat.reduceAdd, Nat.reduceSub, Nat.reduceMul, Int.reduceToNat, Nat.reduceEqDiff, Nat.reduceBEq, Nat.reduceBneDiff, h5, shlB, orB]
      exact ⟨(i + 1, u + (dig z.natAbs).getD i 0 * 1048576 ^ i), ⟨by dsimp only; omega, hstep, fun (e : i + 1 = 4) => by omega⟩, by dsimp only; omega, StLe.weaken (by repeat' first | exact .nil | refine .cons (by first | exact .refl _ | exact .any _) ?_) rfl⟩
  · have hil : i = (dig z.natAbs).length := by omega
    rw [hil, List.take_length, hn] at hu
    have hub : u ≤ 10376293541461622784 := by
      have : i ≤ 4 := by omega
      rcases Nat.lt_or_ge i 4 with h7 | h7
      · rcases pow_small (show i ≤ 3 by omega) with ⟨h9, e⟩ | ⟨h9, e⟩ | ⟨h9, e⟩ | ⟨h9, e⟩ <;> rw [e] at hu1 <;> omega
      · have h8 := num_take_succ (dig z.natAbs) 3
        rw [take_ge (by omega), hn] at h8
        have h9 := num_lt (hd.take 3)
        have h10 : ((dig z.natAbs).take 3).length = 3 := by simp; omega
        rw [h10] at h9
        have := h4 (by omega)
        have h11 : (1048576 : Int) ^ 3 = 1152921504606846976 := by decide
        rw [h11] at h9 h8
        omega
    conv => simp (maxSteps := 2000000) (disch := omega) only [go_sem, Nat.reduceAdd, Nat.reduceSub, Nat.reduceMul, Int.reduceToNat, Nat.reduceEqDiff, Nat.reduceBEq, Nat.reduceBneDiff]
    refine guardd (fun h5 => ?_) (fun h5 => ?_)
    · conv => simp (maxSteps := 2000000) (disch := omega) only [go_sem, Nat.reduceAdd, Nat.reduceSub, Nat.reduceMul, Int.reduceToNat, Nat.reduceEqDiff, Nat.reduceBEq, Nat.reduceBneDiff, h5]
      refine condd (fun h6 => ?_) (fun h6 => ?_)
      · obtain ⟨e1, e2⟩ := good (by unfold inI; omega)
        conv => simp (maxSteps := 2000000) (disch := omega) only [go_sem, Nat.reduceAdd, Nat.reduceSub, Nat.reduceMul, Int.reduceToNat, Nat.reduceEqDiff, Nat.reduceBEq, Nat.reduceBneDiff, wu64_neg, w64_neg]
        refine ⟨_, rfl, ?_⟩
        rw [e1, e2, show 0 - u + 18446744073709551616 - 18446744073709551616 = z by omega]
        exact .one (.refl _)
      · obtain ⟨e1, e2⟩ := bad (by unfold inI; omega)
        conv => simp (maxSteps := 2000000) (disch := omega) only [go_sem, Nat.reduceAdd, Nat.reduceSub, Nat.reduceMul, Int.reduceToNat, Nat.reduceEqDiff, Nat.reduceBEq, Nat.reduceBneDiff]
        refine guardd (fun h7 => absurd h7 (by omega)) (fun h7 => ?_)
        conv => simp (maxSteps := 2000000) (disch := omega) only [go_sem, Nat.reduceAdd, Nat.reduceSub, Nat.reduceMul, Int.reduceToNat, Nat.reduceEqDiff, Nat.reduceBEq, Nat.reduceBneDiff, h7]
        exact ⟨_, rfl, by rw [e1, e2]; exact .one (.refl _)⟩
    · conv => simp (maxSteps := 2000000) (disch := omega) only [go_sem, Nat.reduceAdd, Nat.reduceSub, Nat.reduceMul, Int.reduceToNat, Nat.reduceEqDiff, Nat.reduceBEq, Nat.reduceBneDiff, h5]
      refine guardd (fun h7 => ?_) (fun h7 => absurd (by omega) h7)
      conv => simp (maxSteps := 2000000) (disch := omega) only [go_sem, Nat.reduceAdd, Nat.reduceSub, Nat.reduceMul, Int.reduceToNat, Nat.reduceEqDiff, Nat.reduceBEq, Nat.reduceBneDiff, h7]
      refine condd (fun h6 => ?_) (fun h6 => ?_)
      · obtain ⟨e1, e2⟩ := good (by unfold inI; omega)
        conv => simp (maxSteps := 2000000) (disch := omega) only [go_sem, Nat.reduceAdd, Nat.reduceSub, Nat.reduceMul, Int.reduceToNat, Nat.reduceEqDiff, Nat.reduceBEq, Nat.reduceBneDiff]
        refine ⟨_, rfl, ?_⟩
        rw [e1, e2, show u = z by omega]
        exact .one (.refl _)
      · obtain ⟨e1, e2⟩ := bad (by unfold inI; omega)
        conv => simp (maxSteps := 2000000) (disch := omega) only [go_sem, Nat.reduceAdd, Nat.reduceSub, Nat.reduceMul, Int.reduceToNat, Nat.reduceEqDiff, Nat.reduceBEq, Nat.reduceBneDiff]
        exact ⟨_, rfl, by rw [e1, e2]; exact .one (.refl _)⟩

theorem cOne (z : Int) (hz : okZ z) : CallsTo prog 40 [.agg [.raw (.int .i64 (sg z)), .ints .i64 (dig z.natAbs)]] (.one (.raw (.bool (decide (z = 1))))) := by
  obtain ⟨r, hr⟩ : ∃ r, r = decide (z = 1) := ⟨_, rfl⟩
  rw [← hr]
  have hc := cInt z hz
  by_cases hi : inI z
  · rw [if_pos hi, decide_eq_true hi] at hc
    refine CallsTo.run [] Go.Proofs.Try.func40 rfl rfl ?_; conv => simp (maxSteps := 2000000) (disch := omega) only [go_sem, Nat.reduceAdd, Nat.reduceSub, Nat.reduceMul, Int.reduceToNat, Nat.reduceEqDiff, Nat.reduceBEq, Nat.reduceBneDiff, Go.Proofs.Try.f40, List.replicate]
    refine callk hc ?_
    conv => simp (maxSteps := 2000000) (disch := omega) only [go_sem, Nat.reduceAdd, Nat.reduceSub, Nat.reduceMul, Int.reduceToNat, Nat.reduceEqDiff, Nat.reduceBEq, Nat.reduceBneDiff]
    exact ⟨_, rfl, by rw [hr]; exact .one (.refl _)⟩
  · rw [if_neg hi, decide_eq_false hi] at hc
    refine CallsTo.run [] Go.Proofs.Try.func40 rfl rfl ?_; conv => simp (maxSteps := 2000000) (disch := omega) only [go_sem, Nat.reduceAdd, Nat.reduceSub, Nat.reduceMul, Int.reduceToNat, Nat.reduceEqDiff, Nat.reduceBEq, Nat.reduceBneDiff, Go.Proofs.Try.f40, List.replicate]
    refine callk hc ?_
    conv => simp (maxSteps := 2000000) (disch := omega) only [go_sem, Nat.reduceAdd, Nat.reduceSub, Nat.reduceMul, Int.reduceToNat, Nat.reduceEqDiff, Nat.reduceBEq, Nat.reduceBneDiff]
    exact ⟨_, rfl, by rw [hr, decide_eq_false (fun e => hi (by unfold inI; omega))]; exact .one (.refl _)⟩
end Go.Slot.T

/- Plain laws: fractions as they lie in memory. -/
namespace Go.Slot
open Go Go.RowKit
/-- a right fraction's cells -/
def frC (r : Rat) : List Cell := [.raw (.int .i64 (sg r.num)), .ints .i64 (dig r.num.natAbs), .raw (.int .i64 1), .ints .i64 (dig r.den)]
theorem sg_abs (z : Int) : sg z * num (dig z.natAbs) = z := by
  rw [num_abs]
  rcases sg_cases z with ⟨h, e⟩ | ⟨h, e⟩ | ⟨h, e⟩ <;> rw [e] <;> omega
def FracRight (s : Int) (L : List Int) (t : Int) (M : List Int) : Prop := BigRight s L ∧ BigRight t M ∧ t = 1 ∧ Int.gcd (s * num L) (t * num M) = 1
instance (s : Int) (L : List Int) (t : Int) (M : List Int) : Decidable (FracRight s L t M) := inferInstanceAs (Decidable (_ ∧ _))
theorem fracRight_iff (s : Int) (L : List Int) (t : Int) (M : List Int) : FracRight s L t M ↔ ∃ r : Rat, s = sg r.num ∧ L = dig r.num.natAbs ∧ t = 1 ∧ M = dig r.den := by
  constructor
  · rintro ⟨h1, h2, h3, h4⟩
    obtain ⟨x, rfl, rfl⟩ := (bigRight_iff _ _).1 h1
    obtain ⟨y, h5, rfl⟩ := (bigRight_iff _ _).1 h2
    rw [h5, sg_abs, sg_abs] at h4
    have hy : 0 < y := by rcases sg_cases y with ⟨h, e⟩ | ⟨h, e⟩ | ⟨h, e⟩ <;> omega
    refine ⟨⟨x, y.natAbs, by omega, h4⟩, rfl, rfl, h3, rfl⟩
  · rintro ⟨r, rfl, rfl, rfl, rfl⟩
    have hd : 0 < r.den := Nat.pos_of_ne_zero r.den_nz
    have hs : (1 : Int) = sg (r.den : Int) := (sg_pos (by omega)).symm
    have h2 : BigRight 1 (dig r.den) := by
      have := bigRight_z (r.den : Int)
      rw [← hs] at this
      exact this
    refine ⟨bigRight_z _, h2, rfl, ?_⟩
    rw [sg_abs, num_dig, Int.one_mul]
    exact r.reduced
end Go.Slot

/- Contracts of package frac: Right. -/
namespace Go.Slot.T
open Go Go.RowKit Go.Slot
open Go.Proofs.Try (prog)
set_option maxRecDepth 10000
set_option maxHeartbeats 4000000

theorem cFracRight (s : Int) (L : List Int) (t : Int) (M : List Int) (hL : L.length ≤ 268435456) (hM : M.length ≤ 268435456) :
    CallsTo prog 11 [.agg [.raw (.int .i64 s), .ints .i64 L, .raw (.int .i64 t), .ints .i64 M]] (.one (.raw (.bool (decide (FracRight s L t M))))) := by
  obtain ⟨r, hr⟩ : ∃ r, r = decide (FracRight s L t M) := ⟨_, rfl⟩
  rw [← hr]
  have bad : ¬ FracRight s L t M → r = false := fun h => by rw [hr, decide_eq_false h]
  by_cases h1 : BigRight s L
  · obtain ⟨x, rfl, rfl⟩ := (bigRight_iff _ _).1 h1
    by_cases h2 : BigRight t M
    · obtain ⟨y, rfl, rfl⟩ := (bigRight_iff _ _).1 h2
      refine CallsTo.run [] Go.Proofs.Try.func11 rfl rfl ?_; conv => simp (maxSteps := 2000000) (disch := omega) only [go_sem, Nat.reduceAdd, Nat.reduceSub, Nat.reduceMul, Int.reduceToNat, Nat.reduceEqDiff, Nat.reduceBEq, Nat.reduceBneDiff, Go.Proofs.Try.f11, List.replicate]
      refine callk (cRightZ x hL) ?_
      conv => simp (maxSteps := 2000000) (disch := omega) only [go_sem, Nat.reduceAdd, Nat.reduceSub, Nat.reduceMul, Int.reduceToNat, Nat.reduceEqDiff, Nat.reduceBEq, Nat.reduceBneDiff]
      refine callk (cRightZ y hM) ?_
      conv => simp (maxSteps := 2000000) (disch := omega) only [go_sem, Nat.reduceAdd, Nat.reduceSub, Nat.reduceMul, Int.reduceToNat, Nat.reduceEqDiff, Nat.reduceBEq, Nat.reduceBneDiff]
      refine condd (fun h3 => ?_) (fun h3 => ?_)
      · have e := bad (fun h => h3 h.2.2.1)
        subst e
        conv => simp (maxSteps := 2000000) (disch := omega) only [go_sem, Nat.reduceAdd, Nat.reduceSub, Nat.reduceMul, Int.reduceToNat, Nat.reduceEqDiff, Nat.reduceBEq, Nat.reduceBneDiff]
        exact ⟨_, rfl, .one (.refl _)⟩
      · have h3 : sg y = 1 := by omega
        have hgl : (dig (Int.gcd x y : Int).natAbs).length ≤ 268435456 := by
          have : (Int.gcd x y : Int).natAbs ≤ y.natAbs := by
            have hy : 0 < y.natAbs := by rcases sg_cases y with ⟨h, e⟩ | ⟨h, e⟩ | ⟨h, e⟩ <;> omega
            exact Nat.le_of_dvd hy (Nat.gcd_dvd_right _ _)
          exact Nat.le_trans (dig_len_le this) hM
        have e : r = decide ((Int.gcd x y : Int) = 1) := by
          rw [hr]
          apply decide_eq_decide.2
          unfold FracRight
          rw [sg_abs, sg_abs]
          constructor
          · exact fun h => by have := h.2.2.2; omega
          · exact fun h => ⟨h1, h2, h3, by omega⟩
        subst e
        conv => simp (maxSteps := 2000000) (disch := omega) only [go_sem, Nat.reduceAdd, Nat.reduceSub, Nat.reduceMul, Int.reduceToNat, Nat.reduceEqDiff, Nat.reduceBEq, Nat.reduceBneDiff]
        refine callk (cGcdZ x y hL hM) ?_
        conv => simp (maxSteps := 2000000) (disch := omega) only [go_sem, Nat.reduceAdd, Nat.reduceSub, Nat.reduceMul, Int.reduceToNat, Nat.reduceEqDiff, Nat.reduceBEq, Nat.reduceBneDiff]
        refine callk (cOne _ hgl) ?_
        conv => simp (maxSteps := 2000000) (disch := omega) only [go_sem, Nat.reduceAdd, Nat.reduceSub, Nat.reduceMul, Int.reduceToNat, Nat.reduceEqDiff, Nat.reduceBEq, Nat.reduceBneDiff]
        exact ⟨_, rfl, .one (.refl _)⟩
    · have e := bad (fun h => h2 h.2.1)
      subst e
      refine CallsTo.run [] Go.Proofs.Try.func11 rfl rfl ?_; conv => simp (maxSteps := 2000000) (disch := omega) only [go_sem, Nat.reduceAdd, Nat.reduceSub, Nat.reduceMul, Int.reduceToNat, Nat.reduceEqDiff, Nat.reduceBEq, Nat.reduceBneDiff, Go.Proofs.Try.f11, List.replicate]
      refine callk (cRightZ x hL) ?_
      conv => simp (maxSteps := 2000000) (disch := omega) only [go_sem, Nat.reduceAdd, Nat.reduceSub, Nat.reduceMul, Int.reduceToNat, Nat.reduceEqDiff, Nat.reduceBEq, Nat.reduceBneDiff]
      refine callk (cRightN t M hM h2) ?_
      conv => simp (maxSteps := 2000000) (disch := omega) only [go_sem, Nat.reduceAdd, Nat.reduceSub, Nat.reduceMul, Int.reduceToNat, Nat.reduceEqDiff, Nat.reduceBEq, Nat.reduceBneDiff]
      exact ⟨_, rfl, .one (.refl _)⟩
  · have e := bad (fun h => h1 h.1)
    subst e
    refine CallsTo.run [] Go.Proofs.Try.func11 rfl rfl ?_; conv => simp (maxSteps := 2000000) (disch := omega) only [go_sem, Nat.reduceAdd, Nat.reduceSub, Nat.reduceMul, Int.reduceToNat, Nat.reduceEqDiff, Nat.reduceBEq, Nat.reduceBneDiff, Go.Proofs.Try.f11, List.replicate]
    refine callk (cRightN s L hL h1) ?_
    conv => simp (maxSteps := 2000000) (disch := omega) only [go_sem, Nat.reduceAdd, Nat.reduceSub, Nat.reduceMul, Int.reduceToNat, Nat.reduceEqDiff, Nat.reduceBEq, Nat.reduceBneDiff]
    exact ⟨_, rfl, .one (.refl _)⟩
end Go.Slot.T

/- Plain laws: fractions as data, right or not; what the operations give. -/
namespace Go.Slot
open Go Go.RowKit
/-- a fraction as it lies in memory, right or not -/
structure Fc where
  s : Int
  L : List Int
  t : Int
  M : List Int
namespace Fc
def C (f : Fc) : List Cell := [.raw (.int .i64 f.s), .ints .i64 f.L, .raw (.int .i64 f.t), .ints .i64 f.M]
theorem C_eq {f : Fc} : f.C = [.raw (.int .i64 f.s), .ints .i64 f.L, .raw (.int .i64 f.t), .ints .i64 f.M] := _root_.id rfl
theorem C_mk {s : Int} {L : List Int} {t : Int} {M : List Int} : (Fc.mk s L t M).C = [.raw (.int .i64 s), .ints .i64 L, .raw (.int .i64 t), .ints .i64 M] := _root_.id rfl
theorem C_len {f : Fc} : f.C.length = 4 := rfl
theorem C_inj {f g : Fc} (h : f.C = g.C) : f = g := by
  cases f; cases g; simp [C] at h; simp [h]
def ok (f : Fc) : Prop := FracRight f.s f.L f.t f.M
instance (f : Fc) : Decidable f.ok := inferInstanceAs (Decidable (FracRight _ _ _ _))
def of (r : Rat) : Fc := ⟨sg r.num, dig r.num.natAbs, 1, dig r.den⟩
def zero : Fc := ⟨0, [], 0, []⟩
def val (f : Fc) : Rat := mkRat (f.s * num f.L) (num f.M).toNat
def sz (f : Fc) : Nat := max f.L.length f.M.length
theorem of_ok (r : Rat) : (of r).ok := (fracRight_iff _ _ _ _).2 ⟨r, rfl, rfl, rfl, rfl⟩
theorem val_of (r : Rat) : (of r).val = r := by
  show mkRat (sg r.num * num (dig r.num.natAbs)) (num (dig r.den)).toNat = r
  rw [sg_abs, num_dig, Int.toNat_natCast, Rat.mkRat_self]
theorem ok_of {f : Fc} (h : f.ok) : f = of f.val := by
  obtain ⟨r, h1, h2, h3, h4⟩ := (fracRight_iff _ _ _ _).1 h
  have : f = of r := by cases f; simp only [of] at *; subst h1 h2 h3 h4; rfl
  rw [this, val_of]
theorem ok_ex {f : Fc} (h : f.ok) : ∃ r, f = of r := ⟨_, ok_of h⟩
theorem of_inj {x y : Rat} (h : of x = of y) : x = y := by rw [← val_of x, h, val_of]
theorem zero_bad : ¬ zero.ok := fun h => by have := h.2.2.1; simp [zero] at this
theorem bigZero : ∀ s L, s = 0 → L = ([] : List Int) → BigRight s L := fun s L h1 h2 => ⟨by rw [h2]; exact digits.nil, .inl ⟨h2, h1⟩⟩

/-- the result of an operation with two fractions -/
def op2 (g : Rat → Rat → Rat) (a b : Fc) : Fc := if a.ok ∧ b.ok then of (g a.val b.val) else zero
def op1 (g : Rat → Rat) (a : Fc) : Fc := if a.ok then of (g a.val) else zero
/-- OK or ErrArg -/
def er (p : Prop) [Decidable p] : Int := if p then 0 else 1
def add := op2 (· + ·)
def sub := op2 (· - ·)
def mul := op2 (· * ·)
def maxf := op2 (fun x y => max x y)
def minf := op2 (fun x y => min x y)
def neg := op1 (fun x => -x)
def ordQ (x y : Rat) : Int := if x < y then -1 else if y < x then 1 else 0
def cmp (a b : Fc) : Int := if a.ok ∧ b.ok then ordQ a.val b.val else 0
def sign (a : Fc) : Int := if a.ok then sg a.val.num else 0
theorem op2_of (g : Rat → Rat → Rat) (x y : Rat) : op2 g (of x) (of y) = of (g x y) := by unfold op2; rw [if_pos ⟨of_ok x, of_ok y⟩, val_of, val_of]
theorem op2_bad {g : Rat → Rat → Rat} {a b : Fc} (h : ¬ (a.ok ∧ b.ok)) : op2 g a b = zero := if_neg h
theorem add_of (x y : Rat) : add (of x) (of y) = of (x + y) := op2_of _ x y
theorem sub_of (x y : Rat) : sub (of x) (of y) = of (x - y) := op2_of _ x y
theorem mul_of (x y : Rat) : mul (of x) (of y) = of (x * y) := op2_of _ x y
theorem maxf_of (x y : Rat) : maxf (of x) (of y) = of (max x y) := op2_of _ x y
theorem minf_of (x y : Rat) : minf (of x) (of y) = of (min x y) := op2_of _ x y
theorem neg_of (x : Rat) : neg (of x) = of (-x) := by unfold neg op1; rw [if_pos (of_ok x), val_of]
theorem cmp_of (x y : Rat) : cmp (of x) (of y) = ordQ x y := by unfold cmp; rw [if_pos ⟨of_ok x, of_ok y⟩, val_of, val_of]
theorem sign_of (x : Rat) : sign (of x) = sg x.num := by unfold sign; rw [if_pos (of_ok x), val_of]
theorem er_of {p : Prop} [Decidable p] (h : p) : er p = 0 := if_pos h
theorem er_bad {p : Prop} [Decidable p] (h : ¬ p) : er p = 1 := if_neg h
theorem add_ok {a b : Fc} : (add a b).ok ↔ (a.ok ∧ b.ok) := by
  unfold add op2; split
  · rename_i h; exact ⟨fun _ => h, fun _ => of_ok _⟩
  · rename_i h; exact ⟨fun h' => absurd h' zero_bad, fun h' => absurd h' h⟩
theorem sub_ok {a b : Fc} : (sub a b).ok ↔ (a.ok ∧ b.ok) := by
  unfold sub op2; split
  · rename_i h; exact ⟨fun _ => h, fun _ => of_ok _⟩
  · rename_i h; exact ⟨fun h' => absurd h' zero_bad, fun h' => absurd h' h⟩
theorem mul_ok {a b : Fc} : (mul a b).ok ↔ (a.ok ∧ b.ok) := by
  unfold mul op2; split
  · rename_i h; exact ⟨fun _ => h, fun _ => of_ok _⟩
  · rename_i h; exact ⟨fun h' => absurd h' zero_bad, fun h' => absurd h' h⟩
theorem ordQ_cases (x y : Rat) : (x < y ∧ ordQ x y = -1) ∨ (x = y ∧ ordQ x y = 0) ∨ (y < x ∧ ordQ x y = 1) := by
  unfold ordQ
  by_cases h : x < y
  · exact .inl ⟨h, if_pos h⟩
  · by_cases h1 : y < x
    · exact .inr (.inr ⟨h1, by rw [if_neg h, if_pos h1]⟩)
    · exact .inr (.inl ⟨Rat.le_antisymm (Rat.not_lt.1 h1) (Rat.not_lt.1 h), by rw [if_neg h, if_neg h1]⟩)
theorem ordQ_int (x y : Rat) : ord (x.num * y.den) (y.num * x.den) = ordQ x y := by
  unfold ord ordQ
  simp only [Rat.lt_iff]
theorem cmp_range (a b : Fc) : -1 ≤ cmp a b ∧ cmp a b ≤ 1 := by
  unfold cmp ordQ; repeat' split
  all_goals omega
theorem sign_range (a : Fc) : -1 ≤ sign a ∧ sign a ≤ 1 := by
  unfold sign sg; repeat' split
  all_goals omega

/-! ### sizes -/
theorem sz_zero : zero.sz = 0 := rfl
theorem sz_of (x : Rat) : (of x).sz = max (dig x.num.natAbs).length (dig x.den).length := rfl
theorem sz_mkRat (n : Int) (d : Nat) (hd : d ≠ 0) : (of (mkRat n d)).sz ≤ max (dig n.natAbs).length (dig d).length := by
  rw [sz_of, Rat.num_mkRat, Rat.den_mkRat, if_neg hd, if_neg hd]
  have h1 : (n / (d.gcd n.natAbs : Nat)).natAbs ≤ n.natAbs := by
    rw [Int.natAbs_ediv_of_dvd (by rw [← Int.dvd_natAbs, Int.ofNat_dvd]; exact Nat.gcd_dvd_right _ _), Int.natAbs_natCast]
    exact Nat.div_le_self _ _
  have h2 : d / d.gcd n.natAbs ≤ d := Nat.div_le_self _ _
  have := dig_len_le h1
  have := dig_len_le h2
  omega
theorem sz_add_of (x y : Rat) : (of (x + y)).sz ≤ (of x).sz + (of y).sz + 1 := by
  rw [Rat.add_def']
  refine Nat.le_trans (sz_mkRat _ _ (Nat.mul_ne_zero x.den_nz y.den_nz)) ?_
  have h1 := len_add (x.num * y.den) (y.num * x.den)
  have h2 := len_mul x.num y.den
  have h3 := len_mul y.num x.den
  have h4 := dig_len_mul x.den y.den
  rw [Int.natAbs_natCast] at h2 h3
  rw [sz_of, sz_of]
  omega
theorem sz_neg_of (x : Rat) : (of (-x)).sz = (of x).sz := by
  rw [sz_of, sz_of, Rat.neg_num, Rat.neg_den, Int.natAbs_neg]
theorem sz_mul_of (x y : Rat) : (of (x * y)).sz ≤ (of x).sz + (of y).sz := by
  rw [Rat.mul_def']
  refine Nat.le_trans (sz_mkRat _ _ (Nat.mul_ne_zero x.den_nz y.den_nz)) ?_
  have h2 := len_mul x.num y.num
  have h4 := dig_len_mul x.den y.den
  rw [sz_of, sz_of]
  omega
theorem sz_op2 {g : Rat → Rat → Rat} {n : Nat} (h : ∀ x y, (of (g x y)).sz ≤ (of x).sz + (of y).sz + n) (a b : Fc) : (op2 g a b).sz ≤ a.sz + b.sz + n := by
  unfold op2
  split
  · rename_i hab
    rw [ok_of hab.1, ok_of hab.2, val_of, val_of]
    exact h _ _
  · rw [sz_zero]; omega
theorem sz_add (a b : Fc) : (add a b).sz ≤ a.sz + b.sz + 1 := sz_op2 sz_add_of a b
theorem sz_sub (a b : Fc) : (sub a b).sz ≤ a.sz + b.sz + 1 := sz_op2 (fun x y => by
  have := sz_add_of x (-y)
  rw [sz_neg_of, ← Rat.sub_eq_add_neg] at this
  exact this) a b
theorem sz_mul (a b : Fc) : (mul a b).sz ≤ a.sz + b.sz := sz_op2 (n := 0) sz_mul_of a b
theorem sz_neg (a : Fc) : (neg a).sz ≤ a.sz := by
  unfold neg op1
  split
  · rename_i h
    rw [sz_neg_of, ← ok_of h]; exact Nat.le_refl _
  · rw [sz_zero]; omega
theorem sz_maxf (a b : Fc) : (maxf a b).sz ≤ a.sz + b.sz := sz_op2 (n := 0) (fun x y => by
  simp only [Rat.max_def]
  split <;> omega) a b
theorem sz_minf (a b : Fc) : (minf a b).sz ≤ a.sz + b.sz := sz_op2 (n := 0) (fun x y => by
  simp only [Rat.min_def]
  split <;> omega) a b
end Fc
attribute [go_sem] Fc.C_eq
end Go.Slot

/- Contracts: big.Of. -/
namespace Go.Slot.T
open Go Go.RowKit Go.Slot
open Go.Proofs.Try (prog)
set_option maxRecDepth 10000
set_option maxHeartbeats 4000000

theorem and20u {n : Int} (_h : 0 ≤ n) : iand .u64 n 1048575 = n % 1048576 := by
  unfold iand
  have h1 : (BitVec.ofInt IntKind.u64.bits n &&& BitVec.ofInt IntKind.u64.bits 1048575).toNat = (n % 1048576).toNat := by
    show (BitVec.ofInt 64 n &&& BitVec.ofInt 64 1048575).toNat = _
    rw [BitVec.toNat_and, BitVec.toNat_ofInt, BitVec.toNat_ofInt]
    have : ((1048575 : Int) % ((2 ^ 64 : Nat) : Int)).toNat = 2 ^ 20 - 1 := by decide
    rw [this, Nat.and_two_pow_sub_one_eq_mod]
    omega
  rw [h1, wu64 (by omega)]
  omega
theorem shr20u (n : Int) : ishr .u64 n 20 = n / 1048576 := by
  unfold ishr
  have : (2 : Int) ^ (min (20 : Int).toNat IntKind.u64.bits) = 1048576 := by decide
  rw [this, Int.fdiv_eq_ediv_of_nonneg _ (by decide)]

theorem dig_small {n : Nat} (h : n ≤ 18446744073709551615) : (dig n).length ≤ 4 := dig_len (Nat.lt_of_le_of_lt h (by decide))
theorem cOf (n : Int) (hn : inI n) : CallsTo prog 83 [.one (.raw (.int .i64 n))] (.agg [.raw (.int .i64 (sg n)), .ints .i64 (dig n.natAbs)]) := by
  unfold inI at hn
  refine CallsTo.run [(4, [.join])] Go.Proofs.Try.func83 rfl rfl ?_; conv => simp (maxSteps := 2000000) (disch := omega) only [go_sem, Nat.reduceAdd, Nat.reduceSub, Nat.reduceMul, Int.reduceToNat, Nat.reduceEqDiff, Nat.reduceBEq, Nat.reduceBneDiff, Go.Proofs.Try.f83, List.replicate]
  refine joino [] (fun s : Int => [(3, .one (.raw (.int .i64 s))), (4, .one (.raw (.int .u64 n.natAbs)))])
    (fun s => (s = 1 ∧ 0 ≤ n) ∨ (s = -1 ∧ n < 0)) ?_ ?_
  · by_cases h0 : n < 0
    · conv => simp (maxSteps := 2000000) (disch := omega) only [go_sem, Nat.reduceAdd, Nat.reduceSub, Nat.reduceMul, Int.reduceToNat, Nat.reduceEqDiff, Nat.reduceBEq, Nat.reduceBneDiff, wu64_neg]
      refine condd (fun h => ?_) (fun h => absurd h0 h)
      conv => simp (maxSteps := 2000000) (disch := omega) only [go_sem, Nat.reduceAdd, Nat.reduceSub, Nat.reduceMul, Int.reduceToNat, Nat.reduceEqDiff, Nat.reduceBEq, Nat.reduceBneDiff, wu64_neg]
      refine ⟨-1, .inr ⟨rfl, h0⟩, ?_⟩
      rw [show 0 - (n + 18446744073709551616) + 18446744073709551616 = ((n.natAbs : Nat) : Int) by omega]
      exact StLe.weaken (by repeat' first | exact .nil | refine .cons (by first | exact .refl _ | exact .any _) ?_) rfl
    · conv => simp (maxSteps := 2000000) (disch := omega) only [go_sem, Nat.reduceAdd, Nat.reduceSub, Nat.reduceMul, Int.reduceToNat, Nat.reduceEqDiff, Nat.reduceBEq, Nat.reduceBneDiff]
      refine condd (fun h => absurd h h0) (fun h => ?_)
      conv => simp (maxSteps := 2000000) (disch := omega) only [go_sem, Nat.reduceAdd, Nat.reduceSub, Nat.reduceMul, Int.reduceToNat, Nat.reduceEqDiff, Nat.reduceBEq, Nat.reduceBneDiff]
      refine ⟨1, .inl ⟨rfl, by omega⟩, ?_⟩
      rw [show n = ((n.natAbs : Nat) : Int) by omega]
      exact StLe.weaken (by repeat' first | exact .nil | refine .cons (by first | exact .refl _ | exact .any _) ?_) rfl
  rintro s hs
  have hN : (n.natAbs : Int) ≤ 9223372036854775808 := by omega
  generalize hNN : n.natAbs = N at *
  conv => simp (maxSteps := 2000000) (disch := omega) only [go_sem, Nat.reduceAdd, Nat.reduceSub, Nat.reduceMul, Int.reduceToNat, Nat.reduceEqDiff, Nat.reduceBEq, Nat.reduceBneDiff]
  refine loopo [3] (fun x : Nat × List Int × Int => [(4, .one (.raw (.int .u64 x.2.2))), (5, .one (.tok 21 (.ints .i64 x.2.1)))])
    (fun x => x.2.1.length = x.1 ∧ x.1 ≤ 4 ∧ digits x.2.1 ∧ 0 ≤ x.2.2 ∧ num x.2.1 + 1048576 ^ x.1 * x.2.2 = N) (fun x => x.2.2.toNat) (0, [], N)
    ⟨rfl, Nat.zero_le _, digits.nil, by simp, by simp [num]⟩ ?_ ?_
  · refine StLe.trans (StLe.tokI 5 21 (.ints .i64 []) rfl rfl rfl) ?_
    conv => simp (maxSteps := 2000000) (disch := omega) only [go_sem, Nat.reduceAdd, Nat.reduceSub, Nat.reduceMul, Int.reduceToNat, Nat.reduceEqDiff, Nat.reduceBEq, Nat.reduceBneDiff]
    exact StLe.weaken (by repeat' first | exact .nil | refine .cons (by first | exact .refl _ | exact .any _) ?_) rfl
  rintro ⟨k, l, u⟩ ⟨hl, hk, hd, hu, he⟩
  simp only at hl hk hd hu he
  have hl0 := num_nonneg hd
  have hp := pow_pos' k
  have huN : u ≤ N := by
    have := Int.mul_le_mul_of_nonneg_right (show (1 : Int) ≤ 1048576 ^ k by omega) hu
    omega
  conv => simp (maxSteps := 2000000) (disch := omega) only [go_sem, Nat.reduceAdd, Nat.reduceSub, Nat.reduceMul, Int.reduceToNat, Nat.reduceEqDiff, Nat.reduceBEq, Nat.reduceBneDiff]
  refine condd (fun h => ?_) (fun h => ?_)
  · have hk3 : k ≤ 3 := by
      rcases Nat.lt_or_ge k 4 with h4 | h4
      · omega
      · have h1 := pow_mono' h4
        have h2 := Int.mul_le_mul_of_nonneg_left (show (1 : Int) ≤ u by omega) (Int.le_of_lt hp)
        have h3 : (1048576 : Int) ^ 4 = 1208925819614629174706176 := by decide
        omega
    conv => simp (maxSteps := 2000000) (disch := omega) only [go_sem, Nat.reduceAdd, Nat.reduceSub, Nat.reduceMul, Int.reduceToNat, Nat.reduceEqDiff, Nat.reduceBEq, Nat.reduceBneDiff, and20u, shr20u]
    refine ⟨(k + 1, l ++ [u % 1048576], u / 1048576), ⟨by simp [hl], by dsimp only; omega, hd.append (digits.cons (by omega) digits.nil), by dsimp only; omega, ?_⟩, by dsimp only; omega, StLe.weaken (by repeat' first | exact .nil | refine .cons (by first | exact .refl _ | exact .any _) ?_) rfl⟩
    dsimp only
    rw [num_append, hl, Int.pow_succ]
    have h := Int.emod_add_mul_ediv u 1048576
    simp only [num]
    generalize (1048576 : Int) ^ k = P at *
    generalize u % 1048576 = r at *
    generalize u / 1048576 = q at *
    grind
  · have hu0 : u = 0 := by omega
    rw [hu0, Int.mul_zero, Int.add_zero] at he
    have e := trimL_eq' hd he
    rw [Int.toNat_natCast, ← hNN] at e
    have hdl : (dig N).length ≤ 4 := dig_small (by omega)
    have hsg := cSigned s l (by omega)
    unfold bigC at hsg
    rw [e, ← trimL_dig, zC_of (by omega)] at hsg
    unfold zC at hsg
    rw [hNN] at hsg
    conv => simp (maxSteps := 2000000) (disch := omega) only [go_sem, Nat.reduceAdd, Nat.reduceSub, Nat.reduceMul, Int.reduceToNat, Nat.reduceEqDiff, Nat.reduceBEq, Nat.reduceBneDiff]
    refine callk hsg ?_
    conv => simp (maxSteps := 2000000) (disch := omega) only [go_sem, Nat.reduceAdd, Nat.reduceSub, Nat.reduceMul, Int.reduceToNat, Nat.reduceEqDiff, Nat.reduceBEq, Nat.reduceBneDiff]
    exact ⟨_, rfl, .one (.refl _)⟩
end Go.Slot.T

/- Contracts of package frac: times, New, Add, Sub, Mul. -/
namespace Go.Slot.T
open Go Go.RowKit Go.Slot
open Go.Proofs.Try (prog)
set_option maxRecDepth 10000
set_option maxHeartbeats 4000000

theorem of_s {r : Rat} : (Fc.of r).s = sg r.num := _root_.id rfl
theorem of_L {r : Rat} : (Fc.of r).L = dig r.num.natAbs := _root_.id rfl
theorem of_t {r : Rat} : (Fc.of r).t = 1 := _root_.id rfl
theorem of_M {r : Rat} : (Fc.of r).M = dig r.den := _root_.id rfl
theorem zero_s : Fc.zero.s = 0 := _root_.id rfl
theorem zero_L : Fc.zero.L = [] := _root_.id rfl
theorem zero_t : Fc.zero.t = 0 := _root_.id rfl
theorem zero_M : Fc.zero.M = [] := _root_.id rfl
attribute [go_sem] of_s of_L of_t of_M zero_s zero_L zero_t zero_M
theorem sg_den (r : Rat) : sg (r.den : Int) = 1 := sg_pos (by have := Nat.pos_of_ne_zero r.den_nz; omega)
theorem sg_nat {d : Nat} (h : d ≠ 0) : sg (d : Int) = 1 := sg_pos (by omega)
theorem szL {f : Fc} {n : Nat} (h : f.sz ≤ n) : f.L.length ≤ n ∧ f.M.length ≤ n := by unfold Fc.sz at h; omega
theorem szO {r : Rat} {n : Nat} (h : (Fc.of r).sz ≤ n) : (dig r.num.natAbs).length ≤ n ∧ (dig r.den).length ≤ n := szL h

theorem cRightF (f : Fc) (h : f.sz ≤ 268435456) : CallsTo prog 11 [.agg f.C] (.one (.raw (.bool (decide f.ok)))) :=
  cFracRight f.s f.L f.t f.M (szL h).1 (szL h).2
theorem cRightOf (r : Rat) (h : (Fc.of r).sz ≤ 268435456) : CallsTo prog 11 [.agg (Fc.of r).C] (.one (.raw (.bool true))) := by
  have := cRightF (Fc.of r) h
  rwa [decide_eq_true (Fc.of_ok r)] at this
theorem cRightBad (f : Fc) (h : f.sz ≤ 268435456) (hb : ¬ f.ok) : CallsTo prog 11 [.agg f.C] (.one (.raw (.bool false))) := by
  have := cRightF f h
  rwa [decide_eq_false hb] at this

theorem zeroLe : AV.Le (.agg [.raw (.int .i64 0), .zc, .raw (.int .i64 0), .zc]) (.agg Fc.zero.C) := .agg (.cons (.refl _) (.cons (.zcInts _) (.cons (.refl _) (.cons (.zcInts _) .nil))))
theorem cTimes (x y : Int) (hx : okZ x) (hy : okZ y) :
    CallsTo prog 49 [.agg [.raw (.int .i64 (sg x)), .ints .i64 (dig x.natAbs)], .agg [.raw (.int .i64 (sg y)), .ints .i64 (dig y.natAbs)]]
      (.agg [.raw (.int .i64 (sg (x * y))), .ints .i64 (dig (x * y).natAbs)]) := by
  refine CallsTo.run [] Go.Proofs.Try.func49 rfl rfl ?_; conv => simp (maxSteps := 2000000) (disch := omega) only [go_sem, Nat.reduceAdd, Nat.reduceSub, Nat.reduceMul, Int.reduceToNat, Nat.reduceEqDiff, Nat.reduceBEq, Nat.reduceBneDiff, Go.Proofs.Try.f49, List.replicate]
  refine callk (cMulZ x y hx hy) ?_
  conv => simp (maxSteps := 2000000) (disch := omega) only [go_sem, Nat.reduceAdd, Nat.reduceSub, Nat.reduceMul, Int.reduceToNat, Nat.reduceEqDiff, Nat.reduceBEq, Nat.reduceBneDiff]
  exact ⟨_, rfl, .one (.refl _)⟩
theorem cTimesQ (x : Int) (d : Nat) (hx : okZ x) (hd : d ≠ 0) (hl : (dig d).length ≤ 268435456) :
    CallsTo prog 49 [.agg [.raw (.int .i64 (sg x)), .ints .i64 (dig x.natAbs)], .agg [.raw (.int .i64 1), .ints .i64 (dig d)]]
      (.agg [.raw (.int .i64 (sg (x * d))), .ints .i64 (dig (x * d).natAbs)]) := by
  have := cTimes x (d : Int) hx hl
  rw [sg_nat hd] at this
  exact this
theorem cTimesD (c d : Nat) (hc0 : c ≠ 0) (hd : d ≠ 0) (hc : (dig c).length ≤ 268435456) (hl : (dig d).length ≤ 268435456) :
    CallsTo prog 49 [.agg [.raw (.int .i64 1), .ints .i64 (dig c)], .agg [.raw (.int .i64 1), .ints .i64 (dig d)]]
      (.agg [.raw (.int .i64 1), .ints .i64 (dig (c * d))]) := by
  have := cTimesQ (c : Int) d hc hd hl
  rw [sg_nat hc0, show (c : Int) * d = ((c * d : Nat) : Int) from (Int.natCast_mul c d).symm, sg_nat (Nat.mul_ne_zero hc0 hd)] at this
  exact this
theorem mkRat_parts (z : Int) {d : Nat} (hd : d ≠ 0) : (mkRat z d).num = z / (Int.gcd z d : Int) ∧ ((mkRat z d).den : Int) = d / (Int.gcd z d : Int) ∧ 0 < (Int.gcd z d : Int) := by
  have hg : Int.gcd z d = d.gcd z.natAbs := by rw [Int.gcd_eq_natAbs_gcd_natAbs, Int.natAbs_natCast, Nat.gcd_comm]
  have hp : 0 < d.gcd z.natAbs := Nat.gcd_pos_of_pos_left _ (Nat.pos_of_ne_zero hd)
  rw [Rat.num_mkRat, Rat.den_mkRat, if_neg hd, if_neg hd, hg]
  exact ⟨rfl, by rw [Int.natCast_ediv], by omega⟩
theorem cNewQ (z : Int) (d : Nat) (hz : okZ z) (hd : d ≠ 0) (hl : (dig d).length ≤ 268435456) :
    CallsTo prog 76 [.agg [.raw (.int .i64 (sg z)), .ints .i64 (dig z.natAbs)], .agg [.raw (.int .i64 1), .ints .i64 (dig d)]]
      (.tup [.agg (Fc.of (mkRat z d)).C, .one (.raw (.int .i64 0))]) := by
  obtain ⟨p1, p2, p3⟩ := mkRat_parts z hd
  have hden := sg_den (mkRat z d)
  rw [p2] at hden
  have hden2 : (mkRat z d).den = ((d : Int) / (Int.gcd z d : Int)).natAbs := by omega
  have hgl : okZ (Int.gcd z d : Int) := by
    have : (Int.gcd z d : Int).natAbs ≤ d := by
      have : Int.gcd z d ∣ d := by have := Int.gcd_dvd_natAbs_right z d; simpa using this
      exact Nat.le_of_dvd (Nat.pos_of_ne_zero hd) this
    exact Nat.le_trans (dig_len_le this) hl
  have hr := cRightZ (d : Int) hl
  have hg := cGcdZ z d hz hl
  have hd1 := cDivZ z (Int.gcd z d : Int) hz hgl p3
  have hd2 := cDivZ d (Int.gcd z d : Int) hl hgl p3
  rw [sg_nat hd] at hr hg hd2
  rw [hden] at hd2
  rw [show ((d : Nat) : Int).natAbs = d from rfl] at hr hg hd2
  have hfin : (Fc.of (mkRat z d)).C = [.raw (.int .i64 (sg (z / (Int.gcd z d : Int)))), .ints .i64 (dig (z / (Int.gcd z d : Int)).natAbs), .raw (.int .i64 1), .ints .i64 (dig ((d : Int) / (Int.gcd z d : Int)).natAbs)] := by
    rw [← p1, ← hden2]; rfl
  rw [hfin]
  generalize (Int.gcd z d : Int) = g at *
  refine CallsTo.run [] Go.Proofs.Try.func76 rfl rfl ?_; conv => simp (maxSteps := 2000000) (disch := omega) only [go_sem, Nat.reduceAdd, Nat.reduceSub, Nat.reduceMul, Int.reduceToNat, Nat.reduceEqDiff, Nat.reduceBEq, Nat.reduceBneDiff, Go.Proofs.Try.f76, List.replicate]
  refine callk (cRightZ z hz) ?_
  conv => simp (maxSteps := 2000000) (disch := omega) only [go_sem, Nat.reduceAdd, Nat.reduceSub, Nat.reduceMul, Int.reduceToNat, Nat.reduceEqDiff, Nat.reduceBEq, Nat.reduceBneDiff]
  refine callk hr ?_
  conv => simp (maxSteps := 2000000) (disch := omega) only [go_sem, Nat.reduceAdd, Nat.reduceSub, Nat.reduceMul, Int.reduceToNat, Nat.reduceEqDiff, Nat.reduceBEq, Nat.reduceBneDiff]
  refine condd (fun h => absurd h (by decide)) (fun _ => ?_)
  conv => simp (maxSteps := 2000000) (disch := omega) only [go_sem, Nat.reduceAdd, Nat.reduceSub, Nat.reduceMul, Int.reduceToNat, Nat.reduceEqDiff, Nat.reduceBEq, Nat.reduceBneDiff]
  refine condd (fun h => absurd h (by decide)) (fun _ => ?_)
  conv => simp (maxSteps := 2000000) (disch := omega) only [go_sem, Nat.reduceAdd, Nat.reduceSub, Nat.reduceMul, Int.reduceToNat, Nat.reduceEqDiff, Nat.reduceBEq, Nat.reduceBneDiff]
  refine callk hg ?_
  conv => simp (maxSteps := 2000000) (disch := omega) only [go_sem, Nat.reduceAdd, Nat.reduceSub, Nat.reduceMul, Int.reduceToNat, Nat.reduceEqDiff, Nat.reduceBEq, Nat.reduceBneDiff]
  refine callk hd1 ?_
  conv => simp (maxSteps := 2000000) (disch := omega) only [go_sem, Nat.reduceAdd, Nat.reduceSub, Nat.reduceMul, Int.reduceToNat, Nat.reduceEqDiff, Nat.reduceBEq, Nat.reduceBneDiff]
  refine callk hd2 ?_
  conv => simp (maxSteps := 2000000) (disch := omega) only [go_sem, Nat.reduceAdd, Nat.reduceSub, Nat.reduceMul, Int.reduceToNat, Nat.reduceEqDiff, Nat.reduceBEq, Nat.reduceBneDiff]
  exact ⟨_, rfl, .tup (.cons (.refl _) (.cons (.refl _) .nil))⟩
theorem cAddF (a b : Fc) (ha : a.sz ≤ 67108864) (hb : b.sz ≤ 67108864) :
    CallsTo prog 47 [.agg a.C, .agg b.C] (.tup [.agg (Fc.add a b).C, .one (.raw (.int .i64 (Fc.er (a.ok ∧ b.ok))))]) := by
  by_cases h1 : a.ok
  · by_cases h2 : b.ok
    · rw [Fc.er_of ⟨h1, h2⟩]
      obtain ⟨x, rfl⟩ := Fc.ok_ex h1
      obtain ⟨y, rfl⟩ := Fc.ok_ex h2
      have lx := szO ha
      have ly := szO hb
      have l1 := len_mul x.num y.den
      have l2 := len_mul y.num x.den
      have l3 := len_add (x.num * y.den) (y.num * x.den)
      have l4 := dig_len_mul x.den y.den
      rw [Int.natAbs_natCast] at l1 l2
      rw [Fc.add_of, Rat.add_def']
      refine CallsTo.run [] Go.Proofs.Try.func47 rfl rfl ?_; conv => simp (maxSteps := 2000000) (disch := omega) only [go_sem, Nat.reduceAdd, Nat.reduceSub, Nat.reduceMul, Int.reduceToNat, Nat.reduceEqDiff, Nat.reduceBEq, Nat.reduceBneDiff, Go.Proofs.Try.f47, List.replicate]
      refine callk (cRightOf x (by omega)) ?_
      conv => simp (maxSteps := 2000000) (disch := omega) only [go_sem, Nat.reduceAdd, Nat.reduceSub, Nat.reduceMul, Int.reduceToNat, Nat.reduceEqDiff, Nat.reduceBEq, Nat.reduceBneDiff]
      refine callk (cRightOf y (by omega)) ?_
      conv => simp (maxSteps := 2000000) (disch := omega) only [go_sem, Nat.reduceAdd, Nat.reduceSub, Nat.reduceMul, Int.reduceToNat, Nat.reduceEqDiff, Nat.reduceBEq, Nat.reduceBneDiff]
      refine callk (cTimesQ x.num y.den (by unfold okZ; omega) y.den_nz (by omega)) ?_
      conv => simp (maxSteps := 2000000) (disch := omega) only [go_sem, Nat.reduceAdd, Nat.reduceSub, Nat.reduceMul, Int.reduceToNat, Nat.reduceEqDiff, Nat.reduceBEq, Nat.reduceBneDiff]
      refine callk (cTimesQ y.num x.den (by unfold okZ; omega) x.den_nz (by omega)) ?_
      conv => simp (maxSteps := 2000000) (disch := omega) only [go_sem, Nat.reduceAdd, Nat.reduceSub, Nat.reduceMul, Int.reduceToNat, Nat.reduceEqDiff, Nat.reduceBEq, Nat.reduceBneDiff]
      refine callk (cAddZ (x.num * y.den) (y.num * x.den) (by unfold okZ; omega) (by unfold okZ; omega)) ?_
      conv => simp (maxSteps := 2000000) (disch := omega) only [go_sem, Nat.reduceAdd, Nat.reduceSub, Nat.reduceMul, Int.reduceToNat, Nat.reduceEqDiff, Nat.reduceBEq, Nat.reduceBneDiff]
      refine indk (by kernel_rfl) ?_
      conv => simp (maxSteps := 2000000) (disch := omega) only [go_sem, Nat.reduceAdd, Nat.reduceSub, Nat.reduceMul, Int.reduceToNat, Nat.reduceEqDiff, Nat.reduceBEq, Nat.reduceBneDiff]
      refine callk (cTimesD x.den y.den x.den_nz y.den_nz (by omega) (by omega)) ?_
      conv => simp (maxSteps := 2000000) (disch := omega) only [go_sem, Nat.reduceAdd, Nat.reduceSub, Nat.reduceMul, Int.reduceToNat, Nat.reduceEqDiff, Nat.reduceBEq, Nat.reduceBneDiff]
      refine callk (cNewQ (x.num * y.den + y.num * x.den) (x.den * y.den) (by unfold okZ; omega) (Nat.mul_ne_zero x.den_nz y.den_nz) (by omega)) ?_
      conv => simp (maxSteps := 2000000) (disch := omega) only [go_sem, Nat.reduceAdd, Nat.reduceSub, Nat.reduceMul, Int.reduceToNat, Nat.reduceEqDiff, Nat.reduceBEq, Nat.reduceBneDiff]
      refine indk (by kernel_rfl) ?_
      conv => simp (maxSteps := 2000000) (disch := omega) only [go_sem, Nat.reduceAdd, Nat.reduceSub, Nat.reduceMul, Int.reduceToNat, Nat.reduceEqDiff, Nat.reduceBEq, Nat.reduceBneDiff]
      exact ⟨_, rfl, .tup (.cons (.refl _) (.cons (.refl _) .nil))⟩
    · rw [Fc.er_bad (fun h => h2 h.2), show Fc.add a b = Fc.zero from Fc.op2_bad (fun h => h2 h.2)]
      obtain ⟨x, rfl⟩ := Fc.ok_ex h1
      refine CallsTo.run [] Go.Proofs.Try.func47 rfl rfl ?_; conv => simp (maxSteps := 2000000) (disch := omega) only [go_sem, Nat.reduceAdd, Nat.reduceSub, Nat.reduceMul, Int.reduceToNat, Nat.reduceEqDiff, Nat.reduceBEq, Nat.reduceBneDiff, Go.Proofs.Try.f47, List.replicate]
      refine callk (cRightOf x (by omega)) ?_
      conv => simp (maxSteps := 2000000) (disch := omega) only [go_sem, Nat.reduceAdd, Nat.reduceSub, Nat.reduceMul, Int.reduceToNat, Nat.reduceEqDiff, Nat.reduceBEq, Nat.reduceBneDiff]
      refine callk (cRightBad b (by omega) h2) ?_
      conv => simp (maxSteps := 2000000) (disch := omega) only [go_sem, Nat.reduceAdd, Nat.reduceSub, Nat.reduceMul, Int.reduceToNat, Nat.reduceEqDiff, Nat.reduceBEq, Nat.reduceBneDiff]
      exact ⟨_, rfl, .tup (.cons zeroLe (.cons (.refl _) .nil))⟩
  · rw [Fc.er_bad (fun h => h1 h.1), show Fc.add a b = Fc.zero from Fc.op2_bad (fun h => h1 h.1)]
    refine CallsTo.run [] Go.Proofs.Try.func47 rfl rfl ?_; conv => simp (maxSteps := 2000000) (disch := omega) only [go_sem, Nat.reduceAdd, Nat.reduceSub, Nat.reduceMul, Int.reduceToNat, Nat.reduceEqDiff, Nat.reduceBEq, Nat.reduceBneDiff, Go.Proofs.Try.f47, List.replicate]
    refine callk (cRightBad a (by omega) h1) ?_
    conv => simp (maxSteps := 2000000) (disch := omega) only [go_sem, Nat.reduceAdd, Nat.reduceSub, Nat.reduceMul, Int.reduceToNat, Nat.reduceEqDiff, Nat.reduceBEq, Nat.reduceBneDiff]
    exact ⟨_, rfl, .tup (.cons zeroLe (.cons (.refl _) .nil))⟩
end Go.Slot.T

/- Contracts of package frac: Sub, Mul, Compare, Neg, Sign, Min, Max, Same, Int. -/
namespace Go.Slot.T
open Go Go.RowKit Go.Slot
open Go.Proofs.Try (prog)
set_option maxRecDepth 10000
set_option maxHeartbeats 4000000

theorem cSubF (a b : Fc) (ha : a.sz ≤ 67108864) (hb : b.sz ≤ 67108864) :
    CallsTo prog 21 [.agg a.C, .agg b.C] (.tup [.agg (Fc.sub a b).C, .one (.raw (.int .i64 (Fc.er (a.ok ∧ b.ok))))]) := by
  by_cases h1 : a.ok
  · by_cases h2 : b.ok
    · rw [Fc.er_of ⟨h1, h2⟩]
      obtain ⟨x, rfl⟩ := Fc.ok_ex h1
      obtain ⟨y, rfl⟩ := Fc.ok_ex h2
      have lx := szO ha
      have ly := szO hb
      have hA := cAddF (Fc.of x) (Fc.of (-y)) ha (by rw [Fc.sz_neg_of]; exact hb)
      rw [Fc.er_of ⟨Fc.of_ok _, Fc.of_ok _⟩, Fc.add_of, ← Rat.sub_eq_add_neg] at hA
      rw [Fc.sub_of]
      refine CallsTo.run [] Go.Proofs.Try.func21 rfl rfl ?_; conv => simp (maxSteps := 2000000) (disch := omega) only [go_sem, Nat.reduceAdd, Nat.reduceSub, Nat.reduceMul, Int.reduceToNat, Nat.reduceEqDiff, Nat.reduceBEq, Nat.reduceBneDiff, Go.Proofs.Try.f21, List.replicate]
      refine callk (cRightOf x (by omega)) ?_
      conv => simp (maxSteps := 2000000) (disch := omega) only [go_sem, Nat.reduceAdd, Nat.reduceSub, Nat.reduceMul, Int.reduceToNat, Nat.reduceEqDiff, Nat.reduceBEq, Nat.reduceBneDiff]
      refine callk (cRightOf y (by omega)) ?_
      conv => simp (maxSteps := 2000000) (disch := omega) only [go_sem, Nat.reduceAdd, Nat.reduceSub, Nat.reduceMul, Int.reduceToNat, Nat.reduceEqDiff, Nat.reduceBEq, Nat.reduceBneDiff]
      refine callk (cNegZ y.num (by unfold okZ; omega)) ?_
      conv => simp (maxSteps := 2000000) (disch := omega) only [go_sem, Nat.reduceAdd, Nat.reduceSub, Nat.reduceMul, Int.reduceToNat, Nat.reduceEqDiff, Nat.reduceBEq, Nat.reduceBneDiff]
      refine callk hA ?_
      conv => simp (maxSteps := 2000000) (disch := omega) only [go_sem, Nat.reduceAdd, Nat.reduceSub, Nat.reduceMul, Int.reduceToNat, Nat.reduceEqDiff, Nat.reduceBEq, Nat.reduceBneDiff]
      refine indk (by kernel_rfl) ?_
      conv => simp (maxSteps := 2000000) (disch := omega) only [go_sem, Nat.reduceAdd, Nat.reduceSub, Nat.reduceMul, Int.reduceToNat, Nat.reduceEqDiff, Nat.reduceBEq, Nat.reduceBneDiff]
      exact ⟨_, rfl, .tup (.cons (.refl _) (.cons (.refl _) .nil))⟩
    · rw [Fc.er_bad (fun h => h2 h.2), show Fc.sub a b = Fc.zero from Fc.op2_bad (fun h => h2 h.2)]
      obtain ⟨x, rfl⟩ := Fc.ok_ex h1
      refine CallsTo.run [] Go.Proofs.Try.func21 rfl rfl ?_; conv => simp (maxSteps := 2000000) (disch := omega) only [go_sem, Nat.reduceAdd, Nat.reduceSub, Nat.reduceMul, Int.reduceToNat, Nat.reduceEqDiff, Nat.reduceBEq, Nat.reduceBneDiff, Go.Proofs.Try.f21, List.replicate]
      refine callk (cRightOf x (by omega)) ?_
      conv => simp (maxSteps := 2000000) (disch := omega) only [go_sem, Nat.reduceAdd, Nat.reduceSub, Nat.reduceMul, Int.reduceToNat, Nat.reduceEqDiff, Nat.reduceBEq, Nat.reduceBneDiff]
      refine callk (cRightBad b (by omega) h2) ?_
      conv => simp (maxSteps := 2000000) (disch := omega) only [go_sem, Nat.reduceAdd, Nat.reduceSub, Nat.reduceMul, Int.reduceToNat, Nat.reduceEqDiff, Nat.reduceBEq, Nat.reduceBneDiff]
      exact ⟨_, rfl, .tup (.cons zeroLe (.cons (.refl _) .nil))⟩
  · rw [Fc.er_bad (fun h => h1 h.1), show Fc.sub a b = Fc.zero from Fc.op2_bad (fun h => h1 h.1)]
    refine CallsTo.run [] Go.Proofs.Try.func21 rfl rfl ?_; conv => simp (maxSteps := 2000000) (disch := omega) only [go_sem, Nat.reduceAdd, Nat.reduceSub, Nat.reduceMul, Int.reduceToNat, Nat.reduceEqDiff, Nat.reduceBEq, Nat.reduceBneDiff, Go.Proofs.Try.f21, List.replicate]
    refine callk (cRightBad a (by omega) h1) ?_
    conv => simp (maxSteps := 2000000) (disch := omega) only [go_sem, Nat.reduceAdd, Nat.reduceSub, Nat.reduceMul, Int.reduceToNat, Nat.reduceEqDiff, Nat.reduceBEq, Nat.reduceBneDiff]
    exact ⟨_, rfl, .tup (.cons zeroLe (.cons (.refl _) .nil))⟩
theorem cMulF (a b : Fc) (ha : a.sz ≤ 67108864) (hb : b.sz ≤ 67108864) :
    CallsTo prog 46 [.agg a.C, .agg b.C] (.tup [.agg (Fc.mul a b).C, .one (.raw (.int .i64 (Fc.er (a.ok ∧ b.ok))))]) := by
  by_cases h1 : a.ok
  · by_cases h2 : b.ok
    · rw [Fc.er_of ⟨h1, h2⟩]
      obtain ⟨x, rfl⟩ := Fc.ok_ex h1
      obtain ⟨y, rfl⟩ := Fc.ok_ex h2
      have lx := szO ha
      have ly := szO hb
      have l1 := len_mul x.num y.num
      have l4 := dig_len_mul x.den y.den
      rw [Fc.mul_of, Rat.mul_def']
      refine CallsTo.run [] Go.Proofs.Try.func46 rfl rfl ?_; conv => simp (maxSteps := 2000000) (disch := omega) only [go_sem, Nat.reduceAdd, Nat.reduceSub, Nat.reduceMul, Int.reduceToNat, Nat.reduceEqDiff, Nat.reduceBEq, Nat.reduceBneDiff, Go.Proofs.Try.f46, List.replicate]
      refine callk (cRightOf x (by omega)) ?_
      conv => simp (maxSteps := 2000000) (disch := omega) only [go_sem, Nat.reduceAdd, Nat.reduceSub, Nat.reduceMul, Int.reduceToNat, Nat.reduceEqDiff, Nat.reduceBEq, Nat.reduceBneDiff]
      refine callk (cRightOf y (by omega)) ?_
      conv => simp (maxSteps := 2000000) (disch := omega) only [go_sem, Nat.reduceAdd, Nat.reduceSub, Nat.reduceMul, Int.reduceToNat, Nat.reduceEqDiff, Nat.reduceBEq, Nat.reduceBneDiff]
      refine callk (cTimes x.num y.num (by unfold okZ; omega) (by unfold okZ; omega)) ?_
      conv => simp (maxSteps := 2000000) (disch := omega) only [go_sem, Nat.reduceAdd, Nat.reduceSub, Nat.reduceMul, Int.reduceToNat, Nat.reduceEqDiff, Nat.reduceBEq, Nat.reduceBneDiff]
      refine callk (cTimesD x.den y.den x.den_nz y.den_nz (by omega) (by omega)) ?_
      conv => simp (maxSteps := 2000000) (disch := omega) only [go_sem, Nat.reduceAdd, Nat.reduceSub, Nat.reduceMul, Int.reduceToNat, Nat.reduceEqDiff, Nat.reduceBEq, Nat.reduceBneDiff]
      refine callk (cNewQ (x.num * y.num) (x.den * y.den) (by unfold okZ; omega) (Nat.mul_ne_zero x.den_nz y.den_nz) (by omega)) ?_
      conv => simp (maxSteps := 2000000) (disch := omega) only [go_sem, Nat.reduceAdd, Nat.reduceSub, Nat.reduceMul, Int.reduceToNat, Nat.reduceEqDiff, Nat.reduceBEq, Nat.reduceBneDiff]
      refine indk (by kernel_rfl) ?_
      conv => simp (maxSteps := 2000000) (disch := omega) only [go_sem, Nat.reduceAdd, Nat.reduceSub, Nat.reduceMul, Int.reduceToNat, Nat.reduceEqDiff, Nat.reduceBEq, Nat.reduceBneDiff]
      exact ⟨_, rfl, .tup (.cons (.refl _) (.cons (.refl _) .nil))⟩
    · rw [Fc.er_bad (fun h => h2 h.2), show Fc.mul a b = Fc.zero from Fc.op2_bad (fun h => h2 h.2)]
      obtain ⟨x, rfl⟩ := Fc.ok_ex h1
      refine CallsTo.run [] Go.Proofs.Try.func46 rfl rfl ?_; conv => simp (maxSteps := 2000000) (disch := omega) only [go_sem, Nat.reduceAdd, Nat.reduceSub, Nat.reduceMul, Int.reduceToNat, Nat.reduceEqDiff, Nat.reduceBEq, Nat.reduceBneDiff, Go.Proofs.Try.f46, List.replicate]
      refine callk (cRightOf x (by omega)) ?_
      conv => simp (maxSteps := 2000000) (disch := omega) only [go_sem, Nat.reduceAdd, Nat.reduceSub, Nat.reduceMul, Int.reduceToNat, Nat.reduceEqDiff, Nat.reduceBEq, Nat.reduceBneDiff]
      refine callk (cRightBad b (by omega) h2) ?_
      conv => simp (maxSteps := 2000000) (disch := omega) only [go_sem, Nat.reduceAdd, Nat.reduceSub, Nat.reduceMul, Int.reduceToNat, Nat.reduceEqDiff, Nat.reduceBEq, Nat.reduceBneDiff]
      exact ⟨_, rfl, .tup (.cons zeroLe (.cons (.refl _) .nil))⟩
  · rw [Fc.er_bad (fun h => h1 h.1), show Fc.mul a b = Fc.zero from Fc.op2_bad (fun h => h1 h.1)]
    refine CallsTo.run [] Go.Proofs.Try.func46 rfl rfl ?_; conv => simp (maxSteps := 2000000) (disch := omega) only [go_sem, Nat.reduceAdd, Nat.reduceSub, Nat.reduceMul, Int.reduceToNat, Nat.reduceEqDiff, Nat.reduceBEq, Nat.reduceBneDiff, Go.Proofs.Try.f46, List.replicate]
    refine callk (cRightBad a (by omega) h1) ?_
    conv => simp (maxSteps := 2000000) (disch := omega) only [go_sem, Nat.reduceAdd, Nat.reduceSub, Nat.reduceMul, Int.reduceToNat, Nat.reduceEqDiff, Nat.reduceBEq, Nat.reduceBneDiff]
    exact ⟨_, rfl, .tup (.cons zeroLe (.cons (.refl _) .nil))⟩
theorem cCmpF (a b : Fc) (ha : a.sz ≤ 67108864) (hb : b.sz ≤ 67108864) :
    CallsTo prog 14 [.agg a.C, .agg b.C] (.one (.raw (.int .i64 (Fc.cmp a b)))) := by
  by_cases h1 : a.ok
  · by_cases h2 : b.ok
    · obtain ⟨x, rfl⟩ := Fc.ok_ex h1
      obtain ⟨y, rfl⟩ := Fc.ok_ex h2
      have lx := szO ha
      have ly := szO hb
      have l1 := len_mul x.num y.den
      have l2 := len_mul y.num x.den
      rw [Int.natAbs_natCast] at l1 l2
      rw [Fc.cmp_of, ← Fc.ordQ_int]
      refine CallsTo.run [] Go.Proofs.Try.func14 rfl rfl ?_; conv => simp (maxSteps := 2000000) (disch := omega) only [go_sem, Nat.reduceAdd, Nat.reduceSub, Nat.reduceMul, Int.reduceToNat, Nat.reduceEqDiff, Nat.reduceBEq, Nat.reduceBneDiff, Go.Proofs.Try.f14, List.replicate]
      refine callk (cRightOf x (by omega)) ?_
      conv => simp (maxSteps := 2000000) (disch := omega) only [go_sem, Nat.reduceAdd, Nat.reduceSub, Nat.reduceMul, Int.reduceToNat, Nat.reduceEqDiff, Nat.reduceBEq, Nat.reduceBneDiff]
      refine callk (cRightOf y (by omega)) ?_
      conv => simp (maxSteps := 2000000) (disch := omega) only [go_sem, Nat.reduceAdd, Nat.reduceSub, Nat.reduceMul, Int.reduceToNat, Nat.reduceEqDiff, Nat.reduceBEq, Nat.reduceBneDiff]
      refine callk (cTimesQ x.num y.den (by unfold okZ; omega) y.den_nz (by omega)) ?_
      conv => simp (maxSteps := 2000000) (disch := omega) only [go_sem, Nat.reduceAdd, Nat.reduceSub, Nat.reduceMul, Int.reduceToNat, Nat.reduceEqDiff, Nat.reduceBEq, Nat.reduceBneDiff]
      refine callk (cTimesQ y.num x.den (by unfold okZ; omega) x.den_nz (by omega)) ?_
      conv => simp (maxSteps := 2000000) (disch := omega) only [go_sem, Nat.reduceAdd, Nat.reduceSub, Nat.reduceMul, Int.reduceToNat, Nat.reduceEqDiff, Nat.reduceBEq, Nat.reduceBneDiff]
      refine callk (cCompareZ (x.num * y.den) (y.num * x.den) (by unfold okZ; omega) (by unfold okZ; omega)) ?_
      conv => simp (maxSteps := 2000000) (disch := omega) only [go_sem, Nat.reduceAdd, Nat.reduceSub, Nat.reduceMul, Int.reduceToNat, Nat.reduceEqDiff, Nat.reduceBEq, Nat.reduceBneDiff]
      refine indk (by kernel_rfl) ?_
      conv => simp (maxSteps := 2000000) (disch := omega) only [go_sem, Nat.reduceAdd, Nat.reduceSub, Nat.reduceMul, Int.reduceToNat, Nat.reduceEqDiff, Nat.reduceBEq, Nat.reduceBneDiff]
      exact ⟨_, rfl, .one (.refl _)⟩
    · rw [show Fc.cmp a b = 0 from if_neg (fun h => h2 h.2)]
      obtain ⟨x, rfl⟩ := Fc.ok_ex h1
      refine CallsTo.run [] Go.Proofs.Try.func14 rfl rfl ?_; conv => simp (maxSteps := 2000000) (disch := omega) only [go_sem, Nat.reduceAdd, Nat.reduceSub, Nat.reduceMul, Int.reduceToNat, Nat.reduceEqDiff, Nat.reduceBEq, Nat.reduceBneDiff, Go.Proofs.Try.f14, List.replicate]
      refine callk (cRightOf x (by omega)) ?_
      conv => simp (maxSteps := 2000000) (disch := omega) only [go_sem, Nat.reduceAdd, Nat.reduceSub, Nat.reduceMul, Int.reduceToNat, Nat.reduceEqDiff, Nat.reduceBEq, Nat.reduceBneDiff]
      refine callk (cRightBad b (by omega) h2) ?_
      conv => simp (maxSteps := 2000000) (disch := omega) only [go_sem, Nat.reduceAdd, Nat.reduceSub, Nat.reduceMul, Int.reduceToNat, Nat.reduceEqDiff, Nat.reduceBEq, Nat.reduceBneDiff]
      exact ⟨_, rfl, .one (.refl _)⟩
  · rw [show Fc.cmp a b = 0 from if_neg (fun h => h1 h.1)]
    refine CallsTo.run [] Go.Proofs.Try.func14 rfl rfl ?_; conv => simp (maxSteps := 2000000) (disch := omega) only [go_sem, Nat.reduceAdd, Nat.reduceSub, Nat.reduceMul, Int.reduceToNat, Nat.reduceEqDiff, Nat.reduceBEq, Nat.reduceBneDiff, Go.Proofs.Try.f14, List.replicate]
    refine callk (cRightBad a (by omega) h1) ?_
    conv => simp (maxSteps := 2000000) (disch := omega) only [go_sem, Nat.reduceAdd, Nat.reduceSub, Nat.reduceMul, Int.reduceToNat, Nat.reduceEqDiff, Nat.reduceBEq, Nat.reduceBneDiff]
    exact ⟨_, rfl, .one (.refl _)⟩
theorem cSlim (x : Int) (hx : okZ x) : CallsTo prog 53 [.agg [.raw (.int .i64 (sg x)), .ints .i64 (dig x.natAbs)]] (.agg [.raw (.int .i64 (sg x)), .ints .i64 (dig x.natAbs)]) := by
  have hx' : okZ (-x) := by unfold okZ; rw [Int.natAbs_neg]; exact hx
  have h2 := cNegZ (-x) hx'
  rw [Int.neg_neg] at h2
  refine CallsTo.run [] Go.Proofs.Try.func53 rfl rfl ?_; conv => simp (maxSteps := 2000000) (disch := omega) only [go_sem, Nat.reduceAdd, Nat.reduceSub, Nat.reduceMul, Int.reduceToNat, Nat.reduceEqDiff, Nat.reduceBEq, Nat.reduceBneDiff, Go.Proofs.Try.f53, List.replicate]
  refine callk (cNegZ x hx) ?_
  conv => simp (maxSteps := 2000000) (disch := omega) only [go_sem, Nat.reduceAdd, Nat.reduceSub, Nat.reduceMul, Int.reduceToNat, Nat.reduceEqDiff, Nat.reduceBEq, Nat.reduceBneDiff]
  refine callk h2 ?_
  conv => simp (maxSteps := 2000000) (disch := omega) only [go_sem, Nat.reduceAdd, Nat.reduceSub, Nat.reduceMul, Int.reduceToNat, Nat.reduceEqDiff, Nat.reduceBEq, Nat.reduceBneDiff]
  exact ⟨_, rfl, .one (.refl _)⟩
theorem cSlimD (d : Nat) (hd : d ≠ 0) (hl : (dig d).length ≤ 268435456) : CallsTo prog 53 [.agg [.raw (.int .i64 1), .ints .i64 (dig d)]] (.agg [.raw (.int .i64 1), .ints .i64 (dig d)]) := by
  have := cSlim (d : Int) hl
  rw [sg_nat hd] at this
  exact this
theorem zero1Le : RLe (.agg [.raw (.int .i64 0), .zc, .raw (.int .i64 0), .zc]) (.agg Fc.zero.C) := .one zeroLe
theorem cNegF (a : Fc) (ha : a.sz ≤ 67108864) : CallsTo prog 17 [.agg a.C] (.agg (Fc.neg a).C) := by
  by_cases h1 : a.ok
  · obtain ⟨x, rfl⟩ := Fc.ok_ex h1
    have lx := szO ha
    rw [Fc.neg_of]
    refine CallsTo.run [] Go.Proofs.Try.func17 rfl rfl ?_; conv => simp (maxSteps := 2000000) (disch := omega) only [go_sem, Nat.reduceAdd, Nat.reduceSub, Nat.reduceMul, Int.reduceToNat, Nat.reduceEqDiff, Nat.reduceBEq, Nat.reduceBneDiff, Go.Proofs.Try.f17, List.replicate]
    refine callk (cRightOf x (by omega)) ?_
    conv => simp (maxSteps := 2000000) (disch := omega) only [go_sem, Nat.reduceAdd, Nat.reduceSub, Nat.reduceMul, Int.reduceToNat, Nat.reduceEqDiff, Nat.reduceBEq, Nat.reduceBneDiff]
    refine callk (cNegZ x.num (by unfold okZ; omega)) ?_
    conv => simp (maxSteps := 2000000) (disch := omega) only [go_sem, Nat.reduceAdd, Nat.reduceSub, Nat.reduceMul, Int.reduceToNat, Nat.reduceEqDiff, Nat.reduceBEq, Nat.reduceBneDiff]
    refine callk (cSlimD x.den x.den_nz (by omega)) ?_
    conv => simp (maxSteps := 2000000) (disch := omega) only [go_sem, Nat.reduceAdd, Nat.reduceSub, Nat.reduceMul, Int.reduceToNat, Nat.reduceEqDiff, Nat.reduceBEq, Nat.reduceBneDiff]
    refine indk (by kernel_rfl) ?_
    conv => simp (maxSteps := 2000000) (disch := omega) only [go_sem, Nat.reduceAdd, Nat.reduceSub, Nat.reduceMul, Int.reduceToNat, Nat.reduceEqDiff, Nat.reduceBEq, Nat.reduceBneDiff]
    exact ⟨_, rfl, .one (.refl _)⟩
  · rw [show Fc.neg a = Fc.zero from if_neg h1]
    refine CallsTo.run [] Go.Proofs.Try.func17 rfl rfl ?_; conv => simp (maxSteps := 2000000) (disch := omega) only [go_sem, Nat.reduceAdd, Nat.reduceSub, Nat.reduceMul, Int.reduceToNat, Nat.reduceEqDiff, Nat.reduceBEq, Nat.reduceBneDiff, Go.Proofs.Try.f17, List.replicate]
    refine callk (cRightBad a (by omega) h1) ?_
    conv => simp (maxSteps := 2000000) (disch := omega) only [go_sem, Nat.reduceAdd, Nat.reduceSub, Nat.reduceMul, Int.reduceToNat, Nat.reduceEqDiff, Nat.reduceBEq, Nat.reduceBneDiff]
    exact ⟨_, rfl, zero1Le⟩
theorem cSignF (a : Fc) (ha : a.sz ≤ 67108864) : CallsTo prog 23 [.agg a.C] (.one (.raw (.int .i64 (Fc.sign a)))) := by
  by_cases h1 : a.ok
  · obtain ⟨x, rfl⟩ := Fc.ok_ex h1
    rw [Fc.sign_of]
    refine CallsTo.run [] Go.Proofs.Try.func23 rfl rfl ?_; conv => simp (maxSteps := 2000000) (disch := omega) only [go_sem, Nat.reduceAdd, Nat.reduceSub, Nat.reduceMul, Int.reduceToNat, Nat.reduceEqDiff, Nat.reduceBEq, Nat.reduceBneDiff, Go.Proofs.Try.f23, List.replicate]
    refine callk (cRightOf x (by omega)) ?_
    conv => simp (maxSteps := 2000000) (disch := omega) only [go_sem, Nat.reduceAdd, Nat.reduceSub, Nat.reduceMul, Int.reduceToNat, Nat.reduceEqDiff, Nat.reduceBEq, Nat.reduceBneDiff]
    exact ⟨_, rfl, .one (.refl _)⟩
  · rw [show Fc.sign a = 0 from if_neg h1]
    refine CallsTo.run [] Go.Proofs.Try.func23 rfl rfl ?_; conv => simp (maxSteps := 2000000) (disch := omega) only [go_sem, Nat.reduceAdd, Nat.reduceSub, Nat.reduceMul, Int.reduceToNat, Nat.reduceEqDiff, Nat.reduceBEq, Nat.reduceBneDiff, Go.Proofs.Try.f23, List.replicate]
    refine callk (cRightBad a (by omega) h1) ?_
    conv => simp (maxSteps := 2000000) (disch := omega) only [go_sem, Nat.reduceAdd, Nat.reduceSub, Nat.reduceMul, Int.reduceToNat, Nat.reduceEqDiff, Nat.reduceBEq, Nat.reduceBneDiff]
    exact ⟨_, rfl, .one (.refl _)⟩
theorem cEitherOf (x y : Rat) (s : Int) (hs : -1 ≤ s ∧ s ≤ 1) (ha : (Fc.of x).sz ≤ 67108864) (hb : (Fc.of y).sz ≤ 67108864) :
    CallsTo prog 50 [.agg (Fc.of x).C, .agg (Fc.of y).C, .one (.raw (.int .i64 s))] (.tup [.agg (Fc.of (if Fc.ordQ x y * s < 0 then y else x)).C, .one (.raw (.int .i64 0))]) := by
  have lx := szO ha
  have ly := szO hb
  have hc := cCmpF (Fc.of x) (Fc.of y) ha hb
  rw [Fc.cmp_of] at hc
  have hr : -1 ≤ Fc.ordQ x y * s ∧ Fc.ordQ x y * s ≤ 1 := by
    rcases Fc.ordQ_cases x y with ⟨_, e⟩ | ⟨_, e⟩ | ⟨_, e⟩ <;> rw [e] <;> omega
  refine CallsTo.run [] Go.Proofs.Try.func50 rfl rfl ?_; conv => simp (maxSteps := 2000000) (disch := omega) only [go_sem, Nat.reduceAdd, Nat.reduceSub, Nat.reduceMul, Int.reduceToNat, Nat.reduceEqDiff, Nat.reduceBEq, Nat.reduceBneDiff, Go.Proofs.Try.f50, List.replicate]
  refine callk (cRightOf x (by omega)) ?_
  conv => simp (maxSteps := 2000000) (disch := omega) only [go_sem, Nat.reduceAdd, Nat.reduceSub, Nat.reduceMul, Int.reduceToNat, Nat.reduceEqDiff, Nat.reduceBEq, Nat.reduceBneDiff]
  refine callk (cRightOf y (by omega)) ?_
  conv => simp (maxSteps := 2000000) (disch := omega) only [go_sem, Nat.reduceAdd, Nat.reduceSub, Nat.reduceMul, Int.reduceToNat, Nat.reduceEqDiff, Nat.reduceBEq, Nat.reduceBneDiff]
  refine callk hc ?_
  conv => simp (maxSteps := 2000000) (disch := omega) only [go_sem, Nat.reduceAdd, Nat.reduceSub, Nat.reduceMul, Int.reduceToNat, Nat.reduceEqDiff, Nat.reduceBEq, Nat.reduceBneDiff]
  refine condd (fun h => ?_) (fun h => ?_)
  · rw [if_pos h]
    conv => simp (maxSteps := 2000000) (disch := omega) only [go_sem, Nat.reduceAdd, Nat.reduceSub, Nat.reduceMul, Int.reduceToNat, Nat.reduceEqDiff, Nat.reduceBEq, Nat.reduceBneDiff]
    refine callk (cSlim y.num (by unfold okZ; omega)) ?_
    conv => simp (maxSteps := 2000000) (disch := omega) only [go_sem, Nat.reduceAdd, Nat.reduceSub, Nat.reduceMul, Int.reduceToNat, Nat.reduceEqDiff, Nat.reduceBEq, Nat.reduceBneDiff]
    refine callk (cSlimD y.den y.den_nz (by omega)) ?_
    conv => simp (maxSteps := 2000000) (disch := omega) only [go_sem, Nat.reduceAdd, Nat.reduceSub, Nat.reduceMul, Int.reduceToNat, Nat.reduceEqDiff, Nat.reduceBEq, Nat.reduceBneDiff]
    refine indk (by kernel_rfl) ?_
    conv => simp (maxSteps := 2000000) (disch := omega) only [go_sem, Nat.reduceAdd, Nat.reduceSub, Nat.reduceMul, Int.reduceToNat, Nat.reduceEqDiff, Nat.reduceBEq, Nat.reduceBneDiff]
    exact ⟨_, rfl, .tup (.cons (.refl _) (.cons (.refl _) .nil))⟩
  · rw [if_neg h]
    conv => simp (maxSteps := 2000000) (disch := omega) only [go_sem, Nat.reduceAdd, Nat.reduceSub, Nat.reduceMul, Int.reduceToNat, Nat.reduceEqDiff, Nat.reduceBEq, Nat.reduceBneDiff]
    refine callk (cSlim x.num (by unfold okZ; omega)) ?_
    conv => simp (maxSteps := 2000000) (disch := omega) only [go_sem, Nat.reduceAdd, Nat.reduceSub, Nat.reduceMul, Int.reduceToNat, Nat.reduceEqDiff, Nat.reduceBEq, Nat.reduceBneDiff]
    refine callk (cSlimD x.den x.den_nz (by omega)) ?_
    conv => simp (maxSteps := 2000000) (disch := omega) only [go_sem, Nat.reduceAdd, Nat.reduceSub, Nat.reduceMul, Int.reduceToNat, Nat.reduceEqDiff, Nat.reduceBEq, Nat.reduceBneDiff]
    refine indk (by kernel_rfl) ?_
    conv => simp (maxSteps := 2000000) (disch := omega) only [go_sem, Nat.reduceAdd, Nat.reduceSub, Nat.reduceMul, Int.reduceToNat, Nat.reduceEqDiff, Nat.reduceBEq, Nat.reduceBneDiff]
    exact ⟨_, rfl, .tup (.cons (.refl _) (.cons (.refl _) .nil))⟩
theorem cEitherBad (a b : Fc) (s : Int) (h : ¬ (a.ok ∧ b.ok)) (ha : a.sz ≤ 67108864) (hb : b.sz ≤ 67108864) :
    CallsTo prog 50 [.agg a.C, .agg b.C, .one (.raw (.int .i64 s))] (.tup [.agg Fc.zero.C, .one (.raw (.int .i64 1))]) := by
  by_cases h1 : a.ok
  · have h2 : ¬ b.ok := fun h2 => h ⟨h1, h2⟩
    obtain ⟨x, rfl⟩ := Fc.ok_ex h1
    refine CallsTo.run [] Go.Proofs.Try.func50 rfl rfl ?_; conv => simp (maxSteps := 2000000) (disch := omega) only [go_sem, Nat.reduceAdd, Nat.reduceSub, Nat.reduceMul, Int.reduceToNat, Nat.reduceEqDiff, Nat.reduceBEq, Nat.reduceBneDiff, Go.Proofs.Try.f50, List.replicate]
    refine callk (cRightOf x (by omega)) ?_
    conv => simp (maxSteps := 2000000) (disch := omega) only [go_sem, Nat.reduceAdd, Nat.reduceSub, Nat.reduceMul, Int.reduceToNat, Nat.reduceEqDiff, Nat.reduceBEq, Nat.reduceBneDiff]
    refine callk (cRightBad b (by omega) h2) ?_
    conv => simp (maxSteps := 2000000) (disch := omega) only [go_sem, Nat.reduceAdd, Nat.reduceSub, Nat.reduceMul, Int.reduceToNat, Nat.reduceEqDiff, Nat.reduceBEq, Nat.reduceBneDiff]
    exact ⟨_, rfl, .tup (.cons zeroLe (.cons (.refl _) .nil))⟩
  · refine CallsTo.run [] Go.Proofs.Try.func50 rfl rfl ?_; conv => simp (maxSteps := 2000000) (disch := omega) only [go_sem, Nat.reduceAdd, Nat.reduceSub, Nat.reduceMul, Int.reduceToNat, Nat.reduceEqDiff, Nat.reduceBEq, Nat.reduceBneDiff, Go.Proofs.Try.f50, List.replicate]
    refine callk (cRightBad a (by omega) h1) ?_
    conv => simp (maxSteps := 2000000) (disch := omega) only [go_sem, Nat.reduceAdd, Nat.reduceSub, Nat.reduceMul, Int.reduceToNat, Nat.reduceEqDiff, Nat.reduceBEq, Nat.reduceBneDiff]
    exact ⟨_, rfl, .tup (.cons zeroLe (.cons (.refl _) .nil))⟩
theorem cMaxF (a b : Fc) (ha : a.sz ≤ 67108864) (hb : b.sz ≤ 67108864) :
    CallsTo prog 15 [.agg a.C, .agg b.C] (.tup [.agg (Fc.maxf a b).C, .one (.raw (.int .i64 (Fc.er (a.ok ∧ b.ok))))]) := by
  by_cases h : a.ok ∧ b.ok
  · rw [Fc.er_of h]
    obtain ⟨x, rfl⟩ := Fc.ok_ex h.1
    obtain ⟨y, rfl⟩ := Fc.ok_ex h.2
    have hE := cEitherOf x y 1 (by decide) ha hb
    have e : (if Fc.ordQ x y * 1 < 0 then y else x) = max x y := by
      rw [Rat.max_def]
      rcases Fc.ordQ_cases x y with ⟨h, e⟩ | ⟨h, e⟩ | ⟨h, e⟩ <;> rw [e]
      · rw [if_pos (by decide), if_pos (Rat.le_of_lt h)]
      · rw [if_neg (by decide), if_pos (by rw [h]; exact Rat.le_refl), h]
      · rw [if_neg (by decide), if_neg (fun h' => Rat.not_le.2 h h')]
    rw [e] at hE
    rw [Fc.maxf_of]
    refine CallsTo.run [] Go.Proofs.Try.func15 rfl rfl ?_; conv => simp (maxSteps := 2000000) (disch := omega) only [go_sem, Nat.reduceAdd, Nat.reduceSub, Nat.reduceMul, Int.reduceToNat, Nat.reduceEqDiff, Nat.reduceBEq, Nat.reduceBneDiff, Go.Proofs.Try.f15, List.replicate]
    refine callk hE ?_
    conv => simp (maxSteps := 2000000) (disch := omega) only [go_sem, Nat.reduceAdd, Nat.reduceSub, Nat.reduceMul, Int.reduceToNat, Nat.reduceEqDiff, Nat.reduceBEq, Nat.reduceBneDiff]
    exact ⟨_, rfl, .tup (.cons (.refl _) (.cons (.refl _) .nil))⟩
  · rw [Fc.er_bad h, show Fc.maxf a b = Fc.zero from Fc.op2_bad h]
    have hE := cEitherBad a b 1 h ha hb
    refine CallsTo.run [] Go.Proofs.Try.func15 rfl rfl ?_; conv => simp (maxSteps := 2000000) (disch := omega) only [go_sem, Nat.reduceAdd, Nat.reduceSub, Nat.reduceMul, Int.reduceToNat, Nat.reduceEqDiff, Nat.reduceBEq, Nat.reduceBneDiff, Go.Proofs.Try.f15, List.replicate]
    refine callk hE ?_
    conv => simp (maxSteps := 2000000) (disch := omega) only [go_sem, Nat.reduceAdd, Nat.reduceSub, Nat.reduceMul, Int.reduceToNat, Nat.reduceEqDiff, Nat.reduceBEq, Nat.reduceBneDiff]
    exact ⟨_, rfl, .tup (.cons (.refl _) (.cons (.refl _) .nil))⟩
instance : DecidableEq Fc := fun a b => decidable_of_iff (a.s = b.s ∧ a.L = b.L ∧ a.t = b.t ∧ a.M = b.M) ⟨fun h => by cases a; cases b; simp at h; simp [h], fun h => by rw [h]; exact ⟨rfl, rfl, rfl, rfl⟩⟩
theorem cSameF (a b : Fc) (ha : a.sz ≤ 67108864) (hb : b.sz ≤ 67108864) : CallsTo prog 45 [.agg a.C, .agg b.C] (.one (.raw (.bool (decide (a = b))))) := by
  have la := szL ha
  have lb := szL hb
  obtain ⟨r, hr⟩ : ∃ r, r = decide (a = b) := ⟨_, rfl⟩
  rw [← hr]
  by_cases h : a.s = b.s ∧ a.L = b.L
  · have h1 := cSame a.s a.L b.s b.L (by omega) (by omega)
    rw [decide_eq_true h] at h1
    have h2 := cSame a.t a.M b.t b.M (by omega) (by omega)
    have e : decide (a.t = b.t ∧ a.M = b.M) = r := by
      rw [hr]
      apply decide_eq_decide.2
      constructor
      · intro h'; cases a; cases b; simp at h h'; simp [h, h']
      · intro h'; rw [h']; exact ⟨rfl, rfl⟩
    rw [e] at h2
    refine CallsTo.run [] Go.Proofs.Try.func45 rfl rfl ?_; conv => simp (maxSteps := 2000000) (disch := omega) only [go_sem, Nat.reduceAdd, Nat.reduceSub, Nat.reduceMul, Int.reduceToNat, Nat.reduceEqDiff, Nat.reduceBEq, Nat.reduceBneDiff, Go.Proofs.Try.f45, List.replicate]
    refine callk h1 ?_
    conv => simp (maxSteps := 2000000) (disch := omega) only [go_sem, Nat.reduceAdd, Nat.reduceSub, Nat.reduceMul, Int.reduceToNat, Nat.reduceEqDiff, Nat.reduceBEq, Nat.reduceBneDiff]
    refine callk h2 ?_
    conv => simp (maxSteps := 2000000) (disch := omega) only [go_sem, Nat.reduceAdd, Nat.reduceSub, Nat.reduceMul, Int.reduceToNat, Nat.reduceEqDiff, Nat.reduceBEq, Nat.reduceBneDiff]
    exact ⟨_, rfl, .one (.refl _)⟩
  · have h1 := cSame a.s a.L b.s b.L (by omega) (by omega)
    rw [decide_eq_false h] at h1
    have e : r = false := by rw [hr, decide_eq_false (fun e => h (by rw [e]; exact ⟨rfl, rfl⟩))]
    subst e
    refine CallsTo.run [] Go.Proofs.Try.func45 rfl rfl ?_; conv => simp (maxSteps := 2000000) (disch := omega) only [go_sem, Nat.reduceAdd, Nat.reduceSub, Nat.reduceMul, Int.reduceToNat, Nat.reduceEqDiff, Nat.reduceBEq, Nat.reduceBneDiff, Go.Proofs.Try.f45, List.replicate]
    refine callk h1 ?_
    conv => simp (maxSteps := 2000000) (disch := omega) only [go_sem, Nat.reduceAdd, Nat.reduceSub, Nat.reduceMul, Int.reduceToNat, Nat.reduceEqDiff, Nat.reduceBEq, Nat.reduceBneDiff]
    exact ⟨_, rfl, .one (.refl _)⟩
theorem cIntF (n : Int) (hn : inI n) : CallsTo prog 54 [.one (.raw (.int .i64 n))] (.agg (Fc.of (n : Rat)).C) := by
  have h1 := cOf 1 (by decide)
  rw [show sg 1 = 1 from rfl] at h1
  refine CallsTo.run [] Go.Proofs.Try.func54 rfl rfl ?_; conv => simp (maxSteps := 2000000) (disch := omega) only [go_sem, Nat.reduceAdd, Nat.reduceSub, Nat.reduceMul, Int.reduceToNat, Nat.reduceEqDiff, Nat.reduceBEq, Nat.reduceBneDiff, Go.Proofs.Try.f54, List.replicate]
  refine callk (cOf n hn) ?_
  conv => simp (maxSteps := 2000000) (disch := omega) only [go_sem, Nat.reduceAdd, Nat.reduceSub, Nat.reduceMul, Int.reduceToNat, Nat.reduceEqDiff, Nat.reduceBEq, Nat.reduceBneDiff]
  refine callk h1 ?_
  conv => simp (maxSteps := 2000000) (disch := omega) only [go_sem, Nat.reduceAdd, Nat.reduceSub, Nat.reduceMul, Int.reduceToNat, Nat.reduceEqDiff, Nat.reduceBEq, Nat.reduceBneDiff]
  exact ⟨_, rfl, .one (.refl _)⟩
end Go.Slot.T

/- Plain laws: spans and lists of fractions as data. -/
namespace Go.Slot
open Go Go.RowKit Go.Slot.T
/-- a span as it lies in memory -/
structure Sc where
  low : Fc
  high : Fc
namespace Sc
def C (s : Sc) : List Cell := [.raw (.int .i64 s.low.s), .ints .i64 s.low.L, .raw (.int .i64 s.low.t), .ints .i64 s.low.M, .raw (.int .i64 s.high.s), .ints .i64 s.high.L, .raw (.int .i64 s.high.t), .ints .i64 s.high.M]
theorem C_eq {s : Sc} : s.C = [.raw (.int .i64 s.low.s), .ints .i64 s.low.L, .raw (.int .i64 s.low.t), .ints .i64 s.low.M, .raw (.int .i64 s.high.s), .ints .i64 s.high.L, .raw (.int .i64 s.high.t), .ints .i64 s.high.M] := _root_.id rfl
def ok (s : Sc) : Prop := s.low.ok ∧ s.high.ok ∧ Fc.cmp s.low s.high ≤ 0
instance (s : Sc) : Decidable s.ok := inferInstanceAs (Decidable (_ ∧ _))
def zero : Sc := ⟨Fc.zero, Fc.zero⟩
theorem zero_low : zero.low = Fc.zero := _root_.id rfl
theorem zero_high : zero.high = Fc.zero := _root_.id rfl
theorem mk_low {a b : Fc} : (Sc.mk a b).low = a := _root_.id rfl
theorem mk_high {a b : Fc} : (Sc.mk a b).high = b := _root_.id rfl
def sz (s : Sc) : Nat := max s.low.sz s.high.sz
instance : DecidableEq Sc := fun a b => decidable_of_iff (a.low = b.low ∧ a.high = b.high) ⟨fun h => by cases a; cases b; simp at h; simp [h], fun h => by rw [h]; exact ⟨rfl, rfl⟩⟩
def has (s : Sc) (f : Fc) : Prop := s.ok ∧ f.ok ∧ Fc.cmp s.low f ≤ 0 ∧ Fc.cmp f s.high ≤ 0
instance (s : Sc) (f : Fc) : Decidable (s.has f) := inferInstanceAs (Decidable (_ ∧ _))
def inside (a b : Sc) : Prop := a.ok ∧ b.ok ∧ Fc.cmp b.low a.low ≤ 0 ∧ Fc.cmp a.high b.high ≤ 0
instance (a b : Sc) : Decidable (a.inside b) := inferInstanceAs (Decidable (_ ∧ _))
def width (s : Sc) : Fc := if s.ok then Fc.sub s.high s.low else Fc.zero
def add (a b : Sc) : Sc := if a.ok ∧ b.ok then ⟨Fc.add a.low b.low, Fc.add a.high b.high⟩ else zero
def point (f : Fc) : Sc := if f.ok then ⟨f, f⟩ else zero
/-- the first least one, the first greatest one -/
def least : Fc → List Fc → Fc
  | m, [] => m
  | m, x :: r => least (if Fc.cmp x m < 0 then x else m) r
def great : Fc → List Fc → Fc
  | m, [] => m
  | m, x :: r => great (if Fc.cmp x m > 0 then x else m) r
def around (l : List Fc) : Sc := ⟨least (l.getD 0 Fc.zero) (l.drop 1), great (l.getD 0 Fc.zero) (l.drop 1)⟩
def mul (a b : Sc) : Sc := if a.ok ∧ b.ok then around [Fc.mul a.low b.low, Fc.mul a.low b.high, Fc.mul a.high b.low, Fc.mul a.high b.high] else zero
theorem low_sz {s : Sc} {n : Nat} (h : s.sz ≤ n) : s.low.sz ≤ n ∧ s.high.sz ≤ n := by unfold sz at h; omega
end Sc
theorem rowF {l : List Fc} {i : Nat} (h : i < l.length) : (l.map Fc.C).getD i [] = (l.getD i Fc.zero).C := by
  simp [h]
theorem rowS {l : List Sc} {i : Nat} (h : i < l.length) : (l.map Sc.C).getD i [] = (l.getD i Sc.zero).C := by
  simp [h]
theorem mapF_length {l : List Fc} : (l.map Fc.C).length = l.length := by simp
theorem mapS_length {l : List Sc} : (l.map Sc.C).length = l.length := by simp
attribute [go_sem] Sc.C_eq rowF rowS mapF_length mapS_length Sc.zero_low Sc.zero_high Sc.mk_low Sc.mk_high
/-- the first place of an element that p holds of, from i on -/
def idxF {α : Type} (p : α → Bool) : List α → Int → Int
  | [], _ => -1
  | f :: r, i => if p f = true then i else idxF p r (i + 1)
theorem idxF_any {α : Type} (p : α → Bool) : ∀ (l : List α) (i : Int), 0 ≤ i → decide (0 ≤ idxF p l i) = l.any p
  | [], i, _ => by simp [idxF]
  | f :: r, i, h => by
    unfold idxF
    by_cases hp : p f = true
    · rw [if_pos hp, List.any_cons, hp, decide_eq_true h]; rfl
    · have hp' : p f = false := by simpa using hp
      rw [if_neg hp, idxF_any p r (i + 1) (by omega), List.any_cons, hp', Bool.false_or]
theorem drop_cons {α : Type} {l : List α} {i : Nat} (d : α) (h : i < l.length) : l.drop i = l.getD i d :: l.drop (i + 1) := by
  rw [List.drop_eq_getElem_cons h]; simp [h]
end Go.Slot

/- Plain laws: affine functions as data. -/
namespace Go.Slot
open Go Go.RowKit Go.Slot.T
/-- an affine function as it lies in memory -/
structure Af where
  c : Fc
  l : List Fc
def oks (l : List Fc) : Prop := ∀ f ∈ l, f.ok
instance (l : List Fc) : Decidable (oks l) := inferInstanceAs (Decidable (∀ f ∈ l, f.ok))
theorem oks_cons {f : Fc} {l : List Fc} : oks (f :: l) ↔ f.ok ∧ oks l := ⟨fun h => ⟨h f (by simp), fun g hg => h g (by simp [hg])⟩, fun h g hg => by
  rcases List.mem_cons.1 hg with rfl | hg
  · exact h.1
  · exact h.2 g hg⟩
theorem oks_any : ∀ (l : List Fc), (l.any fun f => !decide f.ok) = !decide (oks l)
  | [] => by simp [oks]
  | f :: l => by
    rw [List.any_cons, oks_any l, decide_eq_decide.2 oks_cons, Bool.decide_and, Bool.not_and]
namespace Af
def C (a : Af) : List Cell := [.raw (.int .i64 a.c.s), .ints .i64 a.c.L, .raw (.int .i64 a.c.t), .ints .i64 a.c.M, .sl 4 (a.l.map Fc.C)]
theorem C_eq {a : Af} : a.C = [.raw (.int .i64 a.c.s), .ints .i64 a.c.L, .raw (.int .i64 a.c.t), .ints .i64 a.c.M, .sl 4 (a.l.map Fc.C)] := _root_.id rfl
theorem mk_c {c : Fc} {l : List Fc} : (Af.mk c l).c = c := _root_.id rfl
theorem mk_l {c : Fc} {l : List Fc} : (Af.mk c l).l = l := _root_.id rfl
def ok (a : Af) (n : Nat) : Prop := a.l.length = n ∧ a.c.ok ∧ oks a.l
instance (a : Af) (n : Nat) : Decidable (a.ok n) := inferInstanceAs (Decidable (_ ∧ _))
def zero : Af := ⟨Fc.zero, []⟩
/-- no part is greater than so much -/
def le (a : Af) (n : Nat) : Prop := a.c.sz ≤ n ∧ ∀ f ∈ a.l, f.sz ≤ n
def sum : Fc → List Fc → List Fc → Fc
  | s, c :: cs, v :: vs => sum (Fc.add s (Fc.mul c v)) cs vs
  | s, _, _ => s
/-- a copy -/
def copy (f : Fc) : Fc := Fc.add f (Fc.of 0)
def at' (a : Af) (v : List Fc) : Fc := if a.ok v.length ∧ oks v then sum (copy a.c) a.l v else Fc.zero
def each (op : Fc → Fc → Fc) (a b : Af) : Af := ⟨op a.c b.c, List.zipWith op a.l b.l⟩
def plus (a b : Af) : Af := if a.ok a.l.length ∧ b.ok a.l.length then each Fc.add a b else zero
def times (a : Af) (f : Fc) : Af := if a.ok a.l.length ∧ f.ok then each (fun x _ => Fc.mul x f) a a else zero
end Af
attribute [go_sem] Af.C_eq Af.mk_c Af.mk_l
end Go.Slot

/- The joint, third part: fractions, spans, functions out of readings. -/
namespace Go.Slot
open Go Go.RowKit
def spF : List Sp := [.int .i64, .ints .i64, .int .i64, .ints .i64]
def spS : List Sp := [.int .i64, .ints .i64, .int .i64, .ints .i64, .int .i64, .ints .i64, .int .i64, .ints .i64]
def spA : List Sp := [.int .i64, .ints .i64, .int .i64, .ints .i64, .sl spF]
theorem fit_int {N : Nat} {k : IntKind} {c : Cell} (h : Fit N (.int k) c) : ∃ n, c = .raw (.int k n) ∧ k.min ≤ n ∧ n ≤ k.max := by
  cases h with
  | int h => exact ⟨_, rfl, h⟩
theorem fit_ints {N : Nat} {k : IntKind} {c : Cell} (h : Fit N (.ints k) c) : ∃ L, c = .ints k L ∧ L.length ≤ N := by
  cases h with
  | ints hl h => exact ⟨_, rfl, hl⟩
theorem fitF {N : Nat} {cs : List Cell} (h : FitL N spF cs) : ∃ f : Fc, cs = f.C ∧ f.sz ≤ N := by
  obtain ⟨c1, r1, rfl, h1, h⟩ := h.cons
  obtain ⟨c2, r2, rfl, h2, h⟩ := h.cons
  obtain ⟨c3, r3, rfl, h3, h⟩ := h.cons
  obtain ⟨c4, r4, rfl, h4, h⟩ := h.cons
  obtain rfl := h.nil
  obtain ⟨s, rfl, _⟩ := fit_int h1
  obtain ⟨L, rfl, l1⟩ := fit_ints h2
  obtain ⟨t, rfl, _⟩ := fit_int h3
  obtain ⟨M, rfl, l2⟩ := fit_ints h4
  exact ⟨⟨s, L, t, M⟩, rfl, by show max _ _ ≤ _; dsimp only; omega⟩
theorem fitS {N : Nat} {cs : List Cell} (h : FitL N spS cs) : ∃ s : Sc, cs = s.C ∧ s.sz ≤ N := by
  obtain ⟨c1, r1, rfl, h1, h⟩ := h.cons
  obtain ⟨c2, r2, rfl, h2, h⟩ := h.cons
  obtain ⟨c3, r3, rfl, h3, h⟩ := h.cons
  obtain ⟨c4, r4, rfl, h4, h⟩ := h.cons
  obtain ⟨c5, r5, rfl, h5, h⟩ := h.cons
  obtain ⟨c6, r6, rfl, h6, h⟩ := h.cons
  obtain ⟨c7, r7, rfl, h7, h⟩ := h.cons
  obtain ⟨c8, r8, rfl, h8, h⟩ := h.cons
  obtain rfl := h.nil
  obtain ⟨s, rfl, _⟩ := fit_int h1
  obtain ⟨L, rfl, l1⟩ := fit_ints h2
  obtain ⟨t, rfl, _⟩ := fit_int h3
  obtain ⟨M, rfl, l2⟩ := fit_ints h4
  obtain ⟨s', rfl, _⟩ := fit_int h5
  obtain ⟨L', rfl, l3⟩ := fit_ints h6
  obtain ⟨t', rfl, _⟩ := fit_int h7
  obtain ⟨M', rfl, l4⟩ := fit_ints h8
  exact ⟨⟨⟨s, L, t, M⟩, ⟨s', L', t', M'⟩⟩, rfl, by show max (max _ _) (max _ _) ≤ _; dsimp only; omega⟩
theorem fit_rows {α : Type} {N : Nat} {l : List Sp} {C : α → List Cell} {Q : α → Prop} (h : ∀ r, FitL N l r → ∃ x, r = C x ∧ Q x) {c : Cell} (hc : Fit N (.sl l) c) :
    ∃ xs : List α, c = .sl l.length (xs.map C) ∧ xs.length ≤ N ∧ ∀ x ∈ xs, Q x := by
  cases hc with
  | @sl _ rows hl hlen hr =>
    have : ∀ rows : List (List Cell), (∀ r ∈ rows, FitL N l r) → ∃ xs : List α, rows = xs.map C ∧ ∀ x ∈ xs, Q x := by
      intro rows
      induction rows with
      | nil => intro _; exact ⟨[], rfl, fun x hx => by cases hx⟩
      | cons r rows ih =>
        intro hh
        obtain ⟨x, hx, hq⟩ := h r (hh r (by simp))
        obtain ⟨xs, hxs, hqs⟩ := ih (fun r' hr' => hh r' (by simp [hr']))
        exact ⟨x :: xs, by rw [hx, hxs]; rfl, fun y hy => by
          rcases List.mem_cons.1 hy with rfl | hy
          · exact hq
          · exact hqs y hy⟩
    obtain ⟨xs, rfl, hq⟩ := this rows (fun r hr' => ⟨hlen r hr', hr r hr'⟩)
    exact ⟨xs, rfl, by simpa using hl, hq⟩
theorem fitFs {N : Nat} {c : Cell} (h : Fit N (.sl spF) c) : ∃ l : List Fc, c = .sl 4 (l.map Fc.C) ∧ l.length ≤ N ∧ ∀ f ∈ l, f.sz ≤ N := fit_rows (C := Fc.C) (Q := fun f => f.sz ≤ N) (fun _ h => fitF h) h
theorem fitSs {N : Nat} {c : Cell} (h : Fit N (.sl spS) c) : ∃ l : List Sc, c = .sl 8 (l.map Sc.C) ∧ l.length ≤ N ∧ ∀ s ∈ l, s.sz ≤ N := fit_rows (C := Sc.C) (Q := fun s => s.sz ≤ N) (fun _ h => fitS h) h
theorem fitA {N : Nat} {cs : List Cell} (h : FitL N spA cs) : ∃ a : Af, cs = a.C ∧ a.l.length ≤ N ∧ a.le N := by
  obtain ⟨c1, r1, rfl, h1, h⟩ := h.cons
  obtain ⟨c2, r2, rfl, h2, h⟩ := h.cons
  obtain ⟨c3, r3, rfl, h3, h⟩ := h.cons
  obtain ⟨c4, r4, rfl, h4, h⟩ := h.cons
  obtain ⟨c5, r5, rfl, h5, h⟩ := h.cons
  obtain rfl := h.nil
  obtain ⟨s, rfl, _⟩ := fit_int h1
  obtain ⟨L, rfl, l1⟩ := fit_ints h2
  obtain ⟨t, rfl, _⟩ := fit_int h3
  obtain ⟨M, rfl, l2⟩ := fit_ints h4
  obtain ⟨l, rfl, l3, l4⟩ := fitFs h5
  exact ⟨⟨⟨s, L, t, M⟩, l⟩, rfl, l3, by show max _ _ ≤ _; dsimp only; omega, l4⟩
end Go.Slot

/- What the bound of the second form gives. -/
namespace Go.Proofs.Ytieohkidmjglgaa
open Go Go.Slot
theorem bulk_one {H : Type} (d : DataW H) : 1 ≤ Rows.uptoBulk d := by
  cases d with
  | lit l => cases l <;> simp [Rows.uptoBulk]
  | nil => simp [Rows.uptoBulk]
  | ptr d => simp [Rows.uptoBulk]
  | slice elems spare => simp [Rows.uptoBulk]
  | agg parts => simp [Rows.uptoBulk]
  | iface t d => simp [Rows.uptoBulk]
  | map entries => simp [Rows.uptoBulk]
  | held h => simp [Rows.uptoBulk]
theorem bulk_part {H : Type} {d : DataW H} {l : List (DataW H)} (h : d ∈ l) : Rows.uptoBulk d ≤ Rows.uptoBulkAll l := by
  induction l with
  | nil => cases h
  | cons x r ih =>
    simp only [Rows.uptoBulkAll]
    cases List.mem_cons.1 h with
    | inl e => subst e; omega
    | inr e => have := ih e; omega
theorem bulk_len {H : Type} (l : List (DataW H)) : l.length ≤ Rows.uptoBulkAll l := by
  induction l with
  | nil => simp [Rows.uptoBulkAll]
  | cons x r ih => have := bulk_one x; simp only [Rows.uptoBulkAll, List.length_cons]; omega
theorem bulk {H : Type} : Bulk (H := H) Rows.uptoBulk where
  str b := by simp [Rows.uptoBulk]
  elems l r := by
    have := bulk_len l
    simp only [Rows.uptoBulk]; omega
  elem l r d h := by
    have := bulk_part h
    simp only [Rows.uptoBulk]; omega
  part l d h := by
    have := bulk_part h
    simp only [Rows.uptoBulk]; omega
set_option maxRecDepth 10000 in
theorem bulk_bound {H : Type} {l : List (DataW H)} (hk : Rows.uptoSmall H l = true) : ∀ d ∈ l, Rows.uptoBulk d ≤ 1048576 := fun d hd => by
  have h := bulk_part hd
  have h2 : Rows.uptoBulkAll l ≤ 1048576 := of_decide_eq_true hk
  omega
end Go.Proofs.Ytieohkidmjglgaa
