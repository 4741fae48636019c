import Derived.Test.YtieohkidmjglgaaGreatZ5
import Derived.Test.YtieohkidmjglgaaGreatRows
/- Contracts of package frac: Sub, Mul, Compare, Neg, Sign, Min, Max, Same, Int. -/
namespace Go.Slot.T
open Go Go.RowKit Go.Slot
open Go.Proofs.Tryz (prog)
set_option maxRecDepth 10000
set_option maxHeartbeats 4000000

theorem cSubF (a b : Fc) (ha : a.sz ≤ 67108864) (hb : b.sz ≤ 67108864) :
    CallsTo prog 48 [.agg a.C, .agg b.C] (.tup [.agg (Fc.sub a b).C, .one (.raw (.int .i64 (Fc.er (a.ok ∧ b.ok))))]) := by
  by_cases h1 : a.ok
  · by_cases h2 : b.ok
    · rw [Fc.er_of ⟨h1, h2⟩]
      obtain ⟨x, rfl⟩ := Fc.ok_ex h1
      obtain ⟨y, rfl⟩ := Fc.ok_ex h2
      have lx := szO ha
      have ly := szO hb
      have hA := cAddF (Fc.of x) (Fc.of (-y)) ha (by rw [Fc.sz_neg_of]; exact hb)
      rw [Fc.er_of ⟨Fc.of_ok _, Fc.of_ok _⟩, Fc.add_of, ← Rat.sub_eq_add_neg] at hA
      rw [Fc.sub_of]
      refine CallsTo.run [] Go.Proofs.Tryz.func48 rfl rfl ?_; conv => simp (maxSteps := 2000000) (disch := omega) only [go_sem, Nat.reduceAdd, Nat.reduceSub, Nat.reduceMul, Int.reduceToNat, Nat.reduceEqDiff, Nat.reduceBEq, Nat.reduceBneDiff, Go.Proofs.Tryz.f48, List.replicate]
      refine callk (cRightOf x (by omega)) ?_
      conv => simp (maxSteps := 2000000) (disch := omega) only [go_sem, Nat.reduceAdd, Nat.reduceSub, Nat.reduceMul, Int.reduceToNat, Nat.reduceEqDiff, Nat.reduceBEq, Nat.reduceBneDiff]
      refine callk (cRightOf y (by omega)) ?_
      conv => simp (maxSteps := 2000000) (disch := omega) only [go_sem, Nat.reduceAdd, Nat.reduceSub, Nat.reduceMul, Int.reduceToNat, Nat.reduceEqDiff, Nat.reduceBEq, Nat.reduceBneDiff]
      refine callk (cNegZ y.num (by unfold okZ; omega)) ?_
      conv => simp (maxSteps := 2000000) (disch := omega) only [go_sem, Nat.reduceAdd, Nat.reduceSub, Nat.reduceMul, Int.reduceToNat, Nat.reduceEqDiff, Nat.reduceBEq, Nat.reduceBneDiff]
      refine callk hA ?_
      conv => simp (maxSteps := 2000000) (disch := omega) only [go_sem, Nat.reduceAdd, Nat.reduceSub, Nat.reduceMul, Int.reduceToNat, Nat.reduceEqDiff, Nat.reduceBEq, Nat.reduceBneDiff]
      refine indk (by kernel_rfl) ?_
      conv => simp (maxSteps := 2000000) (disch := omega) only [go_sem, Nat.reduceAdd, Nat.reduceSub, Nat.reduceMul, Int.reduceToNat, Nat.reduceEqDiff, Nat.reduceBEq, Nat.reduceBneDiff]
      exact ⟨_, rfl, .tup (.cons (.refl _) (.cons (.refl _) .nil))⟩
    · rw [Fc.er_bad (fun h => h2 h.2), show Fc.sub a b = Fc.zero from Fc.op2_bad (fun h => h2 h.2)]
      obtain ⟨x, rfl⟩ := Fc.ok_ex h1
      refine CallsTo.run [] Go.Proofs.Tryz.func48 rfl rfl ?_; conv => simp (maxSteps := 2000000) (disch := omega) only [go_sem, Nat.reduceAdd, Nat.reduceSub, Nat.reduceMul, Int.reduceToNat, Nat.reduceEqDiff, Nat.reduceBEq, Nat.reduceBneDiff, Go.Proofs.Tryz.f48, List.replicate]
      refine callk (cRightOf x (by omega)) ?_
      conv => simp (maxSteps := 2000000) (disch := omega) only [go_sem, Nat.reduceAdd, Nat.reduceSub, Nat.reduceMul, Int.reduceToNat, Nat.reduceEqDiff, Nat.reduceBEq, Nat.reduceBneDiff]
      refine callk (cRightBad b (by omega) h2) ?_
      conv => simp (maxSteps := 2000000) (disch := omega) only [go_sem, Nat.reduceAdd, Nat.reduceSub, Nat.reduceMul, Int.reduceToNat, Nat.reduceEqDiff, Nat.reduceBEq, Nat.reduceBneDiff]
      exact ⟨_, rfl, .tup (.cons zeroLe (.cons (.refl _) .nil))⟩
  · rw [Fc.er_bad (fun h => h1 h.1), show Fc.sub a b = Fc.zero from Fc.op2_bad (fun h => h1 h.1)]
    refine CallsTo.run [] Go.Proofs.Tryz.func48 rfl rfl ?_; conv => simp (maxSteps := 2000000) (disch := omega) only [go_sem, Nat.reduceAdd, Nat.reduceSub, Nat.reduceMul, Int.reduceToNat, Nat.reduceEqDiff, Nat.reduceBEq, Nat.reduceBneDiff, Go.Proofs.Tryz.f48, List.replicate]
    refine callk (cRightBad a (by omega) h1) ?_
    conv => simp (maxSteps := 2000000) (disch := omega) only [go_sem, Nat.reduceAdd, Nat.reduceSub, Nat.reduceMul, Int.reduceToNat, Nat.reduceEqDiff, Nat.reduceBEq, Nat.reduceBneDiff]
    exact ⟨_, rfl, .tup (.cons zeroLe (.cons (.refl _) .nil))⟩
theorem cMulF (a b : Fc) (ha : a.sz ≤ 67108864) (hb : b.sz ≤ 67108864) :
    CallsTo prog 36 [.agg a.C, .agg b.C] (.tup [.agg (Fc.mul a b).C, .one (.raw (.int .i64 (Fc.er (a.ok ∧ b.ok))))]) := by
  by_cases h1 : a.ok
  · by_cases h2 : b.ok
    · rw [Fc.er_of ⟨h1, h2⟩]
      obtain ⟨x, rfl⟩ := Fc.ok_ex h1
      obtain ⟨y, rfl⟩ := Fc.ok_ex h2
      have lx := szO ha
      have ly := szO hb
      have l1 := len_mul x.num y.num
      have l4 := dig_len_mul x.den y.den
      rw [Fc.mul_of, Rat.mul_def']
      refine CallsTo.run [] Go.Proofs.Tryz.func36 rfl rfl ?_; conv => simp (maxSteps := 2000000) (disch := omega) only [go_sem, Nat.reduceAdd, Nat.reduceSub, Nat.reduceMul, Int.reduceToNat, Nat.reduceEqDiff, Nat.reduceBEq, Nat.reduceBneDiff, Go.Proofs.Tryz.f36, List.replicate]
      refine callk (cRightOf x (by omega)) ?_
      conv => simp (maxSteps := 2000000) (disch := omega) only [go_sem, Nat.reduceAdd, Nat.reduceSub, Nat.reduceMul, Int.reduceToNat, Nat.reduceEqDiff, Nat.reduceBEq, Nat.reduceBneDiff]
      refine callk (cRightOf y (by omega)) ?_
      conv => simp (maxSteps := 2000000) (disch := omega) only [go_sem, Nat.reduceAdd, Nat.reduceSub, Nat.reduceMul, Int.reduceToNat, Nat.reduceEqDiff, Nat.reduceBEq, Nat.reduceBneDiff]
      refine callk (cTimes x.num y.num (by unfold okZ; omega) (by unfold okZ; omega)) ?_
      conv => simp (maxSteps := 2000000) (disch := omega) only [go_sem, Nat.reduceAdd, Nat.reduceSub, Nat.reduceMul, Int.reduceToNat, Nat.reduceEqDiff, Nat.reduceBEq, Nat.reduceBneDiff]
      refine callk (cTimesD x.den y.den x.den_nz y.den_nz (by omega) (by omega)) ?_
      conv => simp (maxSteps := 2000000) (disch := omega) only [go_sem, Nat.reduceAdd, Nat.reduceSub, Nat.reduceMul, Int.reduceToNat, Nat.reduceEqDiff, Nat.reduceBEq, Nat.reduceBneDiff]
      refine callk (cNewQ (x.num * y.num) (x.den * y.den) (by unfold okZ; omega) (Nat.mul_ne_zero x.den_nz y.den_nz) (by omega)) ?_
      conv => simp (maxSteps := 2000000) (disch := omega) only [go_sem, Nat.reduceAdd, Nat.reduceSub, Nat.reduceMul, Int.reduceToNat, Nat.reduceEqDiff, Nat.reduceBEq, Nat.reduceBneDiff]
      refine indk (by kernel_rfl) ?_
      conv => simp (maxSteps := 2000000) (disch := omega) only [go_sem, Nat.reduceAdd, Nat.reduceSub, Nat.reduceMul, Int.reduceToNat, Nat.reduceEqDiff, Nat.reduceBEq, Nat.reduceBneDiff]
      exact ⟨_, rfl, .tup (.cons (.refl _) (.cons (.refl _) .nil))⟩
    · rw [Fc.er_bad (fun h => h2 h.2), show Fc.mul a b = Fc.zero from Fc.op2_bad (fun h => h2 h.2)]
      obtain ⟨x, rfl⟩ := Fc.ok_ex h1
      refine CallsTo.run [] Go.Proofs.Tryz.func36 rfl rfl ?_; conv => simp (maxSteps := 2000000) (disch := omega) only [go_sem, Nat.reduceAdd, Nat.reduceSub, Nat.reduceMul, Int.reduceToNat, Nat.reduceEqDiff, Nat.reduceBEq, Nat.reduceBneDiff, Go.Proofs.Tryz.f36, List.replicate]
      refine callk (cRightOf x (by omega)) ?_
      conv => simp (maxSteps := 2000000) (disch := omega) only [go_sem, Nat.reduceAdd, Nat.reduceSub, Nat.reduceMul, Int.reduceToNat, Nat.reduceEqDiff, Nat.reduceBEq, Nat.reduceBneDiff]
      refine callk (cRightBad b (by omega) h2) ?_
      conv => simp (maxSteps := 2000000) (disch := omega) only [go_sem, Nat.reduceAdd, Nat.reduceSub, Nat.reduceMul, Int.reduceToNat, Nat.reduceEqDiff, Nat.reduceBEq, Nat.reduceBneDiff]
      exact ⟨_, rfl, .tup (.cons zeroLe (.cons (.refl _) .nil))⟩
  · rw [Fc.er_bad (fun h => h1 h.1), show Fc.mul a b = Fc.zero from Fc.op2_bad (fun h => h1 h.1)]
    refine CallsTo.run [] Go.Proofs.Tryz.func36 rfl rfl ?_; conv => simp (maxSteps := 2000000) (disch := omega) only [go_sem, Nat.reduceAdd, Nat.reduceSub, Nat.reduceMul, Int.reduceToNat, Nat.reduceEqDiff, Nat.reduceBEq, Nat.reduceBneDiff, Go.Proofs.Tryz.f36, List.replicate]
    refine callk (cRightBad a (by omega) h1) ?_
    conv => simp (maxSteps := 2000000) (disch := omega) only [go_sem, Nat.reduceAdd, Nat.reduceSub, Nat.reduceMul, Int.reduceToNat, Nat.reduceEqDiff, Nat.reduceBEq, Nat.reduceBneDiff]
    exact ⟨_, rfl, .tup (.cons zeroLe (.cons (.refl _) .nil))⟩
theorem cCmpF (a b : Fc) (ha : a.sz ≤ 67108864) (hb : b.sz ≤ 67108864) :
    CallsTo prog 40 [.agg a.C, .agg b.C] (.one (.raw (.int .i64 (Fc.cmp a b)))) := by
  by_cases h1 : a.ok
  · by_cases h2 : b.ok
    · obtain ⟨x, rfl⟩ := Fc.ok_ex h1
      obtain ⟨y, rfl⟩ := Fc.ok_ex h2
      have lx := szO ha
      have ly := szO hb
      have l1 := len_mul x.num y.den
      have l2 := len_mul y.num x.den
      rw [Int.natAbs_natCast] at l1 l2
      rw [Fc.cmp_of, ← Fc.ordQ_int]
      refine CallsTo.run [] Go.Proofs.Tryz.func40 rfl rfl ?_; conv => simp (maxSteps := 2000000) (disch := omega) only [go_sem, Nat.reduceAdd, Nat.reduceSub, Nat.reduceMul, Int.reduceToNat, Nat.reduceEqDiff, Nat.reduceBEq, Nat.reduceBneDiff, Go.Proofs.Tryz.f40, List.replicate]
      refine callk (cRightOf x (by omega)) ?_
      conv => simp (maxSteps := 2000000) (disch := omega) only [go_sem, Nat.reduceAdd, Nat.reduceSub, Nat.reduceMul, Int.reduceToNat, Nat.reduceEqDiff, Nat.reduceBEq, Nat.reduceBneDiff]
      refine callk (cRightOf y (by omega)) ?_
      conv => simp (maxSteps := 2000000) (disch := omega) only [go_sem, Nat.reduceAdd, Nat.reduceSub, Nat.reduceMul, Int.reduceToNat, Nat.reduceEqDiff, Nat.reduceBEq, Nat.reduceBneDiff]
      refine callk (cTimesQ x.num y.den (by unfold okZ; omega) y.den_nz (by omega)) ?_
      conv => simp (maxSteps := 2000000) (disch := omega) only [go_sem, Nat.reduceAdd, Nat.reduceSub, Nat.reduceMul, Int.reduceToNat, Nat.reduceEqDiff, Nat.reduceBEq, Nat.reduceBneDiff]
      refine callk (cTimesQ y.num x.den (by unfold okZ; omega) x.den_nz (by omega)) ?_
      conv => simp (maxSteps := 2000000) (disch := omega) only [go_sem, Nat.reduceAdd, Nat.reduceSub, Nat.reduceMul, Int.reduceToNat, Nat.reduceEqDiff, Nat.reduceBEq, Nat.reduceBneDiff]
      refine callk (cCompareZ (x.num * y.den) (y.num * x.den) (by unfold okZ; omega) (by unfold okZ; omega)) ?_
      conv => simp (maxSteps := 2000000) (disch := omega) only [go_sem, Nat.reduceAdd, Nat.reduceSub, Nat.reduceMul, Int.reduceToNat, Nat.reduceEqDiff, Nat.reduceBEq, Nat.reduceBneDiff]
      refine indk (by kernel_rfl) ?_
      conv => simp (maxSteps := 2000000) (disch := omega) only [go_sem, Nat.reduceAdd, Nat.reduceSub, Nat.reduceMul, Int.reduceToNat, Nat.reduceEqDiff, Nat.reduceBEq, Nat.reduceBneDiff]
      exact ⟨_, rfl, .one (.refl _)⟩
    · rw [show Fc.cmp a b = 0 from if_neg (fun h => h2 h.2)]
      obtain ⟨x, rfl⟩ := Fc.ok_ex h1
      refine CallsTo.run [] Go.Proofs.Tryz.func40 rfl rfl ?_; conv => simp (maxSteps := 2000000) (disch := omega) only [go_sem, Nat.reduceAdd, Nat.reduceSub, Nat.reduceMul, Int.reduceToNat, Nat.reduceEqDiff, Nat.reduceBEq, Nat.reduceBneDiff, Go.Proofs.Tryz.f40, List.replicate]
      refine callk (cRightOf x (by omega)) ?_
      conv => simp (maxSteps := 2000000) (disch := omega) only [go_sem, Nat.reduceAdd, Nat.reduceSub, Nat.reduceMul, Int.reduceToNat, Nat.reduceEqDiff, Nat.reduceBEq, Nat.reduceBneDiff]
      refine callk (cRightBad b (by omega) h2) ?_
      conv => simp (maxSteps := 2000000) (disch := omega) only [go_sem, Nat.reduceAdd, Nat.reduceSub, Nat.reduceMul, Int.reduceToNat, Nat.reduceEqDiff, Nat.reduceBEq, Nat.reduceBneDiff]
      exact ⟨_, rfl, .one (.refl _)⟩
  · rw [show Fc.cmp a b = 0 from if_neg (fun h => h1 h.1)]
    refine CallsTo.run [] Go.Proofs.Tryz.func40 rfl rfl ?_; conv => simp (maxSteps := 2000000) (disch := omega) only [go_sem, Nat.reduceAdd, Nat.reduceSub, Nat.reduceMul, Int.reduceToNat, Nat.reduceEqDiff, Nat.reduceBEq, Nat.reduceBneDiff, Go.Proofs.Tryz.f40, List.replicate]
    refine callk (cRightBad a (by omega) h1) ?_
    conv => simp (maxSteps := 2000000) (disch := omega) only [go_sem, Nat.reduceAdd, Nat.reduceSub, Nat.reduceMul, Int.reduceToNat, Nat.reduceEqDiff, Nat.reduceBEq, Nat.reduceBneDiff]
    exact ⟨_, rfl, .one (.refl _)⟩
theorem cSlim (x : Int) (hx : okZ x) : CallsTo prog 79 [.agg [.raw (.int .i64 (sg x)), .ints .i64 (dig x.natAbs)]] (.agg [.raw (.int .i64 (sg x)), .ints .i64 (dig x.natAbs)]) := by
  have hx' : okZ (-x) := by unfold okZ; rw [Int.natAbs_neg]; exact hx
  have h2 := cNegZ (-x) hx'
  rw [Int.neg_neg] at h2
  refine CallsTo.run [] Go.Proofs.Tryz.func79 rfl rfl ?_; conv => simp (maxSteps := 2000000) (disch := omega) only [go_sem, Nat.reduceAdd, Nat.reduceSub, Nat.reduceMul, Int.reduceToNat, Nat.reduceEqDiff, Nat.reduceBEq, Nat.reduceBneDiff, Go.Proofs.Tryz.f79, List.replicate]
  refine callk (cNegZ x hx) ?_
  conv => simp (maxSteps := 2000000) (disch := omega) only [go_sem, Nat.reduceAdd, Nat.reduceSub, Nat.reduceMul, Int.reduceToNat, Nat.reduceEqDiff, Nat.reduceBEq, Nat.reduceBneDiff]
  refine callk h2 ?_
  conv => simp (maxSteps := 2000000) (disch := omega) only [go_sem, Nat.reduceAdd, Nat.reduceSub, Nat.reduceMul, Int.reduceToNat, Nat.reduceEqDiff, Nat.reduceBEq, Nat.reduceBneDiff]
  exact ⟨_, rfl, .one (.refl _)⟩
theorem cSlimD (d : Nat) (hd : d ≠ 0) (hl : (dig d).length ≤ 268435456) : CallsTo prog 79 [.agg [.raw (.int .i64 1), .ints .i64 (dig d)]] (.agg [.raw (.int .i64 1), .ints .i64 (dig d)]) := by
  have := cSlim (d : Int) hl
  rw [sg_nat hd] at this
  exact this
theorem zero1Le : RLe (.agg [.raw (.int .i64 0), .zc, .raw (.int .i64 0), .zc]) (.agg Fc.zero.C) := .one zeroLe
theorem cNegF (a : Fc) (ha : a.sz ≤ 67108864) : CallsTo prog 39 [.agg a.C] (.agg (Fc.neg a).C) := by
  by_cases h1 : a.ok
  · obtain ⟨x, rfl⟩ := Fc.ok_ex h1
    have lx := szO ha
    rw [Fc.neg_of]
    refine CallsTo.run [] Go.Proofs.Tryz.func39 rfl rfl ?_; conv => simp (maxSteps := 2000000) (disch := omega) only [go_sem, Nat.reduceAdd, Nat.reduceSub, Nat.reduceMul, Int.reduceToNat, Nat.reduceEqDiff, Nat.reduceBEq, Nat.reduceBneDiff, Go.Proofs.Tryz.f39, List.replicate]
    refine callk (cRightOf x (by omega)) ?_
    conv => simp (maxSteps := 2000000) (disch := omega) only [go_sem, Nat.reduceAdd, Nat.reduceSub, Nat.reduceMul, Int.reduceToNat, Nat.reduceEqDiff, Nat.reduceBEq, Nat.reduceBneDiff]
    refine callk (cNegZ x.num (by unfold okZ; omega)) ?_
    conv => simp (maxSteps := 2000000) (disch := omega) only [go_sem, Nat.reduceAdd, Nat.reduceSub, Nat.reduceMul, Int.reduceToNat, Nat.reduceEqDiff, Nat.reduceBEq, Nat.reduceBneDiff]
    refine callk (cSlimD x.den x.den_nz (by omega)) ?_
    conv => simp (maxSteps := 2000000) (disch := omega) only [go_sem, Nat.reduceAdd, Nat.reduceSub, Nat.reduceMul, Int.reduceToNat, Nat.reduceEqDiff, Nat.reduceBEq, Nat.reduceBneDiff]
    refine indk (by kernel_rfl) ?_
    conv => simp (maxSteps := 2000000) (disch := omega) only [go_sem, Nat.reduceAdd, Nat.reduceSub, Nat.reduceMul, Int.reduceToNat, Nat.reduceEqDiff, Nat.reduceBEq, Nat.reduceBneDiff]
    exact ⟨_, rfl, .one (.refl _)⟩
  · rw [show Fc.neg a = Fc.zero from if_neg h1]
    refine CallsTo.run [] Go.Proofs.Tryz.func39 rfl rfl ?_; conv => simp (maxSteps := 2000000) (disch := omega) only [go_sem, Nat.reduceAdd, Nat.reduceSub, Nat.reduceMul, Int.reduceToNat, Nat.reduceEqDiff, Nat.reduceBEq, Nat.reduceBneDiff, Go.Proofs.Tryz.f39, List.replicate]
    refine callk (cRightBad a (by omega) h1) ?_
    conv => simp (maxSteps := 2000000) (disch := omega) only [go_sem, Nat.reduceAdd, Nat.reduceSub, Nat.reduceMul, Int.reduceToNat, Nat.reduceEqDiff, Nat.reduceBEq, Nat.reduceBneDiff]
    exact ⟨_, rfl, zero1Le⟩
theorem cSignF (a : Fc) (ha : a.sz ≤ 67108864) : CallsTo prog 46 [.agg a.C] (.one (.raw (.int .i64 (Fc.sign a)))) := by
  by_cases h1 : a.ok
  · obtain ⟨x, rfl⟩ := Fc.ok_ex h1
    rw [Fc.sign_of]
    refine CallsTo.run [] Go.Proofs.Tryz.func46 rfl rfl ?_; conv => simp (maxSteps := 2000000) (disch := omega) only [go_sem, Nat.reduceAdd, Nat.reduceSub, Nat.reduceMul, Int.reduceToNat, Nat.reduceEqDiff, Nat.reduceBEq, Nat.reduceBneDiff, Go.Proofs.Tryz.f46, List.replicate]
    refine callk (cRightOf x (by omega)) ?_
    conv => simp (maxSteps := 2000000) (disch := omega) only [go_sem, Nat.reduceAdd, Nat.reduceSub, Nat.reduceMul, Int.reduceToNat, Nat.reduceEqDiff, Nat.reduceBEq, Nat.reduceBneDiff]
    exact ⟨_, rfl, .one (.refl _)⟩
  · rw [show Fc.sign a = 0 from if_neg h1]
    refine CallsTo.run [] Go.Proofs.Tryz.func46 rfl rfl ?_; conv => simp (maxSteps := 2000000) (disch := omega) only [go_sem, Nat.reduceAdd, Nat.reduceSub, Nat.reduceMul, Int.reduceToNat, Nat.reduceEqDiff, Nat.reduceBEq, Nat.reduceBneDiff, Go.Proofs.Tryz.f46, List.replicate]
    refine callk (cRightBad a (by omega) h1) ?_
    conv => simp (maxSteps := 2000000) (disch := omega) only [go_sem, Nat.reduceAdd, Nat.reduceSub, Nat.reduceMul, Int.reduceToNat, Nat.reduceEqDiff, Nat.reduceBEq, Nat.reduceBneDiff]
    exact ⟨_, rfl, .one (.refl _)⟩
theorem cEitherOf (x y : Rat) (s : Int) (hs : -1 ≤ s ∧ s ≤ 1) (ha : (Fc.of x).sz ≤ 67108864) (hb : (Fc.of y).sz ≤ 67108864) :
    CallsTo prog 77 [.agg (Fc.of x).C, .agg (Fc.of y).C, .one (.raw (.int .i64 s))] (.tup [.agg (Fc.of (if Fc.ordQ x y * s < 0 then y else x)).C, .one (.raw (.int .i64 0))]) := by
  have lx := szO ha
  have ly := szO hb
  have hc := cCmpF (Fc.of x) (Fc.of y) ha hb
  rw [Fc.cmp_of] at hc
  have hr : -1 ≤ Fc.ordQ x y * s ∧ Fc.ordQ x y * s ≤ 1 := by
    rcases Fc.ordQ_cases x y with ⟨_, e⟩ | ⟨_, e⟩ | ⟨_, e⟩ <;> rw [e] <;> omega
  refine CallsTo.run [] Go.Proofs.Tryz.func77 rfl rfl ?_; conv => simp (maxSteps := 2000000) (disch := omega) only [go_sem, Nat.reduceAdd, Nat.reduceSub, Nat.reduceMul, Int.reduceToNat, Nat.reduceEqDiff, Nat.reduceBEq, Nat.reduceBneDiff, Go.Proofs.Tryz.f77, List.replicate]
  refine callk (cRightOf x (by omega)) ?_
  conv => simp (maxSteps := 2000000) (disch := omega) only [go_sem, Nat.reduceAdd, Nat.reduceSub, Nat.reduceMul, Int.reduceToNat, Nat.reduceEqDiff, Nat.reduceBEq, Nat.reduceBneDiff]
  refine callk (cRightOf y (by omega)) ?_
  conv => simp (maxSteps := 2000000) (disch := omega) only [go_sem, Nat.reduceAdd, Nat.reduceSub, Nat.reduceMul, Int.reduceToNat, Nat.reduceEqDiff, Nat.reduceBEq, Nat.reduceBneDiff]
  refine callk hc ?_
  conv => simp (maxSteps := 2000000) (disch := omega) only [go_sem, Nat.reduceAdd, Nat.reduceSub, Nat.reduceMul, Int.reduceToNat, Nat.reduceEqDiff, Nat.reduceBEq, Nat.reduceBneDiff]
  refine condd (fun h => ?_) (fun h => ?_)
  · rw [if_pos h]
    conv => simp (maxSteps := 2000000) (disch := omega) only [go_sem, Nat.reduceAdd, Nat.reduceSub, Nat.reduceMul, Int.reduceToNat, Nat.reduceEqDiff, Nat.reduceBEq, Nat.reduceBneDiff]
    refine callk (cSlim y.num (by unfold okZ; omega)) ?_
    conv => simp (maxSteps := 2000000) (disch := omega) only [go_sem, Nat.reduceAdd, Nat.reduceSub, Nat.reduceMul, Int.reduceToNat, Nat.reduceEqDiff, Nat.reduceBEq, Nat.reduceBneDiff]
    refine callk (cSlimD y.den y.den_nz (by omega)) ?_
    conv => simp (maxSteps := 2000000) (disch := omega) only [go_sem, Nat.reduceAdd, Nat.reduceSub, Nat.reduceMul, Int.reduceToNat, Nat.reduceEqDiff, Nat.reduceBEq, Nat.reduceBneDiff]
    refine indk (by kernel_rfl) ?_
    conv => simp (maxSteps := 2000000) (disch := omega) only [go_sem, Nat.reduceAdd, Nat.reduceSub, Nat.reduceMul, Int.reduceToNat, Nat.reduceEqDiff, Nat.reduceBEq, Nat.reduceBneDiff]
    exact ⟨_, rfl, .tup (.cons (.refl _) (.cons (.refl _) .nil))⟩
  · rw [if_neg h]
    conv => simp (maxSteps := 2000000) (disch := omega) only [go_sem, Nat.reduceAdd, Nat.reduceSub, Nat.reduceMul, Int.reduceToNat, Nat.reduceEqDiff, Nat.reduceBEq, Nat.reduceBneDiff]
    refine callk (cSlim x.num (by unfold okZ; omega)) ?_
    conv => simp (maxSteps := 2000000) (disch := omega) only [go_sem, Nat.reduceAdd, Nat.reduceSub, Nat.reduceMul, Int.reduceToNat, Nat.reduceEqDiff, Nat.reduceBEq, Nat.reduceBneDiff]
    refine callk (cSlimD x.den x.den_nz (by omega)) ?_
    conv => simp (maxSteps := 2000000) (disch := omega) only [go_sem, Nat.reduceAdd, Nat.reduceSub, Nat.reduceMul, Int.reduceToNat, Nat.reduceEqDiff, Nat.reduceBEq, Nat.reduceBneDiff]
    refine indk (by kernel_rfl) ?_
    conv => simp (maxSteps := 2000000) (disch := omega) only [go_sem, Nat.reduceAdd, Nat.reduceSub, Nat.reduceMul, Int.reduceToNat, Nat.reduceEqDiff, Nat.reduceBEq, Nat.reduceBneDiff]
    exact ⟨_, rfl, .tup (.cons (.refl _) (.cons (.refl _) .nil))⟩
theorem cEitherBad (a b : Fc) (s : Int) (h : ¬ (a.ok ∧ b.ok)) (ha : a.sz ≤ 67108864) (hb : b.sz ≤ 67108864) :
    CallsTo prog 77 [.agg a.C, .agg b.C, .one (.raw (.int .i64 s))] (.tup [.agg Fc.zero.C, .one (.raw (.int .i64 1))]) := by
  by_cases h1 : a.ok
  · have h2 : ¬ b.ok := fun h2 => h ⟨h1, h2⟩
    obtain ⟨x, rfl⟩ := Fc.ok_ex h1
    refine CallsTo.run [] Go.Proofs.Tryz.func77 rfl rfl ?_; conv => simp (maxSteps := 2000000) (disch := omega) only [go_sem, Nat.reduceAdd, Nat.reduceSub, Nat.reduceMul, Int.reduceToNat, Nat.reduceEqDiff, Nat.reduceBEq, Nat.reduceBneDiff, Go.Proofs.Tryz.f77, List.replicate]
    refine callk (cRightOf x (by omega)) ?_
    conv => simp (maxSteps := 2000000) (disch := omega) only [go_sem, Nat.reduceAdd, Nat.reduceSub, Nat.reduceMul, Int.reduceToNat, Nat.reduceEqDiff, Nat.reduceBEq, Nat.reduceBneDiff]
    refine callk (cRightBad b (by omega) h2) ?_
    conv => simp (maxSteps := 2000000) (disch := omega) only [go_sem, Nat.reduceAdd, Nat.reduceSub, Nat.reduceMul, Int.reduceToNat, Nat.reduceEqDiff, Nat.reduceBEq, Nat.reduceBneDiff]
    exact ⟨_, rfl, .tup (.cons zeroLe (.cons (.refl _) .nil))⟩
  · refine CallsTo.run [] Go.Proofs.Tryz.func77 rfl rfl ?_; conv => simp (maxSteps := 2000000) (disch := omega) only [go_sem, Nat.reduceAdd, Nat.reduceSub, Nat.reduceMul, Int.reduceToNat, Nat.reduceEqDiff, Nat.reduceBEq, Nat.reduceBneDiff, Go.Proofs.Tryz.f77, List.replicate]
    refine callk (cRightBad a (by omega) h1) ?_
    conv => simp (maxSteps := 2000000) (disch := omega) only [go_sem, Nat.reduceAdd, Nat.reduceSub, Nat.reduceMul, Int.reduceToNat, Nat.reduceEqDiff, Nat.reduceBEq, Nat.reduceBneDiff]
    exact ⟨_, rfl, .tup (.cons zeroLe (.cons (.refl _) .nil))⟩
theorem cMaxF (a b : Fc) (ha : a.sz ≤ 67108864) (hb : b.sz ≤ 67108864) :
    CallsTo prog 38 [.agg a.C, .agg b.C] (.tup [.agg (Fc.maxf a b).C, .one (.raw (.int .i64 (Fc.er (a.ok ∧ b.ok))))]) := by
  by_cases h : a.ok ∧ b.ok
  · rw [Fc.er_of h]
    obtain ⟨x, rfl⟩ := Fc.ok_ex h.1
    obtain ⟨y, rfl⟩ := Fc.ok_ex h.2
    have hE := cEitherOf x y 1 (by decide) ha hb
    have e : (if Fc.ordQ x y * 1 < 0 then y else x) = max x y := by
      rw [Rat.max_def]
      rcases Fc.ordQ_cases x y with ⟨h, e⟩ | ⟨h, e⟩ | ⟨h, e⟩ <;> rw [e]
      · rw [if_pos (by decide), if_pos (Rat.le_of_lt h)]
      · rw [if_neg (by decide), if_pos (by rw [h]; exact Rat.le_refl), h]
      · rw [if_neg (by decide), if_neg (fun h' => Rat.not_le.2 h h')]
    rw [e] at hE
    rw [Fc.maxf_of]
    refine CallsTo.run [] Go.Proofs.Tryz.func38 rfl rfl ?_; conv => simp (maxSteps := 2000000) (disch := omega) only [go_sem, Nat.reduceAdd, Nat.reduceSub, Nat.reduceMul, Int.reduceToNat, Nat.reduceEqDiff, Nat.reduceBEq, Nat.reduceBneDiff, Go.Proofs.Tryz.f38, List.replicate]
    refine callk hE ?_
    conv => simp (maxSteps := 2000000) (disch := omega) only [go_sem, Nat.reduceAdd, Nat.reduceSub, Nat.reduceMul, Int.reduceToNat, Nat.reduceEqDiff, Nat.reduceBEq, Nat.reduceBneDiff]
    exact ⟨_, rfl, .tup (.cons (.refl _) (.cons (.refl _) .nil))⟩
  · rw [Fc.er_bad h, show Fc.maxf a b = Fc.zero from Fc.op2_bad h]
    have hE := cEitherBad a b 1 h ha hb
    refine CallsTo.run [] Go.Proofs.Tryz.func38 rfl rfl ?_; conv => simp (maxSteps := 2000000) (disch := omega) only [go_sem, Nat.reduceAdd, Nat.reduceSub, Nat.reduceMul, Int.reduceToNat, Nat.reduceEqDiff, Nat.reduceBEq, Nat.reduceBneDiff, Go.Proofs.Tryz.f38, List.replicate]
    refine callk hE ?_
    conv => simp (maxSteps := 2000000) (disch := omega) only [go_sem, Nat.reduceAdd, Nat.reduceSub, Nat.reduceMul, Int.reduceToNat, Nat.reduceEqDiff, Nat.reduceBEq, Nat.reduceBneDiff]
    exact ⟨_, rfl, .tup (.cons (.refl _) (.cons (.refl _) .nil))⟩
instance : DecidableEq Fc := fun a b => decidable_of_iff (a.s = b.s ∧ a.L = b.L ∧ a.t = b.t ∧ a.M = b.M) ⟨fun h => by cases a; cases b; simp at h; simp [h], fun h => by rw [h]; exact ⟨rfl, rfl, rfl, rfl⟩⟩
theorem cSameF (a b : Fc) (ha : a.sz ≤ 67108864) (hb : b.sz ≤ 67108864) : CallsTo prog 49 [.agg a.C, .agg b.C] (.one (.raw (.bool (decide (a = b))))) := by
  have la := szL ha
  have lb := szL hb
  obtain ⟨r, hr⟩ : ∃ r, r = decide (a = b) := ⟨_, rfl⟩
  rw [← hr]
  by_cases h : a.s = b.s ∧ a.L = b.L
  · have h1 := cSame a.s a.L b.s b.L (by omega) (by omega)
    rw [decide_eq_true h] at h1
    have h2 := cSame a.t a.M b.t b.M (by omega) (by omega)
    have e : decide (a.t = b.t ∧ a.M = b.M) = r := by
      rw [hr]
      apply decide_eq_decide.2
      constructor
      · intro h'; cases a; cases b; simp at h h'; simp [h, h']
      · intro h'; rw [h']; exact ⟨rfl, rfl⟩
    rw [e] at h2
    refine CallsTo.run [] Go.Proofs.Tryz.func49 rfl rfl ?_; conv => simp (maxSteps := 2000000) (disch := omega) only [go_sem, Nat.reduceAdd, Nat.reduceSub, Nat.reduceMul, Int.reduceToNat, Nat.reduceEqDiff, Nat.reduceBEq, Nat.reduceBneDiff, Go.Proofs.Tryz.f49, List.replicate]
    refine callk h1 ?_
    conv => simp (maxSteps := 2000000) (disch := omega) only [go_sem, Nat.reduceAdd, Nat.reduceSub, Nat.reduceMul, Int.reduceToNat, Nat.reduceEqDiff, Nat.reduceBEq, Nat.reduceBneDiff]
    refine callk h2 ?_
    conv => simp (maxSteps := 2000000) (disch := omega) only [go_sem, Nat.reduceAdd, Nat.reduceSub, Nat.reduceMul, Int.reduceToNat, Nat.reduceEqDiff, Nat.reduceBEq, Nat.reduceBneDiff]
    exact ⟨_, rfl, .one (.refl _)⟩
  · have h1 := cSame a.s a.L b.s b.L (by omega) (by omega)
    rw [decide_eq_false h] at h1
    have e : r = false := by rw [hr, decide_eq_false (fun e => h (by rw [e]; exact ⟨rfl, rfl⟩))]
    subst e
    refine CallsTo.run [] Go.Proofs.Tryz.func49 rfl rfl ?_; conv => simp (maxSteps := 2000000) (disch := omega) only [go_sem, Nat.reduceAdd, Nat.reduceSub, Nat.reduceMul, Int.reduceToNat, Nat.reduceEqDiff, Nat.reduceBEq, Nat.reduceBneDiff, Go.Proofs.Tryz.f49, List.replicate]
    refine callk h1 ?_
    conv => simp (maxSteps := 2000000) (disch := omega) only [go_sem, Nat.reduceAdd, Nat.reduceSub, Nat.reduceMul, Int.reduceToNat, Nat.reduceEqDiff, Nat.reduceBEq, Nat.reduceBneDiff]
    exact ⟨_, rfl, .one (.refl _)⟩
theorem cIntF (n : Int) (hn : inI n) : CallsTo prog 35 [.one (.raw (.int .i64 n))] (.agg (Fc.of (n : Rat)).C) := by
  have h1 := cOf 1 (by decide)
  rw [show sg 1 = 1 from rfl] at h1
  refine CallsTo.run [] Go.Proofs.Tryz.func35 rfl rfl ?_; conv => simp (maxSteps := 2000000) (disch := omega) only [go_sem, Nat.reduceAdd, Nat.reduceSub, Nat.reduceMul, Int.reduceToNat, Nat.reduceEqDiff, Nat.reduceBEq, Nat.reduceBneDiff, Go.Proofs.Tryz.f35, List.replicate]
  refine callk (cOf n hn) ?_
  conv => simp (maxSteps := 2000000) (disch := omega) only [go_sem, Nat.reduceAdd, Nat.reduceSub, Nat.reduceMul, Int.reduceToNat, Nat.reduceEqDiff, Nat.reduceBEq, Nat.reduceBneDiff]
  refine callk h1 ?_
  conv => simp (maxSteps := 2000000) (disch := omega) only [go_sem, Nat.reduceAdd, Nat.reduceSub, Nat.reduceMul, Int.reduceToNat, Nat.reduceEqDiff, Nat.reduceBEq, Nat.reduceBneDiff]
  exact ⟨_, rfl, .one (.refl _)⟩
end Go.Slot.T

/- Plain laws: spans and lists of fractions as data. -/
namespace Go.Slot
open Go Go.RowKit Go.Slot.T
/-- a span as it lies in memory -/
structure Sc where
  low : Fc
  high : Fc
namespace Sc
def C (s : Sc) : List Cell := [.raw (.int .i64 s.low.s), .ints .i64 s.low.L, .raw (.int .i64 s.low.t), .ints .i64 s.low.M, .raw (.int .i64 s.high.s), .ints .i64 s.high.L, .raw (.int .i64 s.high.t), .ints .i64 s.high.M]
theorem C_eq {s : Sc} : s.C = [.raw (.int .i64 s.low.s), .ints .i64 s.low.L, .raw (.int .i64 s.low.t), .ints .i64 s.low.M, .raw (.int .i64 s.high.s), .ints .i64 s.high.L, .raw (.int .i64 s.high.t), .ints .i64 s.high.M] := _root_.id rfl
def ok (s : Sc) : Prop := s.low.ok ∧ s.high.ok ∧ Fc.cmp s.low s.high ≤ 0
instance (s : Sc) : Decidable s.ok := inferInstanceAs (Decidable (_ ∧ _))
def zero : Sc := ⟨Fc.zero, Fc.zero⟩
theorem zero_low : zero.low = Fc.zero := _root_.id rfl
theorem zero_high : zero.high = Fc.zero := _root_.id rfl
theorem mk_low {a b : Fc} : (Sc.mk a b).low = a := _root_.id rfl
theorem mk_high {a b : Fc} : (Sc.mk a b).high = b := _root_.id rfl
def sz (s : Sc) : Nat := max s.low.sz s.high.sz
instance : DecidableEq Sc := fun a b => decidable_of_iff (a.low = b.low ∧ a.high = b.high) ⟨fun h => by cases a; cases b; simp at h; simp [h], fun h => by rw [h]; exact ⟨rfl, rfl⟩⟩
def has (s : Sc) (f : Fc) : Prop := s.ok ∧ f.ok ∧ Fc.cmp s.low f ≤ 0 ∧ Fc.cmp f s.high ≤ 0
instance (s : Sc) (f : Fc) : Decidable (s.has f) := inferInstanceAs (Decidable (_ ∧ _))
def inside (a b : Sc) : Prop := a.ok ∧ b.ok ∧ Fc.cmp b.low a.low ≤ 0 ∧ Fc.cmp a.high b.high ≤ 0
instance (a b : Sc) : Decidable (a.inside b) := inferInstanceAs (Decidable (_ ∧ _))
def width (s : Sc) : Fc := if s.ok then Fc.sub s.high s.low else Fc.zero
def add (a b : Sc) : Sc := if a.ok ∧ b.ok then ⟨Fc.add a.low b.low, Fc.add a.high b.high⟩ else zero
def point (f : Fc) : Sc := if f.ok then ⟨f, f⟩ else zero
/-- the first least one, the first greatest one -/
def least : Fc → List Fc → Fc
  | m, [] => m
  | m, x :: r => least (if Fc.cmp x m < 0 then x else m) r
def great : Fc → List Fc → Fc
  | m, [] => m
  | m, x :: r => great (if Fc.cmp x m > 0 then x else m) r
def around (l : List Fc) : Sc := ⟨least (l.getD 0 Fc.zero) (l.drop 1), great (l.getD 0 Fc.zero) (l.drop 1)⟩
def mul (a b : Sc) : Sc := if a.ok ∧ b.ok then around [Fc.mul a.low b.low, Fc.mul a.low b.high, Fc.mul a.high b.low, Fc.mul a.high b.high] else zero
theorem low_sz {s : Sc} {n : Nat} (h : s.sz ≤ n) : s.low.sz ≤ n ∧ s.high.sz ≤ n := by unfold sz at h; omega
end Sc
theorem rowF {l : List Fc} {i : Nat} (h : i < l.length) : (l.map Fc.C).getD i [] = (l.getD i Fc.zero).C := by
  simp [h]
theorem rowS {l : List Sc} {i : Nat} (h : i < l.length) : (l.map Sc.C).getD i [] = (l.getD i Sc.zero).C := by
  simp [h]
theorem mapF_length {l : List Fc} : (l.map Fc.C).length = l.length := by simp
theorem mapS_length {l : List Sc} : (l.map Sc.C).length = l.length := by simp
attribute [go_sem] Sc.C_eq rowF rowS mapF_length mapS_length Sc.zero_low Sc.zero_high Sc.mk_low Sc.mk_high
/-- the first place of an element that p holds of, from i on -/
def idxF {α : Type} (p : α → Bool) : List α → Int → Int
  | [], _ => -1
  | f :: r, i => if p f = true then i else idxF p r (i + 1)
theorem idxF_any {α : Type} (p : α → Bool) : ∀ (l : List α) (i : Int), 0 ≤ i → decide (0 ≤ idxF p l i) = l.any p
  | [], i, _ => by simp [idxF]
  | f :: r, i, h => by
    unfold idxF
    by_cases hp : p f = true
    · rw [if_pos hp, List.any_cons, hp, decide_eq_true h]; rfl
    · have hp' : p f = false := by simpa using hp
      rw [if_neg hp, idxF_any p r (i + 1) (by omega), List.any_cons, hp', Bool.false_or]
theorem drop_cons {α : Type} {l : List α} {i : Nat} (d : α) (h : i < l.length) : l.drop i = l.getD i d :: l.drop (i + 1) := by
  rw [List.drop_eq_getElem_cons h]; simp [h]
end Go.Slot

/- Plain laws: affine functions as data. -/
namespace Go.Slot
open Go Go.RowKit Go.Slot.T
/-- an affine function as it lies in memory -/
structure Af where
  c : Fc
  l : List Fc
def oks (l : List Fc) : Prop := ∀ f ∈ l, f.ok
instance (l : List Fc) : Decidable (oks l) := inferInstanceAs (Decidable (∀ f ∈ l, f.ok))
theorem oks_cons {f : Fc} {l : List Fc} : oks (f :: l) ↔ f.ok ∧ oks l := ⟨fun h => ⟨h f (by simp), fun g hg => h g (by simp [hg])⟩, fun h g hg => by
  rcases List.mem_cons.1 hg with rfl | hg
  · exact h.1
  · exact h.2 g hg⟩
theorem oks_any : ∀ (l : List Fc), (l.any fun f => !decide f.ok) = !decide (oks l)
  | [] => by simp [oks]
  | f :: l => by
    rw [List.any_cons, oks_any l, decide_eq_decide.2 oks_cons, Bool.decide_and, Bool.not_and]
namespace Af
def C (a : Af) : List Cell := [.raw (.int .i64 a.c.s), .ints .i64 a.c.L, .raw (.int .i64 a.c.t), .ints .i64 a.c.M, .sl 4 (a.l.map Fc.C)]
theorem C_eq {a : Af} : a.C = [.raw (.int .i64 a.c.s), .ints .i64 a.c.L, .raw (.int .i64 a.c.t), .ints .i64 a.c.M, .sl 4 (a.l.map Fc.C)] := _root_.id rfl
theorem mk_c {c : Fc} {l : List Fc} : (Af.mk c l).c = c := _root_.id rfl
theorem mk_l {c : Fc} {l : List Fc} : (Af.mk c l).l = l := _root_.id rfl
def ok (a : Af) (n : Nat) : Prop := a.l.length = n ∧ a.c.ok ∧ oks a.l
instance (a : Af) (n : Nat) : Decidable (a.ok n) := inferInstanceAs (Decidable (_ ∧ _))
def zero : Af := ⟨Fc.zero, []⟩
/-- no part is greater than so much -/
def le (a : Af) (n : Nat) : Prop := a.c.sz ≤ n ∧ ∀ f ∈ a.l, f.sz ≤ n
def sum : Fc → List Fc → List Fc → Fc
  | s, c :: cs, v :: vs => sum (Fc.add s (Fc.mul c v)) cs vs
  | s, _, _ => s
/-- a copy -/
def copy (f : Fc) : Fc := Fc.add f (Fc.of 0)
def at' (a : Af) (v : List Fc) : Fc := if a.ok v.length ∧ oks v then sum (copy a.c) a.l v else Fc.zero
def each (op : Fc → Fc → Fc) (a b : Af) : Af := ⟨op a.c b.c, List.zipWith op a.l b.l⟩
def plus (a b : Af) : Af := if a.ok a.l.length ∧ b.ok a.l.length then each Fc.add a b else zero
def times (a : Af) (f : Fc) : Af := if a.ok a.l.length ∧ f.ok then each (fun x _ => Fc.mul x f) a a else zero
end Af
attribute [go_sem] Af.C_eq Af.mk_c Af.mk_l
end Go.Slot

/- The joint, third part: fractions, spans, functions out of readings. -/
namespace Go.Slot
open Go Go.RowKit
def spF : List Sp := [.int .i64, .ints .i64, .int .i64, .ints .i64]
def spS : List Sp := [.int .i64, .ints .i64, .int .i64, .ints .i64, .int .i64, .ints .i64, .int .i64, .ints .i64]
def spA : List Sp := [.int .i64, .ints .i64, .int .i64, .ints .i64, .sl spF]
theorem fit_int {N : Nat} {k : IntKind} {c : Cell} (h : Fit N (.int k) c) : ∃ n, c = .raw (.int k n) ∧ k.min ≤ n ∧ n ≤ k.max := by
  cases h with
  | int h => exact ⟨_, rfl, h⟩
theorem fit_ints {N : Nat} {k : IntKind} {c : Cell} (h : Fit N (.ints k) c) : ∃ L, c = .ints k L ∧ L.length ≤ N := by
  cases h with
  | ints hl h => exact ⟨_, rfl, hl⟩
theorem fitF {N : Nat} {cs : List Cell} (h : FitL N spF cs) : ∃ f : Fc, cs = f.C ∧ f.sz ≤ N := by
  obtain ⟨c1, r1, rfl, h1, h⟩ := h.cons
  obtain ⟨c2, r2, rfl, h2, h⟩ := h.cons
  obtain ⟨c3, r3, rfl, h3, h⟩ := h.cons
  obtain ⟨c4, r4, rfl, h4, h⟩ := h.cons
  obtain rfl := h.nil
  obtain ⟨s, rfl, _⟩ := fit_int h1
  obtain ⟨L, rfl, l1⟩ := fit_ints h2
  obtain ⟨t, rfl, _⟩ := fit_int h3
  obtain ⟨M, rfl, l2⟩ := fit_ints h4
  exact ⟨⟨s, L, t, M⟩, rfl, by show max _ _ ≤ _; dsimp only; omega⟩
theorem fitS {N : Nat} {cs : List Cell} (h : FitL N spS cs) : ∃ s : Sc, cs = s.C ∧ s.sz ≤ N := by
  obtain ⟨c1, r1, rfl, h1, h⟩ := h.cons
  obtain ⟨c2, r2, rfl, h2, h⟩ := h.cons
  obtain ⟨c3, r3, rfl, h3, h⟩ := h.cons
  obtain ⟨c4, r4, rfl, h4, h⟩ := h.cons
  obtain ⟨c5, r5, rfl, h5, h⟩ := h.cons
  obtain ⟨c6, r6, rfl, h6, h⟩ := h.cons
  obtain ⟨c7, r7, rfl, h7, h⟩ := h.cons
  obtain ⟨c8, r8, rfl, h8, h⟩ := h.cons
  obtain rfl := h.nil
  obtain ⟨s, rfl, _⟩ := fit_int h1
  obtain ⟨L, rfl, l1⟩ := fit_ints h2
  obtain ⟨t, rfl, _⟩ := fit_int h3
  obtain ⟨M, rfl, l2⟩ := fit_ints h4
  obtain ⟨s', rfl, _⟩ := fit_int h5
  obtain ⟨L', rfl, l3⟩ := fit_ints h6
  obtain ⟨t', rfl, _⟩ := fit_int h7
  obtain ⟨M', rfl, l4⟩ := fit_ints h8
  exact ⟨⟨⟨s, L, t, M⟩, ⟨s', L', t', M'⟩⟩, rfl, by show max (max _ _) (max _ _) ≤ _; dsimp only; omega⟩
theorem fit_rows {α : Type} {N : Nat} {l : List Sp} {C : α → List Cell} {Q : α → Prop} (h : ∀ r, FitL N l r → ∃ x, r = C x ∧ Q x) {c : Cell} (hc : Fit N (.sl l) c) :
    ∃ xs : List α, c = .sl l.length (xs.map C) ∧ xs.length ≤ N ∧ ∀ x ∈ xs, Q x := by
  cases hc with
  | @sl _ rows hl hlen hr =>
    have : ∀ rows : List (List Cell), (∀ r ∈ rows, FitL N l r) → ∃ xs : List α, rows = xs.map C ∧ ∀ x ∈ xs, Q x := by
      intro rows
      induction rows with
      | nil => intro _; exact ⟨[], rfl, fun x hx => by cases hx⟩
      | cons r rows ih =>
        intro hh
        obtain ⟨x, hx, hq⟩ := h r (hh r (by simp))
        obtain ⟨xs, hxs, hqs⟩ := ih (fun r' hr' => hh r' (by simp [hr']))
        exact ⟨x :: xs, by rw [hx, hxs]; rfl, fun y hy => by
          rcases List.mem_cons.1 hy with rfl | hy
          · exact hq
          · exact hqs y hy⟩
    obtain ⟨xs, rfl, hq⟩ := this rows (fun r hr' => ⟨hlen r hr', hr r hr'⟩)
    exact ⟨xs, rfl, by simpa using hl, hq⟩
theorem fitFs {N : Nat} {c : Cell} (h : Fit N (.sl spF) c) : ∃ l : List Fc, c = .sl 4 (l.map Fc.C) ∧ l.length ≤ N ∧ ∀ f ∈ l, f.sz ≤ N := fit_rows (C := Fc.C) (Q := fun f => f.sz ≤ N) (fun _ h => fitF h) h
theorem fitSs {N : Nat} {c : Cell} (h : Fit N (.sl spS) c) : ∃ l : List Sc, c = .sl 8 (l.map Sc.C) ∧ l.length ≤ N ∧ ∀ s ∈ l, s.sz ≤ N := fit_rows (C := Sc.C) (Q := fun s => s.sz ≤ N) (fun _ h => fitS h) h
theorem fitA {N : Nat} {cs : List Cell} (h : FitL N spA cs) : ∃ a : Af, cs = a.C ∧ a.l.length ≤ N ∧ a.le N := by
  obtain ⟨c1, r1, rfl, h1, h⟩ := h.cons
  obtain ⟨c2, r2, rfl, h2, h⟩ := h.cons
  obtain ⟨c3, r3, rfl, h3, h⟩ := h.cons
  obtain ⟨c4, r4, rfl, h4, h⟩ := h.cons
  obtain ⟨c5, r5, rfl, h5, h⟩ := h.cons
  obtain rfl := h.nil
  obtain ⟨s, rfl, _⟩ := fit_int h1
  obtain ⟨L, rfl, l1⟩ := fit_ints h2
  obtain ⟨t, rfl, _⟩ := fit_int h3
  obtain ⟨M, rfl, l2⟩ := fit_ints h4
  obtain ⟨l, rfl, l3, l4⟩ := fitFs h5
  exact ⟨⟨⟨s, L, t, M⟩, l⟩, rfl, l3, by show max _ _ ≤ _; dsimp only; omega, l4⟩
end Go.Slot

/- What the bound of the second form gives. -/
namespace Go.Proofs.YtieohkidmjglgaaGreat
open Go Go.Slot
theorem bulk_one {H : Type} (d : DataW H) : 1 ≤ Rows.uptoBulk d := by
  cases d with
  | lit l => cases l <;> simp [Rows.uptoBulk]
  | nil => simp [Rows.uptoBulk]
  | ptr d => simp [Rows.uptoBulk]
  | slice elems spare => simp [Rows.uptoBulk]
  | agg parts => simp [Rows.uptoBulk]
  | iface t d => simp [Rows.uptoBulk]
  | map entries => simp [Rows.uptoBulk]
  | held h => simp [Rows.uptoBulk]
theorem bulk_part {H : Type} {d : DataW H} {l : List (DataW H)} (h : d ∈ l) : Rows.uptoBulk d ≤ Rows.uptoBulkAll l := by
  induction l with
  | nil => cases h
  | cons x r ih =>
    simp only [Rows.uptoBulkAll]
    cases List.mem_cons.1 h with
    | inl e => subst e; omega
    | inr e => have := ih e; omega
theorem bulk_len {H : Type} (l : List (DataW H)) : l.length ≤ Rows.uptoBulkAll l := by
  induction l with
  | nil => simp [Rows.uptoBulkAll]
  | cons x r ih => have := bulk_one x; simp only [Rows.uptoBulkAll, List.length_cons]; omega
theorem bulk {H : Type} : Bulk (H := H) Rows.uptoBulk where
  str b := by simp [Rows.uptoBulk]
  elems l r := by
    have := bulk_len l
    simp only [Rows.uptoBulk]; omega
  elem l r d h := by
    have := bulk_part h
    simp only [Rows.uptoBulk]; omega
  part l d h := by
    have := bulk_part h
    simp only [Rows.uptoBulk]; omega
set_option maxRecDepth 10000 in
theorem bulk_bound {H : Type} {l : List (DataW H)} (hk : Rows.uptoSmall H l = true) : ∀ d ∈ l, Rows.uptoBulk d ≤ 1048576 := fun d hd => by
  have h := bulk_part hd
  have h2 : Rows.uptoBulkAll l ≤ 1048576 := of_decide_eq_true hk
  omega
end Go.Proofs.YtieohkidmjglgaaGreat

/- Contracts of package span; slices.IndexFunc, ContainsFunc, MinFunc, MaxFunc over fractions and spans. -/
namespace Go.Slot.T
open Go Go.RowKit Go.Slot
open Go.Proofs.Tryz (prog)
set_option maxRecDepth 10000
set_option maxHeartbeats 4000000

theorem cRightT (f : Fc) (h : f.sz ≤ 268435456) (hb : f.ok) : CallsTo prog 45 [.agg f.C] (.one (.raw (.bool true))) := by
  have := cRightF f h
  rwa [decide_eq_true hb] at this
theorem cIndexFr (g : FuncId) (p : Fc → Bool) (l : List Fc) (hl : l.length ≤ 1099511627776) (hg : ∀ i, i < l.length → CallsTo prog g [.agg (l.getD i Fc.zero).C] (.one (.raw (.bool (p (l.getD i Fc.zero)))))) :
    CallsTo prog 88 [.one (.sl 4 (l.map Fc.C)), .one (.raw (.func (.func g) #[] #[]))] (.one (.raw (.int .i64 (idxF p l 0)))) := by
  refine CallsTo.run [] Go.Proofs.Tryz.func88 rfl rfl ?_; conv => simp (maxSteps := 2000000) (disch := omega) only [go_sem, Nat.reduceAdd, Nat.reduceSub, Nat.reduceMul, Int.reduceToNat, Nat.reduceEqDiff, Nat.reduceBEq, Nat.reduceBneDiff, Go.Proofs.Tryz.f88, List.replicate]
  refine loopo [0, 1, 7] (fun i : Nat => [(8, .one (.raw (.int .i64 i)))]) (fun i => i ≤ l.length ∧ idxF p l 0 = idxF p (l.drop i) i) (fun i => l.length - i) 0 ⟨Nat.zero_le _, rfl⟩ ?_ ?_
  · conv => simp (maxSteps := 2000000) (disch := omega) only [go_sem, Nat.reduceAdd, Nat.reduceSub, Nat.reduceMul, Int.reduceToNat, Nat.reduceEqDiff, Nat.reduceBEq, Nat.reduceBneDiff]
    exact StLe.weaken (by repeat' first | exact .nil | refine .cons (by first | exact .refl _ | exact .any _) ?_) rfl
  rintro i ⟨hi, he⟩
  conv => simp (maxSteps := 2000000) (disch := omega) only [go_sem, Nat.reduceAdd, Nat.reduceSub, Nat.reduceMul, Int.reduceToNat, Nat.reduceEqDiff, Nat.reduceBEq, Nat.reduceBneDiff]
  refine condd (fun h => ?_) (fun h => ?_)
  · have hd := drop_cons (l := l) Fc.zero (show i < l.length by omega)
    rw [hd] at he
    conv => simp (maxSteps := 2000000) (disch := omega) only [go_sem, Nat.reduceAdd, Nat.reduceSub, Nat.reduceMul, Int.reduceToNat, Nat.reduceEqDiff, Nat.reduceBEq, Nat.reduceBneDiff]
    refine callk (hg i (by omega)) ?_
    conv => simp (maxSteps := 2000000) (disch := omega) only [go_sem, Nat.reduceAdd, Nat.reduceSub, Nat.reduceMul, Int.reduceToNat, Nat.reduceEqDiff, Nat.reduceBEq, Nat.reduceBneDiff]
    refine condk (fun h1 => ?_) (fun h1 => ?_)
    · conv => simp (maxSteps := 2000000) (disch := omega) only [go_sem, Nat.reduceAdd, Nat.reduceSub, Nat.reduceMul, Int.reduceToNat, Nat.reduceEqDiff, Nat.reduceBEq, Nat.reduceBneDiff]
      refine ⟨_, rfl, ?_⟩
      rw [he]
      unfold idxF
      rw [if_pos h1]
      exact .one (.refl _)
    · conv => simp (maxSteps := 2000000) (disch := omega) only [go_sem, Nat.reduceAdd, Nat.reduceSub, Nat.reduceMul, Int.reduceToNat, Nat.reduceEqDiff, Nat.reduceBEq, Nat.reduceBneDiff]
      refine ⟨i + 1, ⟨by omega, ?_⟩, by omega, StLe.weaken (by repeat' first | exact .nil | refine .cons (by first | exact .refl _ | exact .any _) ?_) rfl⟩
      rw [he]
      conv => lhs; unfold idxF
      rw [if_neg (show ¬ p (l.getD i Fc.zero) = true by rw [h1]; decide)]
      rfl
  · have hi' : i = l.length := by omega
    rw [hi', List.drop_length] at he
    conv => simp (maxSteps := 2000000) (disch := omega) only [go_sem, Nat.reduceAdd, Nat.reduceSub, Nat.reduceMul, Int.reduceToNat, Nat.reduceEqDiff, Nat.reduceBEq, Nat.reduceBneDiff]
    exact ⟨_, rfl, by rw [he]; exact .one (.refl _)⟩
theorem cContainsFr (g : FuncId) (p : Fc → Bool) (l : List Fc) (hl : l.length ≤ 1099511627776) (hg : ∀ i, i < l.length → CallsTo prog g [.agg (l.getD i Fc.zero).C] (.one (.raw (.bool (p (l.getD i Fc.zero)))))) :
    CallsTo prog 47 [.one (.sl 4 (l.map Fc.C)), .one (.raw (.func (.func g) #[] #[]))] (.one (.raw (.bool (l.any p)))) := by
  rw [← idxF_any p l 0 (by decide)]
  refine CallsTo.run [] Go.Proofs.Tryz.func47 rfl rfl ?_; conv => simp (maxSteps := 2000000) (disch := omega) only [go_sem, Nat.reduceAdd, Nat.reduceSub, Nat.reduceMul, Int.reduceToNat, Nat.reduceEqDiff, Nat.reduceBEq, Nat.reduceBneDiff, Go.Proofs.Tryz.f47, List.replicate]
  refine callk (cIndexFr g p l hl hg) ?_
  conv => simp (maxSteps := 2000000) (disch := omega) only [go_sem, Nat.reduceAdd, Nat.reduceSub, Nat.reduceMul, Int.reduceToNat, Nat.reduceEqDiff, Nat.reduceBEq, Nat.reduceBneDiff]
  exact ⟨_, rfl, .one (.refl _)⟩
theorem cIndexSp (g : FuncId) (p : Sc → Bool) (l : List Sc) (hl : l.length ≤ 1099511627776) (hg : ∀ i, i < l.length → CallsTo prog g [.agg (l.getD i Sc.zero).C] (.one (.raw (.bool (p (l.getD i Sc.zero)))))) :
    CallsTo prog 113 [.one (.sl 8 (l.map Sc.C)), .one (.raw (.func (.func g) #[] #[]))] (.one (.raw (.int .i64 (idxF p l 0)))) := by
  refine CallsTo.run [] Go.Proofs.Tryz.func113 rfl rfl ?_; conv => simp (maxSteps := 2000000) (disch := omega) only [go_sem, Nat.reduceAdd, Nat.reduceSub, Nat.reduceMul, Int.reduceToNat, Nat.reduceEqDiff, Nat.reduceBEq, Nat.reduceBneDiff, Go.Proofs.Tryz.f113, List.replicate]
  refine loopo [0, 1, 7] (fun i : Nat => [(8, .one (.raw (.int .i64 i)))]) (fun i => i ≤ l.length ∧ idxF p l 0 = idxF p (l.drop i) i) (fun i => l.length - i) 0 ⟨Nat.zero_le _, rfl⟩ ?_ ?_
  · conv => simp (maxSteps := 2000000) (disch := omega) only [go_sem, Nat.reduceAdd, Nat.reduceSub, Nat.reduceMul, Int.reduceToNat, Nat.reduceEqDiff, Nat.reduceBEq, Nat.reduceBneDiff]
    exact StLe.weaken (by repeat' first | exact .nil | refine .cons (by first | exact .refl _ | exact .any _) ?_) rfl
  rintro i ⟨hi, he⟩
  conv => simp (maxSteps := 2000000) (disch := omega) only [go_sem, Nat.reduceAdd, Nat.reduceSub, Nat.reduceMul, Int.reduceToNat, Nat.reduceEqDiff, Nat.reduceBEq, Nat.reduceBneDiff]
  refine condd (fun h => ?_) (fun h => ?_)
  · have hd := drop_cons (l := l) Sc.zero (show i < l.length by omega)
    rw [hd] at he
    conv => simp (maxSteps := 2000000) (disch := omega) only [go_sem, Nat.reduceAdd, Nat.reduceSub, Nat.reduceMul, Int.reduceToNat, Nat.reduceEqDiff, Nat.reduceBEq, Nat.reduceBneDiff]
    refine callk (hg i (by omega)) ?_
    conv => simp (maxSteps := 2000000) (disch := omega) only [go_sem, Nat.reduceAdd, Nat.reduceSub, Nat.reduceMul, Int.reduceToNat, Nat.reduceEqDiff, Nat.reduceBEq, Nat.reduceBneDiff]
    refine condk (fun h1 => ?_) (fun h1 => ?_)
    · conv => simp (maxSteps := 2000000) (disch := omega) only [go_sem, Nat.reduceAdd, Nat.reduceSub, Nat.reduceMul, Int.reduceToNat, Nat.reduceEqDiff, Nat.reduceBEq, Nat.reduceBneDiff]
      refine ⟨_, rfl, ?_⟩
      rw [he]
      unfold idxF
      rw [if_pos h1]
      exact .one (.refl _)
    · conv => simp (maxSteps := 2000000) (disch := omega) only [go_sem, Nat.reduceAdd, Nat.reduceSub, Nat.reduceMul, Int.reduceToNat, Nat.reduceEqDiff, Nat.reduceBEq, Nat.reduceBneDiff]
      refine ⟨i + 1, ⟨by omega, ?_⟩, by omega, StLe.weaken (by repeat' first | exact .nil | refine .cons (by first | exact .refl _ | exact .any _) ?_) rfl⟩
      rw [he]
      conv => lhs; unfold idxF
      rw [if_neg (show ¬ p (l.getD i Sc.zero) = true by rw [h1]; decide)]
      rfl
  · have hi' : i = l.length := by omega
    rw [hi', List.drop_length] at he
    conv => simp (maxSteps := 2000000) (disch := omega) only [go_sem, Nat.reduceAdd, Nat.reduceSub, Nat.reduceMul, Int.reduceToNat, Nat.reduceEqDiff, Nat.reduceBEq, Nat.reduceBneDiff]
    exact ⟨_, rfl, by rw [he]; exact .one (.refl _)⟩
theorem cContainsSp (g : FuncId) (p : Sc → Bool) (l : List Sc) (hl : l.length ≤ 1099511627776) (hg : ∀ i, i < l.length → CallsTo prog g [.agg (l.getD i Sc.zero).C] (.one (.raw (.bool (p (l.getD i Sc.zero)))))) :
    CallsTo prog 67 [.one (.sl 8 (l.map Sc.C)), .one (.raw (.func (.func g) #[] #[]))] (.one (.raw (.bool (l.any p)))) := by
  rw [← idxF_any p l 0 (by decide)]
  refine CallsTo.run [] Go.Proofs.Tryz.func67 rfl rfl ?_; conv => simp (maxSteps := 2000000) (disch := omega) only [go_sem, Nat.reduceAdd, Nat.reduceSub, Nat.reduceMul, Int.reduceToNat, Nat.reduceEqDiff, Nat.reduceBEq, Nat.reduceBneDiff, Go.Proofs.Tryz.f67, List.replicate]
  refine callk (cIndexSp g p l hl hg) ?_
  conv => simp (maxSteps := 2000000) (disch := omega) only [go_sem, Nat.reduceAdd, Nat.reduceSub, Nat.reduceMul, Int.reduceToNat, Nat.reduceEqDiff, Nat.reduceBEq, Nat.reduceBneDiff]
  exact ⟨_, rfl, .one (.refl _)⟩
theorem cMinFr (l : List Fc) (h0 : 0 < l.length) (hl : l.length ≤ 1048576) (hs : ∀ f ∈ l, f.sz ≤ 67108864) :
    CallsTo prog 214 [.one (.sl 4 (l.map Fc.C)), .one (.raw (.func (.func 40) #[] #[]))] (.agg (Sc.least (l.getD 0 Fc.zero) (l.drop 1)).C) := by
  have hmem : ∀ i, i < l.length → (l.getD i Fc.zero).sz ≤ 67108864 := fun i hi => hs _ (by simp [hi])
  refine CallsTo.run [] Go.Proofs.Tryz.func214 rfl rfl ?_; conv => simp (maxSteps := 2000000) (disch := omega) only [go_sem, Nat.reduceAdd, Nat.reduceSub, Nat.reduceMul, Int.reduceToNat, Nat.reduceEqDiff, Nat.reduceBEq, Nat.reduceBneDiff, Go.Proofs.Tryz.f214, List.replicate]
  refine condd (fun h => absurd h (by omega)) (fun _ => ?_)
  conv => simp (maxSteps := 2000000) (disch := omega) only [go_sem, Nat.reduceAdd, Nat.reduceSub, Nat.reduceMul, Int.reduceToNat, Nat.reduceEqDiff, Nat.reduceBEq, Nat.reduceBneDiff]
  refine loopo [0, 1] (fun x : Nat × Fc => [(5, .box x.2.C), (6, .one (.raw (.int .i64 x.1)))]) (fun x => x.1 ≤ l.length ∧ 1 ≤ x.1 ∧ x.2.sz ≤ 67108864 ∧ Sc.least (l.getD 0 Fc.zero) (l.drop 1) = Sc.least x.2 (l.drop x.1)) (fun x => l.length - x.1) (1, l.getD 0 Fc.zero) ⟨h0, Nat.le_refl _, hmem 0 h0, rfl⟩ ?_ ?_
  · conv => simp (maxSteps := 2000000) (disch := omega) only [go_sem, Nat.reduceAdd, Nat.reduceSub, Nat.reduceMul, Int.reduceToNat, Nat.reduceEqDiff, Nat.reduceBEq, Nat.reduceBneDiff]
    exact StLe.weaken (by repeat' first | exact .nil | refine .cons (by first | exact .refl _ | exact .any _) ?_) rfl
  rintro ⟨i, m⟩ ⟨hi, hi1, hm, he⟩
  simp only at hi hi1 hm he
  conv => simp (maxSteps := 2000000) (disch := omega) only [go_sem, Nat.reduceAdd, Nat.reduceSub, Nat.reduceMul, Int.reduceToNat, Nat.reduceEqDiff, Nat.reduceBEq, Nat.reduceBneDiff]
  refine condd (fun h => ?_) (fun h => ?_)
  · rw [drop_cons Fc.zero (show i < l.length by omega)] at he
    conv => simp (maxSteps := 2000000) (disch := omega) only [go_sem, Nat.reduceAdd, Nat.reduceSub, Nat.reduceMul, Int.reduceToNat, Nat.reduceEqDiff, Nat.reduceBEq, Nat.reduceBneDiff]
    refine callk (cCmpF (l.getD i Fc.zero) m (hmem i (by omega)) hm) ?_
    conv => simp (maxSteps := 2000000) (disch := omega) only [go_sem, Nat.reduceAdd, Nat.reduceSub, Nat.reduceMul, Int.reduceToNat, Nat.reduceEqDiff, Nat.reduceBEq, Nat.reduceBneDiff]
    refine indk (by kernel_rfl) ?_
    conv => simp (maxSteps := 2000000) (disch := omega) only [go_sem, Nat.reduceAdd, Nat.reduceSub, Nat.reduceMul, Int.reduceToNat, Nat.reduceEqDiff, Nat.reduceBEq, Nat.reduceBneDiff]
    refine condd (fun h1 => ?_) (fun h1 => ?_)
    · conv => simp (maxSteps := 2000000) (disch := omega) only [go_sem, Nat.reduceAdd, Nat.reduceSub, Nat.reduceMul, Int.reduceToNat, Nat.reduceEqDiff, Nat.reduceBEq, Nat.reduceBneDiff]
      refine ⟨(i + 1, l.getD i Fc.zero), ⟨by dsimp only; omega, by dsimp only; omega, hmem i (by omega), ?_⟩, by dsimp only; omega, StLe.weaken (by repeat' first | exact .nil | refine .cons (by first | exact .refl _ | exact .any _) ?_) rfl⟩
      rw [he]; conv => lhs; unfold Sc.least
      rw [if_pos h1]
    · conv => simp (maxSteps := 2000000) (disch := omega) only [go_sem, Nat.reduceAdd, Nat.reduceSub, Nat.reduceMul, Int.reduceToNat, Nat.reduceEqDiff, Nat.reduceBEq, Nat.reduceBneDiff]
      refine ⟨(i + 1, m), ⟨by dsimp only; omega, by dsimp only; omega, hm, ?_⟩, by dsimp only; omega, StLe.weaken (by repeat' first | exact .nil | refine .cons (by first | exact .refl _ | exact .any _) ?_) rfl⟩
      rw [he]; conv => lhs; unfold Sc.least
      rw [if_neg h1]
  · have hi' : i = l.length := by omega
    rw [hi', List.drop_length] at he
    conv => simp (maxSteps := 2000000) (disch := omega) only [go_sem, Nat.reduceAdd, Nat.reduceSub, Nat.reduceMul, Int.reduceToNat, Nat.reduceEqDiff, Nat.reduceBEq, Nat.reduceBneDiff]
    exact ⟨_, rfl, by rw [he]; exact .one (.refl _)⟩
theorem cMaxFr (l : List Fc) (h0 : 0 < l.length) (hl : l.length ≤ 1048576) (hs : ∀ f ∈ l, f.sz ≤ 67108864) :
    CallsTo prog 215 [.one (.sl 4 (l.map Fc.C)), .one (.raw (.func (.func 40) #[] #[]))] (.agg (Sc.great (l.getD 0 Fc.zero) (l.drop 1)).C) := by
  have hmem : ∀ i, i < l.length → (l.getD i Fc.zero).sz ≤ 67108864 := fun i hi => hs _ (by simp [hi])
  refine CallsTo.run [] Go.Proofs.Tryz.func215 rfl rfl ?_; conv => simp (maxSteps := 2000000) (disch := omega) only [go_sem, Nat.reduceAdd, Nat.reduceSub, Nat.reduceMul, Int.reduceToNat, Nat.reduceEqDiff, Nat.reduceBEq, Nat.reduceBneDiff, Go.Proofs.Tryz.f215, List.replicate]
  refine condd (fun h => absurd h (by omega)) (fun _ => ?_)
  conv => simp (maxSteps := 2000000) (disch := omega) only [go_sem, Nat.reduceAdd, Nat.reduceSub, Nat.reduceMul, Int.reduceToNat, Nat.reduceEqDiff, Nat.reduceBEq, Nat.reduceBneDiff]
  refine loopo [0, 1] (fun x : Nat × Fc => [(5, .box x.2.C), (6, .one (.raw (.int .i64 x.1)))]) (fun x => x.1 ≤ l.length ∧ 1 ≤ x.1 ∧ x.2.sz ≤ 67108864 ∧ Sc.great (l.getD 0 Fc.zero) (l.drop 1) = Sc.great x.2 (l.drop x.1)) (fun x => l.length - x.1) (1, l.getD 0 Fc.zero) ⟨h0, Nat.le_refl _, hmem 0 h0, rfl⟩ ?_ ?_
  · conv => simp (maxSteps := 2000000) (disch := omega) only [go_sem, Nat.reduceAdd, Nat.reduceSub, Nat.reduceMul, Int.reduceToNat, Nat.reduceEqDiff, Nat.reduceBEq, Nat.reduceBneDiff]
    exact StLe.weaken (by repeat' first | exact .nil | refine .cons (by first | exact .refl _ | exact .any _) ?_) rfl
  rintro ⟨i, m⟩ ⟨hi, hi1, hm, he⟩
  simp only at hi hi1 hm he
  conv => simp (maxSteps := 2000000) (disch := omega) only [go_sem, Nat.reduceAdd, Nat.reduceSub, Nat.reduceMul, Int.reduceToNat, Nat.reduceEqDiff, Nat.reduceBEq, Nat.reduceBneDiff]
  refine condd (fun h => ?_) (fun h => ?_)
  · rw [drop_cons Fc.zero (show i < l.length by omega)] at he
    conv => simp (maxSteps := 2000000) (disch := omega) only [go_sem, Nat.reduceAdd, Nat.reduceSub, Nat.reduceMul, Int.reduceToNat, Nat.reduceEqDiff, Nat.reduceBEq, Nat.reduceBneDiff]
    refine callk (cCmpF (l.getD i Fc.zero) m (hmem i (by omega)) hm) ?_
    conv => simp (maxSteps := 2000000) (disch := omega) only [go_sem, Nat.reduceAdd, Nat.reduceSub, Nat.reduceMul, Int.reduceToNat, Nat.reduceEqDiff, Nat.reduceBEq, Nat.reduceBneDiff]
    refine indk (by kernel_rfl) ?_
    conv => simp (maxSteps := 2000000) (disch := omega) only [go_sem, Nat.reduceAdd, Nat.reduceSub, Nat.reduceMul, Int.reduceToNat, Nat.reduceEqDiff, Nat.reduceBEq, Nat.reduceBneDiff]
    refine condd (fun h1 => ?_) (fun h1 => ?_)
    · conv => simp (maxSteps := 2000000) (disch := omega) only [go_sem, Nat.reduceAdd, Nat.reduceSub, Nat.reduceMul, Int.reduceToNat, Nat.reduceEqDiff, Nat.reduceBEq, Nat.reduceBneDiff]
      refine ⟨(i + 1, l.getD i Fc.zero), ⟨by dsimp only; omega, by dsimp only; omega, hmem i (by omega), ?_⟩, by dsimp only; omega, StLe.weaken (by repeat' first | exact .nil | refine .cons (by first | exact .refl _ | exact .any _) ?_) rfl⟩
      rw [he]; conv => lhs; unfold Sc.great
      rw [if_pos h1]
    · conv => simp (maxSteps := 2000000) (disch := omega) only [go_sem, Nat.reduceAdd, Nat.reduceSub, Nat.reduceMul, Int.reduceToNat, Nat.reduceEqDiff, Nat.reduceBEq, Nat.reduceBneDiff]
      refine ⟨(i + 1, m), ⟨by dsimp only; omega, by dsimp only; omega, hm, ?_⟩, by dsimp only; omega, StLe.weaken (by repeat' first | exact .nil | refine .cons (by first | exact .refl _ | exact .any _) ?_) rfl⟩
      rw [he]; conv => lhs; unfold Sc.great
      rw [if_neg h1]
  · have hi' : i = l.length := by omega
    rw [hi', List.drop_length] at he
    conv => simp (maxSteps := 2000000) (disch := omega) only [go_sem, Nat.reduceAdd, Nat.reduceSub, Nat.reduceMul, Int.reduceToNat, Nat.reduceEqDiff, Nat.reduceBEq, Nat.reduceBneDiff]
    exact ⟨_, rfl, by rw [he]; exact .one (.refl _)⟩
theorem zeroS : AV.Le (.agg [.raw (.int .i64 0), .zc, .raw (.int .i64 0), .zc, .raw (.int .i64 0), .zc, .raw (.int .i64 0), .zc]) (.agg Sc.zero.C) :=
  .agg (.cons (.refl _) (.cons (.zcInts _) (.cons (.refl _) (.cons (.zcInts _) (.cons (.refl _) (.cons (.zcInts _) (.cons (.refl _) (.cons (.zcInts _) .nil))))))))
theorem cSpanRight (s : Sc) (h : s.sz ≤ 67108864) : CallsTo prog 64 [.agg s.C] (.one (.raw (.bool (decide s.ok)))) := by
  have ⟨hl, hh⟩ := Sc.low_sz h
  by_cases h1 : s.low.ok
  · by_cases h2 : s.high.ok
    · rw [show decide s.ok = decide (Fc.cmp s.low s.high ≤ 0) from decide_eq_decide.2 ⟨fun h => h.2.2, fun h => ⟨h1, h2, h⟩⟩]
      refine CallsTo.run [] Go.Proofs.Tryz.func64 rfl rfl ?_; conv => simp (maxSteps := 2000000) (disch := omega) only [go_sem, Nat.reduceAdd, Nat.reduceSub, Nat.reduceMul, Int.reduceToNat, Nat.reduceEqDiff, Nat.reduceBEq, Nat.reduceBneDiff, Go.Proofs.Tryz.f64, List.replicate]
      refine callk (cRightT s.low (by omega) h1) ?_
      conv => simp (maxSteps := 2000000) (disch := omega) only [go_sem, Nat.reduceAdd, Nat.reduceSub, Nat.reduceMul, Int.reduceToNat, Nat.reduceEqDiff, Nat.reduceBEq, Nat.reduceBneDiff]
      refine callk (cRightT s.high (by omega) h2) ?_
      conv => simp (maxSteps := 2000000) (disch := omega) only [go_sem, Nat.reduceAdd, Nat.reduceSub, Nat.reduceMul, Int.reduceToNat, Nat.reduceEqDiff, Nat.reduceBEq, Nat.reduceBneDiff]
      refine callk (cCmpF s.low s.high hl hh) ?_
      conv => simp (maxSteps := 2000000) (disch := omega) only [go_sem, Nat.reduceAdd, Nat.reduceSub, Nat.reduceMul, Int.reduceToNat, Nat.reduceEqDiff, Nat.reduceBEq, Nat.reduceBneDiff]
      exact ⟨_, rfl, .one (.refl _)⟩
    · rw [decide_eq_false (fun h => h2 h.2.1)]
      refine CallsTo.run [] Go.Proofs.Tryz.func64 rfl rfl ?_; conv => simp (maxSteps := 2000000) (disch := omega) only [go_sem, Nat.reduceAdd, Nat.reduceSub, Nat.reduceMul, Int.reduceToNat, Nat.reduceEqDiff, Nat.reduceBEq, Nat.reduceBneDiff, Go.Proofs.Tryz.f64, List.replicate]
      refine callk (cRightT s.low (by omega) h1) ?_
      conv => simp (maxSteps := 2000000) (disch := omega) only [go_sem, Nat.reduceAdd, Nat.reduceSub, Nat.reduceMul, Int.reduceToNat, Nat.reduceEqDiff, Nat.reduceBEq, Nat.reduceBneDiff]
      refine callk (cRightBad s.high (by omega) h2) ?_
      conv => simp (maxSteps := 2000000) (disch := omega) only [go_sem, Nat.reduceAdd, Nat.reduceSub, Nat.reduceMul, Int.reduceToNat, Nat.reduceEqDiff, Nat.reduceBEq, Nat.reduceBneDiff]
      exact ⟨_, rfl, .one (.refl _)⟩
  · rw [decide_eq_false (fun h => h1 h.1)]
    refine CallsTo.run [] Go.Proofs.Tryz.func64 rfl rfl ?_; conv => simp (maxSteps := 2000000) (disch := omega) only [go_sem, Nat.reduceAdd, Nat.reduceSub, Nat.reduceMul, Int.reduceToNat, Nat.reduceEqDiff, Nat.reduceBEq, Nat.reduceBneDiff, Go.Proofs.Tryz.f64, List.replicate]
    refine callk (cRightBad s.low (by omega) h1) ?_
    conv => simp (maxSteps := 2000000) (disch := omega) only [go_sem, Nat.reduceAdd, Nat.reduceSub, Nat.reduceMul, Int.reduceToNat, Nat.reduceEqDiff, Nat.reduceBEq, Nat.reduceBneDiff]
    exact ⟨_, rfl, .one (.refl _)⟩
theorem cSpanT (s : Sc) (h : s.sz ≤ 67108864) (hb : s.ok) : CallsTo prog 64 [.agg s.C] (.one (.raw (.bool true))) := by
  have := cSpanRight s h
  rwa [decide_eq_true hb] at this
theorem cSpanN (s : Sc) (h : s.sz ≤ 67108864) (hb : ¬ s.ok) : CallsTo prog 64 [.agg s.C] (.one (.raw (.bool false))) := by
  have := cSpanRight s h
  rwa [decide_eq_false hb] at this
theorem cSpanHas (s : Sc) (f : Fc) (h : s.sz ≤ 67108864) (hf : f.sz ≤ 67108864) : CallsTo prog 183 [.agg s.C, .agg f.C] (.one (.raw (.bool (decide (s.has f))))) := by
  have ⟨hl, hh⟩ := Sc.low_sz h
  obtain ⟨r, hr⟩ : ∃ r, r = decide (s.has f) := ⟨_, rfl⟩
  rw [← hr]
  have bad : ¬ s.has f → r = false := fun h => by rw [hr, decide_eq_false h]
  by_cases h1 : s.ok
  · by_cases h2 : f.ok
    · have hc1 := cCmpF s.low f hl hf
      have hc2 := cCmpF f s.high hf hh
      refine CallsTo.run [] Go.Proofs.Tryz.func183 rfl rfl ?_; conv => simp (maxSteps := 2000000) (disch := omega) only [go_sem, Nat.reduceAdd, Nat.reduceSub, Nat.reduceMul, Int.reduceToNat, Nat.reduceEqDiff, Nat.reduceBEq, Nat.reduceBneDiff, Go.Proofs.Tryz.f183, List.replicate]
      refine callk (cSpanT s h h1) ?_
      conv => simp (maxSteps := 2000000) (disch := omega) only [go_sem, Nat.reduceAdd, Nat.reduceSub, Nat.reduceMul, Int.reduceToNat, Nat.reduceEqDiff, Nat.reduceBEq, Nat.reduceBneDiff]
      refine callk (cRightT f (by omega) h2) ?_
      conv => simp (maxSteps := 2000000) (disch := omega) only [go_sem, Nat.reduceAdd, Nat.reduceSub, Nat.reduceMul, Int.reduceToNat, Nat.reduceEqDiff, Nat.reduceBEq, Nat.reduceBneDiff]
      refine callk hc1 ?_
      conv => simp (maxSteps := 2000000) (disch := omega) only [go_sem, Nat.reduceAdd, Nat.reduceSub, Nat.reduceMul, Int.reduceToNat, Nat.reduceEqDiff, Nat.reduceBEq, Nat.reduceBneDiff]
      refine guardd (fun h3 => ?_) (fun h3 => ?_)
      · have h3' := decide_eq_true h3
        conv => simp (maxSteps := 2000000) (disch := omega) only [go_sem, Nat.reduceAdd, Nat.reduceSub, Nat.reduceMul, Int.reduceToNat, Nat.reduceEqDiff, Nat.reduceBEq, Nat.reduceBneDiff, h3']
        refine callk hc2 ?_
        conv => simp (maxSteps := 2000000) (disch := omega) only [go_sem, Nat.reduceAdd, Nat.reduceSub, Nat.reduceMul, Int.reduceToNat, Nat.reduceEqDiff, Nat.reduceBEq, Nat.reduceBneDiff]
        have e : decide (Fc.cmp f s.high ≤ 0) = r := by rw [hr]; exact decide_eq_decide.2 ⟨fun h => ⟨h1, h2, h3, h⟩, fun h => h.2.2.2⟩
        exact ⟨_, rfl, by rw [e]; exact .one (.refl _)⟩
      · have h3' := decide_eq_false h3
        conv => simp (maxSteps := 2000000) (disch := omega) only [go_sem, Nat.reduceAdd, Nat.reduceSub, Nat.reduceMul, Int.reduceToNat, Nat.reduceEqDiff, Nat.reduceBEq, Nat.reduceBneDiff, h3']
        exact ⟨_, rfl, by rw [bad (fun h => h3 h.2.2.1)]; exact .one (.refl _)⟩
    · rw [bad (fun h => h2 h.2.1)]
      refine CallsTo.run [] Go.Proofs.Tryz.func183 rfl rfl ?_; conv => simp (maxSteps := 2000000) (disch := omega) only [go_sem, Nat.reduceAdd, Nat.reduceSub, Nat.reduceMul, Int.reduceToNat, Nat.reduceEqDiff, Nat.reduceBEq, Nat.reduceBneDiff, Go.Proofs.Tryz.f183, List.replicate]
      refine callk (cSpanT s h h1) ?_
      conv => simp (maxSteps := 2000000) (disch := omega) only [go_sem, Nat.reduceAdd, Nat.reduceSub, Nat.reduceMul, Int.reduceToNat, Nat.reduceEqDiff, Nat.reduceBEq, Nat.reduceBneDiff]
      refine callk (cRightBad f (by omega) h2) ?_
      conv => simp (maxSteps := 2000000) (disch := omega) only [go_sem, Nat.reduceAdd, Nat.reduceSub, Nat.reduceMul, Int.reduceToNat, Nat.reduceEqDiff, Nat.reduceBEq, Nat.reduceBneDiff]
      exact ⟨_, rfl, .one (.refl _)⟩
  · rw [bad (fun h => h1 h.1)]
    refine CallsTo.run [] Go.Proofs.Tryz.func183 rfl rfl ?_; conv => simp (maxSteps := 2000000) (disch := omega) only [go_sem, Nat.reduceAdd, Nat.reduceSub, Nat.reduceMul, Int.reduceToNat, Nat.reduceEqDiff, Nat.reduceBEq, Nat.reduceBneDiff, Go.Proofs.Tryz.f183, List.replicate]
    refine callk (cSpanN s h h1) ?_
    conv => simp (maxSteps := 2000000) (disch := omega) only [go_sem, Nat.reduceAdd, Nat.reduceSub, Nat.reduceMul, Int.reduceToNat, Nat.reduceEqDiff, Nat.reduceBEq, Nat.reduceBneDiff]
    exact ⟨_, rfl, .one (.refl _)⟩
theorem cInside (a b : Sc) (ha : a.sz ≤ 67108864) (hb : b.sz ≤ 67108864) : CallsTo prog 25 [.agg a.C, .agg b.C] (.one (.raw (.bool (decide (a.inside b))))) := by
  have ⟨hal, hah⟩ := Sc.low_sz ha
  have ⟨hbl, hbh⟩ := Sc.low_sz hb
  obtain ⟨r, hr⟩ : ∃ r, r = decide (a.inside b) := ⟨_, rfl⟩
  rw [← hr]
  have bad : ¬ a.inside b → r = false := fun h => by rw [hr, decide_eq_false h]
  by_cases h1 : a.ok
  · by_cases h2 : b.ok
    · have hc1 := cCmpF b.low a.low hbl hal
      have hc2 := cCmpF a.high b.high hah hbh
      refine CallsTo.run [] Go.Proofs.Tryz.func25 rfl rfl ?_; conv => simp (maxSteps := 2000000) (disch := omega) only [go_sem, Nat.reduceAdd, Nat.reduceSub, Nat.reduceMul, Int.reduceToNat, Nat.reduceEqDiff, Nat.reduceBEq, Nat.reduceBneDiff, Go.Proofs.Tryz.f25, List.replicate]
      refine callk (cSpanT a ha h1) ?_
      conv => simp (maxSteps := 2000000) (disch := omega) only [go_sem, Nat.reduceAdd, Nat.reduceSub, Nat.reduceMul, Int.reduceToNat, Nat.reduceEqDiff, Nat.reduceBEq, Nat.reduceBneDiff]
      refine callk (cSpanT b hb h2) ?_
      conv => simp (maxSteps := 2000000) (disch := omega) only [go_sem, Nat.reduceAdd, Nat.reduceSub, Nat.reduceMul, Int.reduceToNat, Nat.reduceEqDiff, Nat.reduceBEq, Nat.reduceBneDiff]
      refine callk hc1 ?_
      conv => simp (maxSteps := 2000000) (disch := omega) only [go_sem, Nat.reduceAdd, Nat.reduceSub, Nat.reduceMul, Int.reduceToNat, Nat.reduceEqDiff, Nat.reduceBEq, Nat.reduceBneDiff]
      refine guardd (fun h3 => ?_) (fun h3 => ?_)
      · have h3' := decide_eq_true h3
        conv => simp (maxSteps := 2000000) (disch := omega) only [go_sem, Nat.reduceAdd, Nat.reduceSub, Nat.reduceMul, Int.reduceToNat, Nat.reduceEqDiff, Nat.reduceBEq, Nat.reduceBneDiff, h3']
        refine callk hc2 ?_
        conv => simp (maxSteps := 2000000) (disch := omega) only [go_sem, Nat.reduceAdd, Nat.reduceSub, Nat.reduceMul, Int.reduceToNat, Nat.reduceEqDiff, Nat.reduceBEq, Nat.reduceBneDiff]
        have e : decide (Fc.cmp a.high b.high ≤ 0) = r := by rw [hr]; exact decide_eq_decide.2 ⟨fun h => ⟨h1, h2, h3, h⟩, fun h => h.2.2.2⟩
        exact ⟨_, rfl, by rw [e]; exact .one (.refl _)⟩
      · have h3' := decide_eq_false h3
        conv => simp (maxSteps := 2000000) (disch := omega) only [go_sem, Nat.reduceAdd, Nat.reduceSub, Nat.reduceMul, Int.reduceToNat, Nat.reduceEqDiff, Nat.reduceBEq, Nat.reduceBneDiff, h3']
        exact ⟨_, rfl, by rw [bad (fun h => h3 h.2.2.1)]; exact .one (.refl _)⟩
    · rw [bad (fun h => h2 h.2.1)]
      refine CallsTo.run [] Go.Proofs.Tryz.func25 rfl rfl ?_; conv => simp (maxSteps := 2000000) (disch := omega) only [go_sem, Nat.reduceAdd, Nat.reduceSub, Nat.reduceMul, Int.reduceToNat, Nat.reduceEqDiff, Nat.reduceBEq, Nat.reduceBneDiff, Go.Proofs.Tryz.f25, List.replicate]
      refine callk (cSpanT a ha h1) ?_
      conv => simp (maxSteps := 2000000) (disch := omega) only [go_sem, Nat.reduceAdd, Nat.reduceSub, Nat.reduceMul, Int.reduceToNat, Nat.reduceEqDiff, Nat.reduceBEq, Nat.reduceBneDiff]
      refine callk (cSpanN b hb h2) ?_
      conv => simp (maxSteps := 2000000) (disch := omega) only [go_sem, Nat.reduceAdd, Nat.reduceSub, Nat.reduceMul, Int.reduceToNat, Nat.reduceEqDiff, Nat.reduceBEq, Nat.reduceBneDiff]
      exact ⟨_, rfl, .one (.refl _)⟩
  · rw [bad (fun h => h1 h.1)]
    refine CallsTo.run [] Go.Proofs.Tryz.func25 rfl rfl ?_; conv => simp (maxSteps := 2000000) (disch := omega) only [go_sem, Nat.reduceAdd, Nat.reduceSub, Nat.reduceMul, Int.reduceToNat, Nat.reduceEqDiff, Nat.reduceBEq, Nat.reduceBneDiff, Go.Proofs.Tryz.f25, List.replicate]
    refine callk (cSpanN a ha h1) ?_
    conv => simp (maxSteps := 2000000) (disch := omega) only [go_sem, Nat.reduceAdd, Nat.reduceSub, Nat.reduceMul, Int.reduceToNat, Nat.reduceEqDiff, Nat.reduceBEq, Nat.reduceBneDiff]
    exact ⟨_, rfl, .one (.refl _)⟩
theorem cWidth (s : Sc) (h : s.sz ≤ 67108864) : CallsTo prog 37 [.agg s.C] (.agg (Sc.width s).C) := by
  have ⟨hl, hh⟩ := Sc.low_sz h
  by_cases h1 : s.ok
  · rw [show Sc.width s = Fc.sub s.high s.low from if_pos h1]
    refine CallsTo.run [] Go.Proofs.Tryz.func37 rfl rfl ?_; conv => simp (maxSteps := 2000000) (disch := omega) only [go_sem, Nat.reduceAdd, Nat.reduceSub, Nat.reduceMul, Int.reduceToNat, Nat.reduceEqDiff, Nat.reduceBEq, Nat.reduceBneDiff, Go.Proofs.Tryz.f37, List.replicate]
    refine callk (cSpanT s h h1) ?_
    conv => simp (maxSteps := 2000000) (disch := omega) only [go_sem, Nat.reduceAdd, Nat.reduceSub, Nat.reduceMul, Int.reduceToNat, Nat.reduceEqDiff, Nat.reduceBEq, Nat.reduceBneDiff]
    refine callk (cSubF s.high s.low hh hl) ?_
    conv => simp (maxSteps := 2000000) (disch := omega) only [go_sem, Nat.reduceAdd, Nat.reduceSub, Nat.reduceMul, Int.reduceToNat, Nat.reduceEqDiff, Nat.reduceBEq, Nat.reduceBneDiff]
    exact ⟨_, rfl, .one (.refl _)⟩
  · rw [show Sc.width s = Fc.zero from if_neg h1]
    refine CallsTo.run [] Go.Proofs.Tryz.func37 rfl rfl ?_; conv => simp (maxSteps := 2000000) (disch := omega) only [go_sem, Nat.reduceAdd, Nat.reduceSub, Nat.reduceMul, Int.reduceToNat, Nat.reduceEqDiff, Nat.reduceBEq, Nat.reduceBneDiff, Go.Proofs.Tryz.f37, List.replicate]
    refine callk (cSpanN s h h1) ?_
    conv => simp (maxSteps := 2000000) (disch := omega) only [go_sem, Nat.reduceAdd, Nat.reduceSub, Nat.reduceMul, Int.reduceToNat, Nat.reduceEqDiff, Nat.reduceBEq, Nat.reduceBneDiff]
    exact ⟨_, rfl, zero1Le⟩
theorem cFreshS (f : Fc) (h : f.sz ≤ 67108864) : CallsTo prog 203 [.agg f.C] (.agg f.C) := by
  have ⟨h1, h2⟩ := szL h
  refine CallsTo.run [] Go.Proofs.Tryz.func203 rfl rfl ?_; conv => simp (maxSteps := 2000000) (disch := omega) only [go_sem, Nat.reduceAdd, Nat.reduceSub, Nat.reduceMul, Int.reduceToNat, Nat.reduceEqDiff, Nat.reduceBEq, Nat.reduceBneDiff, Go.Proofs.Tryz.f203, List.replicate]
  refine callk (cClone f.L (by omega)) ?_
  conv => simp (maxSteps := 2000000) (disch := omega) only [go_sem, Nat.reduceAdd, Nat.reduceSub, Nat.reduceMul, Int.reduceToNat, Nat.reduceEqDiff, Nat.reduceBEq, Nat.reduceBneDiff]
  refine callk (cClone f.M (by omega)) ?_
  conv => simp (maxSteps := 2000000) (disch := omega) only [go_sem, Nat.reduceAdd, Nat.reduceSub, Nat.reduceMul, Int.reduceToNat, Nat.reduceEqDiff, Nat.reduceBEq, Nat.reduceBneDiff]
  refine indk (by kernel_rfl) ?_
  conv => simp (maxSteps := 2000000) (disch := omega) only [go_sem, Nat.reduceAdd, Nat.reduceSub, Nat.reduceMul, Int.reduceToNat, Nat.reduceEqDiff, Nat.reduceBEq, Nat.reduceBneDiff]
  exact ⟨_, rfl, .one (.refl _)⟩
theorem cPoint (f : Fc) (h : f.sz ≤ 67108864) : CallsTo prog 181 [.agg f.C] (.agg (Sc.point f).C) := by
  by_cases h1 : f.ok
  · rw [show Sc.point f = ⟨f, f⟩ from if_pos h1]
    refine CallsTo.run [] Go.Proofs.Tryz.func181 rfl rfl ?_; conv => simp (maxSteps := 2000000) (disch := omega) only [go_sem, Nat.reduceAdd, Nat.reduceSub, Nat.reduceMul, Int.reduceToNat, Nat.reduceEqDiff, Nat.reduceBEq, Nat.reduceBneDiff, Go.Proofs.Tryz.f181, List.replicate]
    refine callk (cRightT f (by omega) h1) ?_
    conv => simp (maxSteps := 2000000) (disch := omega) only [go_sem, Nat.reduceAdd, Nat.reduceSub, Nat.reduceMul, Int.reduceToNat, Nat.reduceEqDiff, Nat.reduceBEq, Nat.reduceBneDiff]
    refine callk (cFreshS f h) ?_
    conv => simp (maxSteps := 2000000) (disch := omega) only [go_sem, Nat.reduceAdd, Nat.reduceSub, Nat.reduceMul, Int.reduceToNat, Nat.reduceEqDiff, Nat.reduceBEq, Nat.reduceBneDiff]
    refine callk (cFreshS f h) ?_
    conv => simp (maxSteps := 2000000) (disch := omega) only [go_sem, Nat.reduceAdd, Nat.reduceSub, Nat.reduceMul, Int.reduceToNat, Nat.reduceEqDiff, Nat.reduceBEq, Nat.reduceBneDiff]
    refine indk (by kernel_rfl) ?_
    conv => simp (maxSteps := 2000000) (disch := omega) only [go_sem, Nat.reduceAdd, Nat.reduceSub, Nat.reduceMul, Int.reduceToNat, Nat.reduceEqDiff, Nat.reduceBEq, Nat.reduceBneDiff]
    exact ⟨_, rfl, .one (.refl _)⟩
  · rw [show Sc.point f = Sc.zero from if_neg h1]
    refine CallsTo.run [] Go.Proofs.Tryz.func181 rfl rfl ?_; conv => simp (maxSteps := 2000000) (disch := omega) only [go_sem, Nat.reduceAdd, Nat.reduceSub, Nat.reduceMul, Int.reduceToNat, Nat.reduceEqDiff, Nat.reduceBEq, Nat.reduceBneDiff, Go.Proofs.Tryz.f181, List.replicate]
    refine callk (cRightBad f (by omega) h1) ?_
    conv => simp (maxSteps := 2000000) (disch := omega) only [go_sem, Nat.reduceAdd, Nat.reduceSub, Nat.reduceMul, Int.reduceToNat, Nat.reduceEqDiff, Nat.reduceBEq, Nat.reduceBneDiff]
    exact ⟨_, rfl, .one zeroS⟩
theorem cSpanAdd (a b : Sc) (ha : a.sz ≤ 67108864) (hb : b.sz ≤ 67108864) : CallsTo prog 184 [.agg a.C, .agg b.C] (.tup [.agg (Sc.add a b).C, .one (.raw (.int .i64 (Fc.er (a.ok ∧ b.ok))))]) := by
  have ⟨hal, hah⟩ := Sc.low_sz ha
  have ⟨hbl, hbh⟩ := Sc.low_sz hb
  by_cases h1 : a.ok
  · by_cases h2 : b.ok
    · rw [Fc.er_of ⟨h1, h2⟩, show Sc.add a b = ⟨Fc.add a.low b.low, Fc.add a.high b.high⟩ from if_pos ⟨h1, h2⟩]
      refine CallsTo.run [] Go.Proofs.Tryz.func184 rfl rfl ?_; conv => simp (maxSteps := 2000000) (disch := omega) only [go_sem, Nat.reduceAdd, Nat.reduceSub, Nat.reduceMul, Int.reduceToNat, Nat.reduceEqDiff, Nat.reduceBEq, Nat.reduceBneDiff, Go.Proofs.Tryz.f184, List.replicate]
      refine callk (cSpanT a ha h1) ?_
      conv => simp (maxSteps := 2000000) (disch := omega) only [go_sem, Nat.reduceAdd, Nat.reduceSub, Nat.reduceMul, Int.reduceToNat, Nat.reduceEqDiff, Nat.reduceBEq, Nat.reduceBneDiff]
      refine callk (cSpanT b hb h2) ?_
      conv => simp (maxSteps := 2000000) (disch := omega) only [go_sem, Nat.reduceAdd, Nat.reduceSub, Nat.reduceMul, Int.reduceToNat, Nat.reduceEqDiff, Nat.reduceBEq, Nat.reduceBneDiff]
      refine callk (cAddF a.low b.low hal hbl) ?_
      conv => simp (maxSteps := 2000000) (disch := omega) only [go_sem, Nat.reduceAdd, Nat.reduceSub, Nat.reduceMul, Int.reduceToNat, Nat.reduceEqDiff, Nat.reduceBEq, Nat.reduceBneDiff]
      refine callk (cAddF a.high b.high hah hbh) ?_
      conv => simp (maxSteps := 2000000) (disch := omega) only [go_sem, Nat.reduceAdd, Nat.reduceSub, Nat.reduceMul, Int.reduceToNat, Nat.reduceEqDiff, Nat.reduceBEq, Nat.reduceBneDiff]
      exact ⟨_, rfl, .tup (.cons (.refl _) (.cons (.refl _) .nil))⟩
    · rw [Fc.er_bad (fun h => h2 h.2), show Sc.add a b = Sc.zero from if_neg (fun h => h2 h.2)]
      refine CallsTo.run [] Go.Proofs.Tryz.func184 rfl rfl ?_; conv => simp (maxSteps := 2000000) (disch := omega) only [go_sem, Nat.reduceAdd, Nat.reduceSub, Nat.reduceMul, Int.reduceToNat, Nat.reduceEqDiff, Nat.reduceBEq, Nat.reduceBneDiff, Go.Proofs.Tryz.f184, List.replicate]
      refine callk (cSpanT a ha h1) ?_
      conv => simp (maxSteps := 2000000) (disch := omega) only [go_sem, Nat.reduceAdd, Nat.reduceSub, Nat.reduceMul, Int.reduceToNat, Nat.reduceEqDiff, Nat.reduceBEq, Nat.reduceBneDiff]
      refine callk (cSpanN b hb h2) ?_
      conv => simp (maxSteps := 2000000) (disch := omega) only [go_sem, Nat.reduceAdd, Nat.reduceSub, Nat.reduceMul, Int.reduceToNat, Nat.reduceEqDiff, Nat.reduceBEq, Nat.reduceBneDiff]
      exact ⟨_, rfl, .tup (.cons zeroS (.cons (.refl _) .nil))⟩
  · rw [Fc.er_bad (fun h => h1 h.1), show Sc.add a b = Sc.zero from if_neg (fun h => h1 h.1)]
    refine CallsTo.run [] Go.Proofs.Tryz.func184 rfl rfl ?_; conv => simp (maxSteps := 2000000) (disch := omega) only [go_sem, Nat.reduceAdd, Nat.reduceSub, Nat.reduceMul, Int.reduceToNat, Nat.reduceEqDiff, Nat.reduceBEq, Nat.reduceBneDiff, Go.Proofs.Tryz.f184, List.replicate]
    refine callk (cSpanN a ha h1) ?_
    conv => simp (maxSteps := 2000000) (disch := omega) only [go_sem, Nat.reduceAdd, Nat.reduceSub, Nat.reduceMul, Int.reduceToNat, Nat.reduceEqDiff, Nat.reduceBEq, Nat.reduceBneDiff]
    exact ⟨_, rfl, .tup (.cons zeroS (.cons (.refl _) .nil))⟩
theorem cProduct (a b : Fc) (ha : a.sz ≤ 67108864) (hb : b.sz ≤ 67108864) : CallsTo prog 205 [.agg a.C, .agg b.C] (.agg (Fc.mul a b).C) := by
  refine CallsTo.run [] Go.Proofs.Tryz.func205 rfl rfl ?_; conv => simp (maxSteps := 2000000) (disch := omega) only [go_sem, Nat.reduceAdd, Nat.reduceSub, Nat.reduceMul, Int.reduceToNat, Nat.reduceEqDiff, Nat.reduceBEq, Nat.reduceBneDiff, Go.Proofs.Tryz.f205, List.replicate]
  refine callk (cMulF a b ha hb) ?_
  conv => simp (maxSteps := 2000000) (disch := omega) only [go_sem, Nat.reduceAdd, Nat.reduceSub, Nat.reduceMul, Int.reduceToNat, Nat.reduceEqDiff, Nat.reduceBEq, Nat.reduceBneDiff]
  exact ⟨_, rfl, .one (.refl _)⟩
theorem least_mem : ∀ (l : List Fc) (m : Fc), Sc.least m l ∈ m :: l
  | [], m => by simp [Sc.least]
  | x :: r, m => by
    have h0 := least_mem r (if Fc.cmp x m < 0 then x else m)
    show Sc.least (if Fc.cmp x m < 0 then x else m) r ∈ _
    by_cases hc : Fc.cmp x m < 0
    · rw [if_pos hc] at h0 ⊢
      exact List.mem_cons_of_mem _ h0
    · rw [if_neg hc] at h0 ⊢
      rcases List.mem_cons.1 h0 with h | h
      · rw [h]; exact List.mem_cons_self
      · exact List.mem_cons_of_mem _ (List.mem_cons_of_mem _ h)
theorem great_mem : ∀ (l : List Fc) (m : Fc), Sc.great m l ∈ m :: l
  | [], m => by simp [Sc.great]
  | x :: r, m => by
    have h0 := great_mem r (if Fc.cmp x m > 0 then x else m)
    show Sc.great (if Fc.cmp x m > 0 then x else m) r ∈ _
    by_cases hc : Fc.cmp x m > 0
    · rw [if_pos hc] at h0 ⊢
      exact List.mem_cons_of_mem _ h0
    · rw [if_neg hc] at h0 ⊢
      rcases List.mem_cons.1 h0 with h | h
      · rw [h]; exact List.mem_cons_self
      · exact List.mem_cons_of_mem _ (List.mem_cons_of_mem _ h)
theorem around_sz {l : List Fc} {n : Nat} (h0 : 0 < l.length) (hs : ∀ f ∈ l, f.sz ≤ n) : (Sc.around l).low.sz ≤ n ∧ (Sc.around l).high.sz ≤ n := by
  have e : l = l.getD 0 Fc.zero :: l.drop 1 := drop_cons (i := 0) Fc.zero h0
  refine ⟨hs _ ?_, hs _ ?_⟩
  · rw [e]; exact least_mem _ _
  · rw [e]; exact great_mem _ _
theorem cAround (l : List Fc) (h0 : 0 < l.length) (hl : l.length ≤ 1048576) (hs : ∀ f ∈ l, f.sz ≤ 67108864) : CallsTo prog 204 [.one (.sl 4 (l.map Fc.C))] (.agg (Sc.around l).C) := by
  have ⟨h1, h2⟩ := around_sz h0 hs
  refine CallsTo.run [] Go.Proofs.Tryz.func204 rfl rfl ?_; conv => simp (maxSteps := 2000000) (disch := omega) only [go_sem, Nat.reduceAdd, Nat.reduceSub, Nat.reduceMul, Int.reduceToNat, Nat.reduceEqDiff, Nat.reduceBEq, Nat.reduceBneDiff, Go.Proofs.Tryz.f204, List.replicate]
  refine callk (cMinFr l h0 hl hs) ?_
  conv => simp (maxSteps := 2000000) (disch := omega) only [go_sem, Nat.reduceAdd, Nat.reduceSub, Nat.reduceMul, Int.reduceToNat, Nat.reduceEqDiff, Nat.reduceBEq, Nat.reduceBneDiff]
  refine callk (cFreshS (Sc.around l).low h1) ?_
  conv => simp (maxSteps := 2000000) (disch := omega) only [go_sem, Nat.reduceAdd, Nat.reduceSub, Nat.reduceMul, Int.reduceToNat, Nat.reduceEqDiff, Nat.reduceBEq, Nat.reduceBneDiff]
  refine callk (cMaxFr l h0 hl hs) ?_
  conv => simp (maxSteps := 2000000) (disch := omega) only [go_sem, Nat.reduceAdd, Nat.reduceSub, Nat.reduceMul, Int.reduceToNat, Nat.reduceEqDiff, Nat.reduceBEq, Nat.reduceBneDiff]
  refine callk (cFreshS (Sc.around l).high h2) ?_
  conv => simp (maxSteps := 2000000) (disch := omega) only [go_sem, Nat.reduceAdd, Nat.reduceSub, Nat.reduceMul, Int.reduceToNat, Nat.reduceEqDiff, Nat.reduceBEq, Nat.reduceBneDiff]
  exact ⟨_, rfl, .one (.refl _)⟩
theorem cSpanMul (a b : Sc) (ha : a.sz ≤ 33554432) (hb : b.sz ≤ 33554432) : CallsTo prog 186 [.agg a.C, .agg b.C] (.tup [.agg (Sc.mul a b).C, .one (.raw (.int .i64 (Fc.er (a.ok ∧ b.ok))))]) := by
  have ⟨hal, hah⟩ := Sc.low_sz ha
  have ⟨hbl, hbh⟩ := Sc.low_sz hb
  by_cases h1 : a.ok
  · by_cases h2 : b.ok
    · rw [Fc.er_of ⟨h1, h2⟩, show Sc.mul a b = Sc.around [Fc.mul a.low b.low, Fc.mul a.low b.high, Fc.mul a.high b.low, Fc.mul a.high b.high] from if_pos ⟨h1, h2⟩]
      have s1 := Fc.sz_mul a.low b.low
      have s2 := Fc.sz_mul a.low b.high
      have s3 := Fc.sz_mul a.high b.low
      have s4 := Fc.sz_mul a.high b.high
      have hA := cAround [Fc.mul a.low b.low, Fc.mul a.low b.high, Fc.mul a.high b.low, Fc.mul a.high b.high] (by simp) (by simp) (fun f hf => by
        simp only [List.mem_cons, List.not_mem_nil, or_false] at hf
        rcases hf with rfl | rfl | rfl | rfl <;> omega)
      refine CallsTo.run [] Go.Proofs.Tryz.func186 rfl rfl ?_; conv => simp (maxSteps := 2000000) (disch := omega) only [go_sem, Nat.reduceAdd, Nat.reduceSub, Nat.reduceMul, Int.reduceToNat, Nat.reduceEqDiff, Nat.reduceBEq, Nat.reduceBneDiff, Go.Proofs.Tryz.f186, List.replicate]
      refine callk (cSpanT a (by omega) h1) ?_
      conv => simp (maxSteps := 2000000) (disch := omega) only [go_sem, Nat.reduceAdd, Nat.reduceSub, Nat.reduceMul, Int.reduceToNat, Nat.reduceEqDiff, Nat.reduceBEq, Nat.reduceBneDiff]
      refine callk (cSpanT b (by omega) h2) ?_
      conv => simp (maxSteps := 2000000) (disch := omega) only [go_sem, Nat.reduceAdd, Nat.reduceSub, Nat.reduceMul, Int.reduceToNat, Nat.reduceEqDiff, Nat.reduceBEq, Nat.reduceBneDiff]
      refine callk (cProduct a.low b.low (by omega) (by omega)) ?_
      conv => simp (maxSteps := 2000000) (disch := omega) only [go_sem, Nat.reduceAdd, Nat.reduceSub, Nat.reduceMul, Int.reduceToNat, Nat.reduceEqDiff, Nat.reduceBEq, Nat.reduceBneDiff]
      refine callk (cProduct a.low b.high (by omega) (by omega)) ?_
      conv => simp (maxSteps := 2000000) (disch := omega) only [go_sem, Nat.reduceAdd, Nat.reduceSub, Nat.reduceMul, Int.reduceToNat, Nat.reduceEqDiff, Nat.reduceBEq, Nat.reduceBneDiff]
      refine callk (cProduct a.high b.low (by omega) (by omega)) ?_
      conv => simp (maxSteps := 2000000) (disch := omega) only [go_sem, Nat.reduceAdd, Nat.reduceSub, Nat.reduceMul, Int.reduceToNat, Nat.reduceEqDiff, Nat.reduceBEq, Nat.reduceBneDiff]
      refine callk (cProduct a.high b.high (by omega) (by omega)) ?_
      conv => simp (maxSteps := 2000000) (disch := omega) only [go_sem, Nat.reduceAdd, Nat.reduceSub, Nat.reduceMul, Int.reduceToNat, Nat.reduceEqDiff, Nat.reduceBEq, Nat.reduceBneDiff]
      refine callk hA ?_
      conv => simp (maxSteps := 2000000) (disch := omega) only [go_sem, Nat.reduceAdd, Nat.reduceSub, Nat.reduceMul, Int.reduceToNat, Nat.reduceEqDiff, Nat.reduceBEq, Nat.reduceBneDiff]
      refine indk (by kernel_rfl) ?_
      conv => simp (maxSteps := 2000000) (disch := omega) only [go_sem, Nat.reduceAdd, Nat.reduceSub, Nat.reduceMul, Int.reduceToNat, Nat.reduceEqDiff, Nat.reduceBEq, Nat.reduceBneDiff]
      exact ⟨_, rfl, .tup (.cons (.refl _) (.cons (.refl _) .nil))⟩
    · rw [Fc.er_bad (fun h => h2 h.2), show Sc.mul a b = Sc.zero from if_neg (fun h => h2 h.2)]
      refine CallsTo.run [] Go.Proofs.Tryz.func186 rfl rfl ?_; conv => simp (maxSteps := 2000000) (disch := omega) only [go_sem, Nat.reduceAdd, Nat.reduceSub, Nat.reduceMul, Int.reduceToNat, Nat.reduceEqDiff, Nat.reduceBEq, Nat.reduceBneDiff, Go.Proofs.Tryz.f186, List.replicate]
      refine callk (cSpanT a (by omega) h1) ?_
      conv => simp (maxSteps := 2000000) (disch := omega) only [go_sem, Nat.reduceAdd, Nat.reduceSub, Nat.reduceMul, Int.reduceToNat, Nat.reduceEqDiff, Nat.reduceBEq, Nat.reduceBneDiff]
      refine callk (cSpanN b (by omega) h2) ?_
      conv => simp (maxSteps := 2000000) (disch := omega) only [go_sem, Nat.reduceAdd, Nat.reduceSub, Nat.reduceMul, Int.reduceToNat, Nat.reduceEqDiff, Nat.reduceBEq, Nat.reduceBneDiff]
      exact ⟨_, rfl, .tup (.cons zeroS (.cons (.refl _) .nil))⟩
  · rw [Fc.er_bad (fun h => h1 h.1), show Sc.mul a b = Sc.zero from if_neg (fun h => h1 h.1)]
    refine CallsTo.run [] Go.Proofs.Tryz.func186 rfl rfl ?_; conv => simp (maxSteps := 2000000) (disch := omega) only [go_sem, Nat.reduceAdd, Nat.reduceSub, Nat.reduceMul, Int.reduceToNat, Nat.reduceEqDiff, Nat.reduceBEq, Nat.reduceBneDiff, Go.Proofs.Tryz.f186, List.replicate]
    refine callk (cSpanN a (by omega) h1) ?_
    conv => simp (maxSteps := 2000000) (disch := omega) only [go_sem, Nat.reduceAdd, Nat.reduceSub, Nat.reduceMul, Int.reduceToNat, Nat.reduceEqDiff, Nat.reduceBEq, Nat.reduceBneDiff]
    exact ⟨_, rfl, .tup (.cons zeroS (.cons (.refl _) .nil))⟩
end Go.Slot.T

/- Contracts of package affine: Right, At, Plus, Times. -/
namespace Go.Slot.T
open Go Go.RowKit Go.Slot
open Go.Proofs.Tryz (prog)
set_option maxRecDepth 10000
set_option maxHeartbeats 4000000

theorem cWrong (f : Fc) (h : f.sz ≤ 67108864) : CallsTo prog 69 [.agg f.C] (.one (.raw (.bool (!decide f.ok)))) := by
  refine CallsTo.run [] Go.Proofs.Tryz.func69 rfl rfl ?_; conv => simp (maxSteps := 2000000) (disch := omega) only [go_sem, Nat.reduceAdd, Nat.reduceSub, Nat.reduceMul, Int.reduceToNat, Nat.reduceEqDiff, Nat.reduceBEq, Nat.reduceBneDiff, Go.Proofs.Tryz.f69, List.replicate]
  refine callk (cRightF f (by omega)) ?_
  conv => simp (maxSteps := 2000000) (disch := omega) only [go_sem, Nat.reduceAdd, Nat.reduceSub, Nat.reduceMul, Int.reduceToNat, Nat.reduceEqDiff, Nat.reduceBEq, Nat.reduceBneDiff]
  exact ⟨_, rfl, .one (.refl _)⟩
theorem getD_sz {l : List Fc} {n : Nat} (h : ∀ f ∈ l, f.sz ≤ n) {i : Nat} (hi : i < l.length) : (l.getD i Fc.zero).sz ≤ n := h _ (by simp [hi])
theorem cWrongs (l : List Fc) (hl : l.length ≤ 1048576) (hs : ∀ f ∈ l, f.sz ≤ 67108864) :
    CallsTo prog 47 [.one (.sl 4 (l.map Fc.C)), .one (.raw (.func (.func 69) #[] #[]))] (.one (.raw (.bool (!decide (oks l))))) := by
  have := cContainsFr 69 (fun f => !decide f.ok) l (by omega) (fun i hi => cWrong _ (getD_sz hs hi))
  rwa [oks_any] at this
theorem cAffRight (a : Af) (n : Int) (hl : a.l.length ≤ 1048576) (hs : a.le 67108864) :
    CallsTo prog 66 [.agg a.C, .one (.raw (.int .i64 n))] (.one (.raw (.bool (decide ((a.l.length : Int) = n ∧ a.c.ok ∧ oks a.l))))) := by
  obtain ⟨r, hr⟩ : ∃ r, r = decide ((a.l.length : Int) = n ∧ a.c.ok ∧ oks a.l) := ⟨_, rfl⟩
  rw [← hr]
  have hw := cWrongs a.l hl hs.2
  by_cases h2 : a.c.ok
  · refine CallsTo.run [] Go.Proofs.Tryz.func66 rfl rfl ?_; conv => simp (maxSteps := 2000000) (disch := omega) only [go_sem, Nat.reduceAdd, Nat.reduceSub, Nat.reduceMul, Int.reduceToNat, Nat.reduceEqDiff, Nat.reduceBEq, Nat.reduceBneDiff, Go.Proofs.Tryz.f66, List.replicate]
    refine guardd (fun h1 => ?_) (fun h1 => ?_)
    · have h1' := decide_eq_true h1
      conv => simp (maxSteps := 2000000) (disch := omega) only [go_sem, Nat.reduceAdd, Nat.reduceSub, Nat.reduceMul, Int.reduceToNat, Nat.reduceEqDiff, Nat.reduceBEq, Nat.reduceBneDiff, h1']
      refine callk (cRightT a.c (by have := hs.1; omega) h2) ?_
      conv => simp (maxSteps := 2000000) (disch := omega) only [go_sem, Nat.reduceAdd, Nat.reduceSub, Nat.reduceMul, Int.reduceToNat, Nat.reduceEqDiff, Nat.reduceBEq, Nat.reduceBneDiff]
      refine callk hw ?_
      conv => simp (maxSteps := 2000000) (disch := omega) only [go_sem, Nat.reduceAdd, Nat.reduceSub, Nat.reduceMul, Int.reduceToNat, Nat.reduceEqDiff, Nat.reduceBEq, Nat.reduceBneDiff, Bool.not_not]
      have e : decide (oks a.l) = r := by rw [hr]; exact decide_eq_decide.2 ⟨fun h => ⟨h1, h2, h⟩, fun h => h.2.2⟩
      exact ⟨_, rfl, by rw [e]; exact .one (.refl _)⟩
    · have h1' := decide_eq_false h1
      conv => simp (maxSteps := 2000000) (disch := omega) only [go_sem, Nat.reduceAdd, Nat.reduceSub, Nat.reduceMul, Int.reduceToNat, Nat.reduceEqDiff, Nat.reduceBEq, Nat.reduceBneDiff, h1']
      exact ⟨_, rfl, by rw [hr, decide_eq_false (fun h => h1 h.1)]; exact .one (.refl _)⟩
  · rw [hr, decide_eq_false (fun h => h2 h.2.1)]
    refine CallsTo.run [] Go.Proofs.Tryz.func66 rfl rfl ?_; conv => simp (maxSteps := 2000000) (disch := omega) only [go_sem, Nat.reduceAdd, Nat.reduceSub, Nat.reduceMul, Int.reduceToNat, Nat.reduceEqDiff, Nat.reduceBEq, Nat.reduceBneDiff, Go.Proofs.Tryz.f66, List.replicate]
    refine guardd (fun h1 => ?_) (fun h1 => ?_)
    · have h1' := decide_eq_true h1
      conv => simp (maxSteps := 2000000) (disch := omega) only [go_sem, Nat.reduceAdd, Nat.reduceSub, Nat.reduceMul, Int.reduceToNat, Nat.reduceEqDiff, Nat.reduceBEq, Nat.reduceBneDiff, h1']
      refine callk (cRightBad a.c (by have := hs.1; omega) h2) ?_
      conv => simp (maxSteps := 2000000) (disch := omega) only [go_sem, Nat.reduceAdd, Nat.reduceSub, Nat.reduceMul, Int.reduceToNat, Nat.reduceEqDiff, Nat.reduceBEq, Nat.reduceBneDiff]
      exact ⟨_, rfl, .one (.refl _)⟩
    · have h1' := decide_eq_false h1
      conv => simp (maxSteps := 2000000) (disch := omega) only [go_sem, Nat.reduceAdd, Nat.reduceSub, Nat.reduceMul, Int.reduceToNat, Nat.reduceEqDiff, Nat.reduceBEq, Nat.reduceBneDiff, h1']
      exact ⟨_, rfl, .one (.refl _)⟩
theorem cAffRightN (a : Af) (n : Nat) (hl : a.l.length ≤ 1048576) (hs : a.le 67108864) :
    CallsTo prog 66 [.agg a.C, .one (.raw (.int .i64 n))] (.one (.raw (.bool (decide (a.ok n))))) := by
  have := cAffRight a n hl hs
  rwa [show decide ((a.l.length : Int) = n ∧ a.c.ok ∧ oks a.l) = decide (a.ok n) from decide_eq_decide.2 ⟨fun h => ⟨by have := h.1; omega, h.2⟩, fun h => ⟨by have := h.1; omega, h.2⟩⟩] at this
theorem sz_zero1 : (Fc.of 0).sz ≤ 1 := by
  show max (dig (0 : Int).natAbs).length (dig 1).length ≤ 1
  rw [show (0 : Int).natAbs = 0 from rfl, dig_zero, dig_pos (by decide), dig_zero]
  decide
theorem cCopyA (f : Fc) (h : f.sz ≤ 67108864) : CallsTo prog 70 [.agg f.C] (.agg (Af.copy f).C) := by
  have hz := sz_zero1
  have hA := cAddF f (Fc.of 0) h (by omega)
  refine CallsTo.run [] Go.Proofs.Tryz.func70 rfl rfl ?_; conv => simp (maxSteps := 2000000) (disch := omega) only [go_sem, Nat.reduceAdd, Nat.reduceSub, Nat.reduceMul, Int.reduceToNat, Nat.reduceEqDiff, Nat.reduceBEq, Nat.reduceBneDiff, Go.Proofs.Tryz.f70, List.replicate]
  refine callk (cIntF 0 (by decide)) ?_
  conv => simp (maxSteps := 2000000) (disch := omega) only [go_sem, Nat.reduceAdd, Nat.reduceSub, Nat.reduceMul, Int.reduceToNat, Nat.reduceEqDiff, Nat.reduceBEq, Nat.reduceBneDiff]
  refine callk hA ?_
  conv => simp (maxSteps := 2000000) (disch := omega) only [go_sem, Nat.reduceAdd, Nat.reduceSub, Nat.reduceMul, Int.reduceToNat, Nat.reduceEqDiff, Nat.reduceBEq, Nat.reduceBneDiff]
  refine indk (by kernel_rfl) ?_
  conv => simp (maxSteps := 2000000) (disch := omega) only [go_sem, Nat.reduceAdd, Nat.reduceSub, Nat.reduceMul, Int.reduceToNat, Nat.reduceEqDiff, Nat.reduceBEq, Nat.reduceBneDiff]
  exact ⟨_, rfl, .one (.refl _)⟩
theorem copy_sz (f : Fc) : (Af.copy f).sz ≤ f.sz + 2 := by
  have := Fc.sz_add f (Fc.of 0)
  have := sz_zero1
  unfold Af.copy; omega
theorem sum_sz {B : Nat} : ∀ (l v : List Fc) (s : Fc), (∀ f ∈ l, f.sz ≤ B) → (∀ f ∈ v, f.sz ≤ B) → (Af.sum s l v).sz ≤ s.sz + l.length * (2 * B + 1)
  | [], v, s, _, _ => by cases v <;> simp [Af.sum]
  | c :: cs, [], s, _, _ => by simp [Af.sum]
  | c :: cs, x :: vs, s, hl, hv => by
    have h := sum_sz cs vs (Fc.add s (Fc.mul c x)) (fun f hf => hl f (by simp [hf])) (fun f hf => hv f (by simp [hf]))
    have h1 := Fc.sz_add s (Fc.mul c x)
    have h2 := Fc.sz_mul c x
    have h3 := hl c (by simp)
    have h4 := hv x (by simp)
    simp only [Af.sum, List.length_cons]
    rw [Nat.add_mul, Nat.one_mul]
    omega
theorem cAt (a : Af) (v : List Fc) (hl : a.l.length ≤ 1024) (hv : v.length ≤ 1024) (hs : a.le 16384) (hsv : ∀ f ∈ v, f.sz ≤ 16384) :
    CallsTo prog 31 [.agg a.C, .one (.sl 4 (v.map Fc.C))] (.tup [.agg (a.at' v).C, .one (.raw (.bool (decide (a.ok v.length ∧ oks v))))]) := by
  have hs' : a.le 67108864 := ⟨by have := hs.1; omega, fun f hf => by have := hs.2 f hf; omega⟩
  have hsv' : ∀ f ∈ v, f.sz ≤ 67108864 := fun f hf => by have := hsv f hf; omega
  have hr := cAffRightN a v.length (by omega) hs'
  have hw := cWrongs v (by omega) hsv'
  by_cases h1 : a.ok v.length
  · rw [decide_eq_true h1] at hr
    by_cases h2 : oks v
    · rw [decide_eq_true h2] at hw
      rw [decide_eq_true ⟨h1, h2⟩, show a.at' v = Af.sum (Af.copy a.c) a.l v from if_pos ⟨h1, h2⟩]
      have hlen := h1.1
      refine CallsTo.run [] Go.Proofs.Tryz.func31 rfl rfl ?_; conv => simp (maxSteps := 2000000) (disch := omega) only [go_sem, Nat.reduceAdd, Nat.reduceSub, Nat.reduceMul, Int.reduceToNat, Nat.reduceEqDiff, Nat.reduceBEq, Nat.reduceBneDiff, Go.Proofs.Tryz.f31, List.replicate]
      refine callk hr ?_
      conv => simp (maxSteps := 2000000) (disch := omega) only [go_sem, Nat.reduceAdd, Nat.reduceSub, Nat.reduceMul, Int.reduceToNat, Nat.reduceEqDiff, Nat.reduceBEq, Nat.reduceBneDiff]
      refine callk hw ?_
      conv => simp (maxSteps := 2000000) (disch := omega) only [go_sem, Nat.reduceAdd, Nat.reduceSub, Nat.reduceMul, Int.reduceToNat, Nat.reduceEqDiff, Nat.reduceBEq, Nat.reduceBneDiff]
      refine callk (cCopyA a.c hs'.1) ?_
      conv => simp (maxSteps := 2000000) (disch := omega) only [go_sem, Nat.reduceAdd, Nat.reduceSub, Nat.reduceMul, Int.reduceToNat, Nat.reduceEqDiff, Nat.reduceBEq, Nat.reduceBneDiff]
      have hcs := copy_sz a.c
      have hc1 := hs.1
      refine loopo [24, 25] (fun x : Nat × Fc => [(6, .box x.2.C), (26, .one (.raw (.int .i64 x.1)))])
        (fun x => x.1 ≤ v.length ∧ x.2.sz ≤ 16386 + x.1 * 32769 ∧ Af.sum (Af.copy a.c) a.l v = Af.sum x.2 (a.l.drop x.1) (v.drop x.1)) (fun x => v.length - x.1) (0, Af.copy a.c) ⟨Nat.zero_le _, by dsimp only; omega, rfl⟩ ?_ ?_
      · conv => simp (maxSteps := 2000000) (disch := omega) only [go_sem, Nat.reduceAdd, Nat.reduceSub, Nat.reduceMul, Int.reduceToNat, Nat.reduceEqDiff, Nat.reduceBEq, Nat.reduceBneDiff]
        exact StLe.weaken (by repeat' first | exact .nil | refine .cons (by first | exact .refl _ | exact .any _) ?_) rfl
      rintro ⟨i, s⟩ ⟨hi, hss, he⟩
      simp only at hi hss he
      conv => simp (maxSteps := 2000000) (disch := omega) only [go_sem, Nat.reduceAdd, Nat.reduceSub, Nat.reduceMul, Int.reduceToNat, Nat.reduceEqDiff, Nat.reduceBEq, Nat.reduceBneDiff]
      refine condd (fun h => ?_) (fun h => ?_)
      · have hi1 : i < v.length := by omega
        have hi2 : i < a.l.length := by omega
        have hb1 := getD_sz hs.2 hi2
        have hb2 := getD_sz hsv hi1
        rw [drop_cons Fc.zero hi2, drop_cons Fc.zero hi1] at he
        have hm := Fc.sz_mul (a.l.getD i Fc.zero) (v.getD i Fc.zero)
        have ha := Fc.sz_add s (Fc.mul (a.l.getD i Fc.zero) (v.getD i Fc.zero))
        have hi3 : i * 32769 ≤ 1024 * 32769 := Nat.mul_le_mul_right _ (by omega)
        conv => simp (maxSteps := 2000000) (disch := omega) only [go_sem, Nat.reduceAdd, Nat.reduceSub, Nat.reduceMul, Int.reduceToNat, Nat.reduceEqDiff, Nat.reduceBEq, Nat.reduceBneDiff]
        refine callk (cMulF (a.l.getD i Fc.zero) (v.getD i Fc.zero) (by omega) (by omega)) ?_
        conv => simp (maxSteps := 2000000) (disch := omega) only [go_sem, Nat.reduceAdd, Nat.reduceSub, Nat.reduceMul, Int.reduceToNat, Nat.reduceEqDiff, Nat.reduceBEq, Nat.reduceBneDiff]
        refine indk (by kernel_rfl) ?_
        conv => simp (maxSteps := 2000000) (disch := omega) only [go_sem, Nat.reduceAdd, Nat.reduceSub, Nat.reduceMul, Int.reduceToNat, Nat.reduceEqDiff, Nat.reduceBEq, Nat.reduceBneDiff]
        refine callk (cAddF s (Fc.mul (a.l.getD i Fc.zero) (v.getD i Fc.zero)) (by omega) (by omega)) ?_
        conv => simp (maxSteps := 2000000) (disch := omega) only [go_sem, Nat.reduceAdd, Nat.reduceSub, Nat.reduceMul, Int.reduceToNat, Nat.reduceEqDiff, Nat.reduceBEq, Nat.reduceBneDiff]
        exact ⟨(i + 1, Fc.add s (Fc.mul (a.l.getD i Fc.zero) (v.getD i Fc.zero))), ⟨by dsimp only; omega, by dsimp only; omega, he⟩, by dsimp only; omega, StLe.weaken (by repeat' first | exact .nil | refine .cons (by first | exact .refl _ | exact .any _) ?_) rfl⟩
      · have hi' : i = v.length := by omega
        rw [hi', List.drop_length] at he
        have he : Af.sum (Af.copy a.c) a.l v = s := by rw [he]; cases List.drop v.length a.l <;> rfl
        conv => simp (maxSteps := 2000000) (disch := omega) only [go_sem, Nat.reduceAdd, Nat.reduceSub, Nat.reduceMul, Int.reduceToNat, Nat.reduceEqDiff, Nat.reduceBEq, Nat.reduceBneDiff]
        exact ⟨_, rfl, by rw [he]; exact .tup (.cons (.refl _) (.cons (.refl _) .nil))⟩
    · rw [decide_eq_false h2] at hw
      rw [decide_eq_false (fun h => h2 h.2), show a.at' v = Fc.zero from if_neg (fun h => h2 h.2)]
      refine CallsTo.run [] Go.Proofs.Tryz.func31 rfl rfl ?_; conv => simp (maxSteps := 2000000) (disch := omega) only [go_sem, Nat.reduceAdd, Nat.reduceSub, Nat.reduceMul, Int.reduceToNat, Nat.reduceEqDiff, Nat.reduceBEq, Nat.reduceBneDiff, Go.Proofs.Tryz.f31, List.replicate]
      refine callk hr ?_
      conv => simp (maxSteps := 2000000) (disch := omega) only [go_sem, Nat.reduceAdd, Nat.reduceSub, Nat.reduceMul, Int.reduceToNat, Nat.reduceEqDiff, Nat.reduceBEq, Nat.reduceBneDiff]
      refine callk hw ?_
      conv => simp (maxSteps := 2000000) (disch := omega) only [go_sem, Nat.reduceAdd, Nat.reduceSub, Nat.reduceMul, Int.reduceToNat, Nat.reduceEqDiff, Nat.reduceBEq, Nat.reduceBneDiff]
      exact ⟨_, rfl, .tup (.cons zeroLe (.cons (.refl _) .nil))⟩
  · rw [decide_eq_false h1] at hr
    rw [decide_eq_false (fun h => h1 h.1), show a.at' v = Fc.zero from if_neg (fun h => h1 h.1)]
    refine CallsTo.run [] Go.Proofs.Tryz.func31 rfl rfl ?_; conv => simp (maxSteps := 2000000) (disch := omega) only [go_sem, Nat.reduceAdd, Nat.reduceSub, Nat.reduceMul, Int.reduceToNat, Nat.reduceEqDiff, Nat.reduceBEq, Nat.reduceBneDiff, Go.Proofs.Tryz.f31, List.replicate]
    refine callk hr ?_
    conv => simp (maxSteps := 2000000) (disch := omega) only [go_sem, Nat.reduceAdd, Nat.reduceSub, Nat.reduceMul, Int.reduceToNat, Nat.reduceEqDiff, Nat.reduceBEq, Nat.reduceBneDiff]
    exact ⟨_, rfl, .tup (.cons zeroLe (.cons (.refl _) .nil))⟩
end Go.Slot.T

/- Contracts of package affine: each, Plus, Times. -/
namespace Go.Slot.T
open Go Go.RowKit Go.Slot
open Go.Proofs.Tryz (prog)
set_option maxRecDepth 10000
set_option maxHeartbeats 4000000

/-- what a function of two fractions does -/
def FF (B : Nat) (op : Fc → Fc → Fc) (e : Fc → Fc → Int) (args : List AV) (res : AV) : Prop :=
  ∃ x y : Fc, x.sz ≤ B ∧ y.sz ≤ B ∧ args = [.agg x.C, .agg y.C] ∧ res = .tup [.agg (op x y).C, .one (.raw (.int .i64 (e x y)))]
theorem callable_of {f : FuncId} {args : List AV} {res : AV} (h : CallsTo prog f args res) : Callable prog f := h.1
/-- a plain function as an argument, known by what it does -/
theorem CallsTo.fn2 {f g : FuncId} {F : List AV → AV → Prop} {a b res : AV} (h : CallsTo prog f [a, b, .one (.fnp (FnSpec prog F))] res) (hc : Callable prog g) (hF : ∀ args res, F args res → CallsTo prog g args res) :
    CallsTo prog f [a, b, .one (.raw (.func (.func g) #[] #[]))] res :=
  ⟨h.1, fun M w vs hM hr => h.2 M w vs hM (by
    match vs, hr with
    | [u, v, x], hr => exact ⟨hr.1, hr.2.1, fnp_of_raw hc hF hr.2.2.1, trivial⟩)⟩
theorem zip_snoc {op : Fc → Fc → Fc} {l m : List Fc} {i : Nat} (h1 : i < l.length) (h2 : i < m.length) :
    (List.zipWith op (l.take i) (m.take i)).map Fc.C ++ [(op (l.getD i Fc.zero) (m.getD i Fc.zero)).C] = (List.zipWith op (l.take (i + 1)) (m.take (i + 1))).map Fc.C := by
  have e1 : l.take (i + 1) = l.take i ++ [l.getD i Fc.zero] := by rw [List.take_add_one]; simp [h1]
  have e2 : m.take (i + 1) = m.take i ++ [m.getD i Fc.zero] := by rw [List.take_add_one]; simp [h2]
  rw [e1, e2, List.zipWith_append (by simp; omega)]
  simp
theorem cEach (B : Nat) (op : Fc → Fc → Fc) (e : Fc → Fc → Int) (a b : Af) (hl : a.l.length ≤ b.l.length) (hb : a.l.length ≤ 1048576) (ha : a.le B) (hbb : b.le B) :
    CallsTo prog 152 [.agg a.C, .agg b.C, .one (.fnp (FnSpec prog (FF B op e)))] (.agg (Af.each op a b).C) := by
  refine CallsTo.run [] Go.Proofs.Tryz.func152 rfl rfl ?_; conv => simp (maxSteps := 2000000) (disch := omega) only [go_sem, Nat.reduceAdd, Nat.reduceSub, Nat.reduceMul, Int.reduceToNat, Nat.reduceEqDiff, Nat.reduceBEq, Nat.reduceBneDiff, Go.Proofs.Tryz.f152, List.replicate]
  refine fnk (F := FF B op e) ⟨a.c, b.c, ha.1, hbb.1, rfl, rfl⟩ ?_
  conv => simp (maxSteps := 2000000) (disch := omega) only [go_sem, Nat.reduceAdd, Nat.reduceSub, Nat.reduceMul, Int.reduceToNat, Nat.reduceEqDiff, Nat.reduceBEq, Nat.reduceBneDiff]
  refine loopo [2, 3, 4, 23, 24] (fun i : Nat => [(7, .box [.raw (.int .i64 (op a.c b.c).s), .ints .i64 (op a.c b.c).L, .raw (.int .i64 (op a.c b.c).t), .ints .i64 (op a.c b.c).M, if i = 0 then .zc else .tok 45 (.sl 4 ((List.zipWith op (a.l.take i) (b.l.take i)).map Fc.C))]), (25, .one (.raw (.int .i64 i)))])
    (fun i => i ≤ a.l.length) (fun i => a.l.length - i) 0 (Nat.zero_le _) ?_ ?_
  · conv => simp (maxSteps := 2000000) (disch := omega) only [go_sem, Nat.reduceAdd, Nat.reduceSub, Nat.reduceMul, Int.reduceToNat, Nat.reduceEqDiff, Nat.reduceBEq, Nat.reduceBneDiff]
    exact StLe.weaken (by repeat' first | exact .nil | refine .cons (by first | exact .refl _ | exact .any _) ?_) rfl
  rintro i hi
  have hbyte : ∀ n : Nat, n ≤ 1048576 → (n + 1) * 64 ≤ 140737488355328 ∧ n + 1 ≤ 9223372036854775807 := fun n hn => by omega
  have hz : (List.zipWith op (a.l.take i) (b.l.take i)).length = i := by simp; omega
  have body : ∀ h : i < a.l.length, FF B op e [.agg (a.l.getD i Fc.zero).C, .agg (b.l.getD i Fc.zero).C] (.tup [.agg (op (a.l.getD i Fc.zero) (b.l.getD i Fc.zero)).C, .one (.raw (.int .i64 (e (a.l.getD i Fc.zero) (b.l.getD i Fc.zero))))]) := fun h =>
    ⟨_, _, getD_sz ha.2 h, getD_sz hbb.2 (by omega), rfl, rfl⟩
  have fin : i = a.l.length → List.zipWith op (a.l.take i) (b.l.take i) = List.zipWith op a.l b.l := fun h => by
    rw [h, List.take_length]
    conv => rhs; rw [List.zipWith_eq_zipWith_take_min]
    rw [Nat.min_eq_left hl, List.take_length]
  by_cases h0 : i = 0
  · subst h0
    conv => simp (maxSteps := 2000000) (disch := omega) only [go_sem, Nat.reduceAdd, Nat.reduceSub, Nat.reduceMul, Int.reduceToNat, Nat.reduceEqDiff, Nat.reduceBEq, Nat.reduceBneDiff]
    refine condd (fun h => ?_) (fun h => ?_)
    · have hsn := zip_snoc (op := op) (l := a.l) (m := b.l) (i := 0) (by omega) (by omega)
      simp only [List.take_zero, List.zipWith_nil_left, List.map_nil, List.nil_append] at hsn
      conv => simp (maxSteps := 2000000) (disch := omega) only [go_sem, Nat.reduceAdd, Nat.reduceSub, Nat.reduceMul, Int.reduceToNat, Nat.reduceEqDiff, Nat.reduceBEq, Nat.reduceBneDiff]
      refine fnk (F := FF B op e) (body (by omega)) ?_
      conv => simp (maxSteps := 2000000) (disch := omega) only [go_sem, Nat.reduceAdd, Nat.reduceSub, Nat.reduceMul, Int.reduceToNat, Nat.reduceEqDiff, Nat.reduceBEq, Nat.reduceBneDiff]
      refine indk (by kernel_rfl) ?_
      conv => simp (maxSteps := 2000000) (disch := omega) only [go_sem, Nat.reduceAdd, Nat.reduceSub, Nat.reduceMul, Int.reduceToNat, Nat.reduceEqDiff, Nat.reduceBEq, Nat.reduceBneDiff]
      refine ⟨1, by omega, by omega, ?_⟩
      rw [if_neg (by decide), ← hsn]
      exact StLe.weaken (by repeat' first | exact .nil | refine .cons (by first | exact .refl _ | exact .any _) ?_) rfl
    · have fin := fin (by omega)
      simp only [List.take_zero, List.zipWith_nil_left] at fin
      conv => simp (maxSteps := 2000000) (disch := omega) only [go_sem, Nat.reduceAdd, Nat.reduceSub, Nat.reduceMul, Int.reduceToNat, Nat.reduceEqDiff, Nat.reduceBEq, Nat.reduceBneDiff]
      refine ⟨_, rfl, ?_⟩
      unfold Af.each
      rw [← fin]
      exact .one (.agg (.cons (.refl _) (.cons (.refl _) (.cons (.refl _) (.cons (.refl _) (.cons (.zcSl _) .nil))))))
  · rw [if_neg h0]
    conv => simp (maxSteps := 2000000) (disch := omega) only [go_sem, Nat.reduceAdd, Nat.reduceSub, Nat.reduceMul, Int.reduceToNat, Nat.reduceEqDiff, Nat.reduceBEq, Nat.reduceBneDiff]
    refine condd (fun h => ?_) (fun h => ?_)
    · have hsn := zip_snoc (op := op) (l := a.l) (m := b.l) (i := i) (by omega) (by omega)
      conv => simp (maxSteps := 2000000) (disch := omega) only [go_sem, Nat.reduceAdd, Nat.reduceSub, Nat.reduceMul, Int.reduceToNat, Nat.reduceEqDiff, Nat.reduceBEq, Nat.reduceBneDiff]
      refine fnk (F := FF B op e) (body (by omega)) ?_
      conv => simp (maxSteps := 2000000) (disch := omega) only [go_sem, Nat.reduceAdd, Nat.reduceSub, Nat.reduceMul, Int.reduceToNat, Nat.reduceEqDiff, Nat.reduceBEq, Nat.reduceBneDiff, hz]
      refine indk (by kernel_rfl) ?_
      conv => simp (maxSteps := 2000000) (disch := omega) only [go_sem, Nat.reduceAdd, Nat.reduceSub, Nat.reduceMul, Int.reduceToNat, Nat.reduceEqDiff, Nat.reduceBEq, Nat.reduceBneDiff]
      refine ⟨i + 1, by omega, by omega, ?_⟩
      rw [if_neg (by omega), ← hsn]
      exact StLe.weaken (by repeat' first | exact .nil | refine .cons (by first | exact .refl _ | exact .any _) ?_) rfl
    · have fin := fin (by omega)
      conv => simp (maxSteps := 2000000) (disch := omega) only [go_sem, Nat.reduceAdd, Nat.reduceSub, Nat.reduceMul, Int.reduceToNat, Nat.reduceEqDiff, Nat.reduceBEq, Nat.reduceBneDiff]
      refine ⟨_, rfl, ?_⟩
      unfold Af.each
      rw [← fin]
      exact .one (.agg (.cons (.refl _) (.cons (.refl _) (.cons (.refl _) (.cons (.refl _) (.cons (.refl _) .nil))))))
theorem zeroA : AV.Le (.agg [.raw (.int .i64 0), .zc, .raw (.int .i64 0), .zc, .zc]) (.agg Af.zero.C) :=
  .agg (.cons (.refl _) (.cons (.zcInts _) (.cons (.refl _) (.cons (.zcInts _) (.cons (.zcSl _) .nil)))))
theorem cTimes1 (x y f : Fc) (hx : x.sz ≤ 67108864) (hf : f.sz ≤ 67108864) :
    CallsTo prog 180 [.agg x.C, .agg y.C, .elt f.C] (.tup [.agg (Fc.mul x f).C, .one (.raw (.int .i64 (Fc.er (x.ok ∧ f.ok))))]) := by
  refine CallsTo.run [] Go.Proofs.Tryz.func180 rfl rfl ?_; conv => simp (maxSteps := 2000000) (disch := omega) only [go_sem, Nat.reduceAdd, Nat.reduceSub, Nat.reduceMul, Int.reduceToNat, Nat.reduceEqDiff, Nat.reduceBEq, Nat.reduceBneDiff, Go.Proofs.Tryz.f180, List.replicate]
  refine callk (cMulF x f hx hf) ?_
  conv => simp (maxSteps := 2000000) (disch := omega) only [go_sem, Nat.reduceAdd, Nat.reduceSub, Nat.reduceMul, Int.reduceToNat, Nat.reduceEqDiff, Nat.reduceBEq, Nat.reduceBneDiff]
  exact ⟨_, rfl, .tup (.cons (.refl _) (.cons (.refl _) .nil))⟩
theorem cTimesA (a : Af) (f : Fc) (la : a.l.length ≤ 1048576) (ha : a.le 67108864) (hf : f.sz ≤ 67108864) :
    CallsTo prog 151 [.agg a.C, .agg f.C] (.tup [.agg (Af.times a f).C, .one (.raw (.int .i64 (Fc.er (a.ok a.l.length ∧ f.ok))))]) := by
  have hra := cAffRightN a a.l.length la ha
  have hw := cWrong f hf
  by_cases h1 : a.ok a.l.length
  · rw [decide_eq_true h1] at hra
    by_cases h2 : f.ok
    · rw [decide_eq_true h2] at hw
      rw [Fc.er_of ⟨h1, h2⟩, show Af.times a f = Af.each (fun x _ => Fc.mul x f) a a from if_pos ⟨h1, h2⟩]
      have hE := cEach 67108864 (fun x _ => Fc.mul x f) (fun x _ => Fc.er (x.ok ∧ f.ok)) a a (Nat.le_refl _) la ha ha
      refine CallsTo.run [(3, [.frz 3])] Go.Proofs.Tryz.func151 rfl rfl ?_; conv => simp (maxSteps := 2000000) (disch := omega) only [go_sem, Nat.reduceAdd, Nat.reduceSub, Nat.reduceMul, Int.reduceToNat, Nat.reduceEqDiff, Nat.reduceBEq, Nat.reduceBneDiff, Go.Proofs.Tryz.f151, List.replicate]
      refine callk hra ?_
      conv => simp (maxSteps := 2000000) (disch := omega) only [go_sem, Nat.reduceAdd, Nat.reduceSub, Nat.reduceMul, Int.reduceToNat, Nat.reduceEqDiff, Nat.reduceBEq, Nat.reduceBneDiff]
      refine callk hw ?_
      conv => simp (maxSteps := 2000000) (disch := omega) only [go_sem, Nat.reduceAdd, Nat.reduceSub, Nat.reduceMul, Int.reduceToNat, Nat.reduceEqDiff, Nat.reduceBEq, Nat.reduceBneDiff]
      refine mkk (FF 67108864 (fun x _ => Fc.mul x f) (fun x _ => Fc.er (x.ok ∧ f.ok))) (cTimes1 f f f hf hf).1 (fun args res ⟨x, y, hx, hy, h1, h2⟩ => by subst h1 h2; exact cTimes1 x y f hx hf) ?_
      conv => simp (maxSteps := 2000000) (disch := omega) only [go_sem, Nat.reduceAdd, Nat.reduceSub, Nat.reduceMul, Int.reduceToNat, Nat.reduceEqDiff, Nat.reduceBEq, Nat.reduceBneDiff]
      refine callk hE ?_
      conv => simp (maxSteps := 2000000) (disch := omega) only [go_sem, Nat.reduceAdd, Nat.reduceSub, Nat.reduceMul, Int.reduceToNat, Nat.reduceEqDiff, Nat.reduceBEq, Nat.reduceBneDiff]
      exact ⟨_, rfl, .tup (.cons (.refl _) (.cons (.refl _) .nil))⟩
    · rw [decide_eq_false h2] at hw
      rw [Fc.er_bad (fun h => h2 h.2), show Af.times a f = Af.zero from if_neg (fun h => h2 h.2)]
      refine CallsTo.run [] Go.Proofs.Tryz.func151 rfl rfl ?_; conv => simp (maxSteps := 2000000) (disch := omega) only [go_sem, Nat.reduceAdd, Nat.reduceSub, Nat.reduceMul, Int.reduceToNat, Nat.reduceEqDiff, Nat.reduceBEq, Nat.reduceBneDiff, Go.Proofs.Tryz.f151, List.replicate]
      refine callk hra ?_
      conv => simp (maxSteps := 2000000) (disch := omega) only [go_sem, Nat.reduceAdd, Nat.reduceSub, Nat.reduceMul, Int.reduceToNat, Nat.reduceEqDiff, Nat.reduceBEq, Nat.reduceBneDiff]
      refine callk hw ?_
      conv => simp (maxSteps := 2000000) (disch := omega) only [go_sem, Nat.reduceAdd, Nat.reduceSub, Nat.reduceMul, Int.reduceToNat, Nat.reduceEqDiff, Nat.reduceBEq, Nat.reduceBneDiff]
      exact ⟨_, rfl, .tup (.cons zeroA (.cons (.refl _) .nil))⟩
  · rw [decide_eq_false h1] at hra
    rw [Fc.er_bad (fun h => h1 h.1), show Af.times a f = Af.zero from if_neg (fun h => h1 h.1)]
    refine CallsTo.run [] Go.Proofs.Tryz.func151 rfl rfl ?_; conv => simp (maxSteps := 2000000) (disch := omega) only [go_sem, Nat.reduceAdd, Nat.reduceSub, Nat.reduceMul, Int.reduceToNat, Nat.reduceEqDiff, Nat.reduceBEq, Nat.reduceBneDiff, Go.Proofs.Tryz.f151, List.replicate]
    refine callk hra ?_
    conv => simp (maxSteps := 2000000) (disch := omega) only [go_sem, Nat.reduceAdd, Nat.reduceSub, Nat.reduceMul, Int.reduceToNat, Nat.reduceEqDiff, Nat.reduceBEq, Nat.reduceBneDiff]
    exact ⟨_, rfl, .tup (.cons zeroA (.cons (.refl _) .nil))⟩
end Go.Slot.T

/- Plain laws: what package back gives, on data. -/
namespace Go.Slot
open Go Go.RowKit Go.Slot.T
def okS (l : List Sc) : Prop := ∀ s ∈ l, s.ok
instance (l : List Sc) : Decidable (okS l) := inferInstanceAs (Decidable (∀ s ∈ l, s.ok))
theorem okS_cons {f : Sc} {l : List Sc} : okS (f :: l) ↔ f.ok ∧ okS l := ⟨fun h => ⟨h f (by simp), fun g hg => h g (by simp [hg])⟩, fun h g hg => by
  rcases List.mem_cons.1 hg with rfl | hg
  · exact h.1
  · exact h.2 g hg⟩
theorem okS_any : ∀ (l : List Sc), (l.any fun f => !decide f.ok) = !decide (okS l)
  | [] => by simp [okS]
  | f :: l => by
    rw [List.any_cons, okS_any l, decide_eq_decide.2 okS_cons, Bool.decide_and, Bool.not_and]
namespace Bk
def ok (f : Af) (l : List Sc) : Prop := f.ok l.length ∧ okS l
instance (f : Af) (l : List Sc) : Decidable (ok f l) := inferInstanceAs (Decidable (_ ∧ _))
def lo (c : Fc) (s : Sc) : Fc := if Fc.sign c < 0 then Af.copy s.high else Af.copy s.low
def hi (c : Fc) (s : Sc) : Fc := if Fc.sign c < 0 then Af.copy s.low else Af.copy s.high
def lows (f : Af) (l : List Sc) : List Fc := List.zipWith lo f.l l
def highs (f : Af) (l : List Sc) : List Fc := List.zipWith hi f.l l
def bounds (f : Af) (l : List Sc) : Sc := if ok f l then ⟨f.at' (lows f l), f.at' (highs f l)⟩ else Sc.zero
def swing (c : Fc) (s : Sc) : Fc := Fc.maxf (Fc.mul c (Sc.width s)) (Fc.neg (Fc.mul c (Sc.width s)))
def nar : Nat → Int × Fc → List Fc → List Sc → Int × Fc
  | i, st, c :: cs, s :: ss => nar (i + 1) (if Fc.cmp (swing c s) st.2 > 0 then ((i : Int), swing c s) else st) cs ss
  | _, st, _, _ => st
def narrow (f : Af) (l : List Sc) : Int × Fc × Int := if ok f l then (if l.length = 0 then (0, Fc.zero, 4) else ((nar 0 (0, Fc.of 0) f.l l).1, (nar 0 (0, Fc.of 0) f.l l).2, 0)) else (0, Fc.zero, 1)
def flo : Fc → List Fc → List Fc → List Sc → Option Fc
  | s, u :: d :: ms, c :: cs, p :: ps => if Fc.sub u d = c then flo (Fc.add s (Fc.sub (Fc.mul u p.low) (Fc.mul d p.high))) ms cs ps else none
  | s, _, _, _ => some s
/-- multipliers that may be used -/
def okM (l : List Fc) : Prop := ∀ m ∈ l, m.ok ∧ 0 ≤ Fc.sign m
instance (l : List Fc) : Decidable (okM l) := inferInstanceAs (Decidable (∀ m ∈ l, _ ∧ _))
def verdict (v : Fc) : Option Fc → Bool
  | some s => decide (0 ≤ Fc.cmp s v)
  | none => false
def floor (f : Af) (l : List Sc) (v : Fc) (ms : List Fc) : Bool := if ok f l ∧ v.ok ∧ ms.length = 2 * l.length ∧ okM ms then verdict v (flo f.c ms f.l l) else false
theorem okM_cons {f : Fc} {l : List Fc} : okM (f :: l) ↔ (f.ok ∧ 0 ≤ Fc.sign f) ∧ okM l := ⟨fun h => ⟨h f (by simp), fun g hg => h g (by simp [hg])⟩, fun h g hg => by
  rcases List.mem_cons.1 hg with rfl | hg
  · exact h.1
  · exact h.2 g hg⟩
theorem okM_any : ∀ (l : List Fc), (l.any fun f => !decide (f.ok ∧ 0 ≤ Fc.sign f)) = !decide (okM l)
  | [] => by simp [okM]
  | f :: l => by
    rw [List.any_cons, okM_any l, decide_eq_decide.2 okM_cons, Bool.decide_and (f.ok ∧ 0 ≤ Fc.sign f), Bool.not_and]
end Bk
theorem take_snoc {α : Type} {l : List α} {i : Nat} (d : α) (h : i < l.length) : l.take (i + 1) = l.take i ++ [l.getD i d] := by
  rw [List.take_add_one]; simp [h]
theorem zipG_snoc {α β : Type} {op : α → β → Fc} {l : List α} {m : List β} {i : Nat} (a : α) (b : β) (h1 : i < l.length) (h2 : i < m.length) :
    (List.zipWith op (l.take i) (m.take i)).map Fc.C ++ [(op (l.getD i a) (m.getD i b)).C] = (List.zipWith op (l.take (i + 1)) (m.take (i + 1))).map Fc.C := by
  rw [take_snoc a h1, take_snoc b h2, List.zipWith_append (by simp; omega)]
  simp
end Go.Slot

/- Contracts of package back. -/
namespace Go.Slot.T
open Go Go.RowKit Go.Slot
open Go.Proofs.Tryz (prog)
set_option maxRecDepth 10000
set_option maxHeartbeats 4000000

/-- sizes that package back is asked for -/
def small (f : Af) (l : List Sc) : Prop := f.l.length ≤ 1024 ∧ l.length ≤ 1024 ∧ f.le 4096 ∧ ∀ s ∈ l, s.sz ≤ 4096
theorem getS_sz {l : List Sc} {n : Nat} (h : ∀ f ∈ l, f.sz ≤ n) {i : Nat} (hi : i < l.length) : (l.getD i Sc.zero).sz ≤ n := h _ (by simp [hi])
theorem le_mono {f : Af} {m n : Nat} (h : f.le m) (hmn : m ≤ n) : f.le n := ⟨Nat.le_trans h.1 hmn, fun g hg => Nat.le_trans (h.2 g hg) hmn⟩
theorem cBright1 (s : Sc) (h : s.sz ≤ 67108864) : CallsTo prog 65 [.agg s.C] (.one (.raw (.bool (!decide s.ok)))) := by
  refine CallsTo.run [] Go.Proofs.Tryz.func65 rfl rfl ?_; conv => simp (maxSteps := 2000000) (disch := omega) only [go_sem, Nat.reduceAdd, Nat.reduceSub, Nat.reduceMul, Int.reduceToNat, Nat.reduceEqDiff, Nat.reduceBEq, Nat.reduceBneDiff, Go.Proofs.Tryz.f65, List.replicate]
  refine callk (cSpanRight s h) ?_
  conv => simp (maxSteps := 2000000) (disch := omega) only [go_sem, Nat.reduceAdd, Nat.reduceSub, Nat.reduceMul, Int.reduceToNat, Nat.reduceEqDiff, Nat.reduceBEq, Nat.reduceBneDiff]
  exact ⟨_, rfl, .one (.refl _)⟩
theorem cBright (f : Af) (l : List Sc) (hs : small f l) : CallsTo prog 29 [.agg f.C, .one (.sl 8 (l.map Sc.C))] (.one (.raw (.bool (decide (Bk.ok f l))))) := by
  obtain ⟨h1, h2, h3, h4⟩ := hs
  have hr := cAffRightN f l.length (by omega) (le_mono h3 (by omega))
  have hw := cContainsSp 65 (fun s => !decide s.ok) l (by omega) (fun i hi => cBright1 _ (by have := getS_sz h4 hi; omega))
  rw [okS_any] at hw
  by_cases h5 : f.ok l.length
  · rw [decide_eq_true h5] at hr
    rw [show decide (Bk.ok f l) = decide (okS l) from decide_eq_decide.2 ⟨fun h => h.2, fun h => ⟨h5, h⟩⟩]
    refine CallsTo.run [] Go.Proofs.Tryz.func29 rfl rfl ?_; conv => simp (maxSteps := 2000000) (disch := omega) only [go_sem, Nat.reduceAdd, Nat.reduceSub, Nat.reduceMul, Int.reduceToNat, Nat.reduceEqDiff, Nat.reduceBEq, Nat.reduceBneDiff, Go.Proofs.Tryz.f29, List.replicate]
    refine callk hr ?_
    conv => simp (maxSteps := 2000000) (disch := omega) only [go_sem, Nat.reduceAdd, Nat.reduceSub, Nat.reduceMul, Int.reduceToNat, Nat.reduceEqDiff, Nat.reduceBEq, Nat.reduceBneDiff]
    refine callk hw ?_
    conv => simp (maxSteps := 2000000) (disch := omega) only [go_sem, Nat.reduceAdd, Nat.reduceSub, Nat.reduceMul, Int.reduceToNat, Nat.reduceEqDiff, Nat.reduceBEq, Nat.reduceBneDiff, Bool.not_not]
    exact ⟨_, rfl, .one (.refl _)⟩
  · rw [decide_eq_false h5] at hr
    rw [decide_eq_false (fun h => h5 h.1)]
    refine CallsTo.run [] Go.Proofs.Tryz.func29 rfl rfl ?_; conv => simp (maxSteps := 2000000) (disch := omega) only [go_sem, Nat.reduceAdd, Nat.reduceSub, Nat.reduceMul, Int.reduceToNat, Nat.reduceEqDiff, Nat.reduceBEq, Nat.reduceBneDiff, Go.Proofs.Tryz.f29, List.replicate]
    refine callk hr ?_
    conv => simp (maxSteps := 2000000) (disch := omega) only [go_sem, Nat.reduceAdd, Nat.reduceSub, Nat.reduceMul, Int.reduceToNat, Nat.reduceEqDiff, Nat.reduceBEq, Nat.reduceBneDiff]
    exact ⟨_, rfl, .one (.refl _)⟩
theorem cCopied (f : Fc) (h : f.sz ≤ 67108864) : CallsTo prog 68 [.agg f.C] (.agg (Af.copy f).C) := by
  have hz := sz_zero1
  have hA := cAddF f (Fc.of 0) h (by omega)
  refine CallsTo.run [] Go.Proofs.Tryz.func68 rfl rfl ?_; conv => simp (maxSteps := 2000000) (disch := omega) only [go_sem, Nat.reduceAdd, Nat.reduceSub, Nat.reduceMul, Int.reduceToNat, Nat.reduceEqDiff, Nat.reduceBEq, Nat.reduceBneDiff, Go.Proofs.Tryz.f68, List.replicate]
  refine callk (cIntF 0 (by decide)) ?_
  conv => simp (maxSteps := 2000000) (disch := omega) only [go_sem, Nat.reduceAdd, Nat.reduceSub, Nat.reduceMul, Int.reduceToNat, Nat.reduceEqDiff, Nat.reduceBEq, Nat.reduceBneDiff]
  refine callk hA ?_
  conv => simp (maxSteps := 2000000) (disch := omega) only [go_sem, Nat.reduceAdd, Nat.reduceSub, Nat.reduceMul, Int.reduceToNat, Nat.reduceEqDiff, Nat.reduceBEq, Nat.reduceBneDiff]
  refine indk (by kernel_rfl) ?_
  conv => simp (maxSteps := 2000000) (disch := omega) only [go_sem, Nat.reduceAdd, Nat.reduceSub, Nat.reduceMul, Int.reduceToNat, Nat.reduceEqDiff, Nat.reduceBEq, Nat.reduceBneDiff]
  exact ⟨_, rfl, .one (.refl _)⟩
theorem cCorners (f : Af) (l : List Sc) (hs : small f l) (hlen : f.l.length = l.length) :
    CallsTo prog 30 [.agg f.C, .one (.sl 8 (l.map Sc.C))] (.tup [.one (.sl 4 ((Bk.lows f l).map Fc.C)), .one (.sl 4 ((Bk.highs f l).map Fc.C))]) := by
  obtain ⟨h1, h2, h3, h4⟩ := hs
  refine CallsTo.run [] Go.Proofs.Tryz.func30 rfl rfl ?_; conv => simp (maxSteps := 2000000) (disch := omega) only [go_sem, Nat.reduceAdd, Nat.reduceSub, Nat.reduceMul, Int.reduceToNat, Nat.reduceEqDiff, Nat.reduceBEq, Nat.reduceBneDiff, Go.Proofs.Tryz.f30, List.replicate]
  refine loopo [2, 10, 11] (fun i : Nat => [(4, .one (.tok 35 (.sl 4 ((List.zipWith Bk.lo (f.l.take i) (l.take i)).map Fc.C)))), (5, .one (.tok 39 (.sl 4 ((List.zipWith Bk.hi (f.l.take i) (l.take i)).map Fc.C)))), (12, .one (.raw (.int .i64 i)))])
    (fun i => i ≤ l.length) (fun i => l.length - i) 0 (Nat.zero_le _) ?_ ?_
  · refine StLe.trans (StLe.tokI 4 35 (.sl 4 []) rfl rfl rfl) ?_
    refine StLe.trans (StLe.tokI 5 39 (.sl 4 []) rfl rfl rfl) ?_
    conv => simp (maxSteps := 2000000) (disch := omega) only [go_sem, Nat.reduceAdd, Nat.reduceSub, Nat.reduceMul, Int.reduceToNat, Nat.reduceEqDiff, Nat.reduceBEq, Nat.reduceBneDiff]
    exact StLe.weaken (by repeat' first | exact .nil | refine .cons (by first | exact .refl _ | exact .any _) ?_) rfl
  rintro i hi
  have hz1 : (List.zipWith Bk.lo (f.l.take i) (l.take i)).length = i := by simp; omega
  have hz2 : (List.zipWith Bk.hi (f.l.take i) (l.take i)).length = i := by simp; omega
  conv => simp (maxSteps := 2000000) (disch := omega) only [go_sem, Nat.reduceAdd, Nat.reduceSub, Nat.reduceMul, Int.reduceToNat, Nat.reduceEqDiff, Nat.reduceBEq, Nat.reduceBneDiff]
  refine condd (fun h => ?_) (fun h => ?_)
  · have hi1 : i < f.l.length := by omega
    have hi2 : i < l.length := by omega
    have hss := Sc.low_sz (getS_sz h4 hi2)
    have hcs := getD_sz h3.2 hi1
    have e1 := zipG_snoc (op := Bk.lo) Fc.zero Sc.zero hi1 hi2
    have e2 := zipG_snoc (op := Bk.hi) Fc.zero Sc.zero hi1 hi2
    conv => simp (maxSteps := 2000000) (disch := omega) only [go_sem, Nat.reduceAdd, Nat.reduceSub, Nat.reduceMul, Int.reduceToNat, Nat.reduceEqDiff, Nat.reduceBEq, Nat.reduceBneDiff]
    refine callk (cCopied (l.getD i Sc.zero).low (by omega)) ?_
    conv => simp (maxSteps := 2000000) (disch := omega) only [go_sem, Nat.reduceAdd, Nat.reduceSub, Nat.reduceMul, Int.reduceToNat, Nat.reduceEqDiff, Nat.reduceBEq, Nat.reduceBneDiff]
    refine callk (cCopied (l.getD i Sc.zero).high (by omega)) ?_
    conv => simp (maxSteps := 2000000) (disch := omega) only [go_sem, Nat.reduceAdd, Nat.reduceSub, Nat.reduceMul, Int.reduceToNat, Nat.reduceEqDiff, Nat.reduceBEq, Nat.reduceBneDiff]
    refine indk (by kernel_rfl) ?_
    conv => simp (maxSteps := 2000000) (disch := omega) only [go_sem, Nat.reduceAdd, Nat.reduceSub, Nat.reduceMul, Int.reduceToNat, Nat.reduceEqDiff, Nat.reduceBEq, Nat.reduceBneDiff]
    refine callk (cSignF (f.l.getD i Fc.zero) (by omega)) ?_
    conv => simp (maxSteps := 2000000) (disch := omega) only [go_sem, Nat.reduceAdd, Nat.reduceSub, Nat.reduceMul, Int.reduceToNat, Nat.reduceEqDiff, Nat.reduceBEq, Nat.reduceBneDiff]
    refine condd (fun h5 => ?_) (fun h5 => ?_)
    · rw [show Bk.lo (f.l.getD i Fc.zero) (l.getD i Sc.zero) = Af.copy (l.getD i Sc.zero).high from if_pos h5] at e1
      rw [show Bk.hi (f.l.getD i Fc.zero) (l.getD i Sc.zero) = Af.copy (l.getD i Sc.zero).low from if_pos h5] at e2
      conv => simp (maxSteps := 2000000) (disch := omega) only [go_sem, Nat.reduceAdd, Nat.reduceSub, Nat.reduceMul, Int.reduceToNat, Nat.reduceEqDiff, Nat.reduceBEq, Nat.reduceBneDiff, hz1, hz2]
      refine indk (by kernel_rfl) ?_
      conv => simp (maxSteps := 2000000) (disch := omega) only [go_sem, Nat.reduceAdd, Nat.reduceSub, Nat.reduceMul, Int.reduceToNat, Nat.reduceEqDiff, Nat.reduceBEq, Nat.reduceBneDiff]
      refine ⟨i + 1, by omega, by omega, ?_⟩
      rw [← e1, ← e2]
      exact StLe.weaken (by repeat' first | exact .nil | refine .cons (by first | exact .refl _ | exact .any _) ?_) rfl
    · rw [show Bk.lo (f.l.getD i Fc.zero) (l.getD i Sc.zero) = Af.copy (l.getD i Sc.zero).low from if_neg h5] at e1
      rw [show Bk.hi (f.l.getD i Fc.zero) (l.getD i Sc.zero) = Af.copy (l.getD i Sc.zero).high from if_neg h5] at e2
      conv => simp (maxSteps := 2000000) (disch := omega) only [go_sem, Nat.reduceAdd, Nat.reduceSub, Nat.reduceMul, Int.reduceToNat, Nat.reduceEqDiff, Nat.reduceBEq, Nat.reduceBneDiff, hz1, hz2]
      refine indk (by kernel_rfl) ?_
      conv => simp (maxSteps := 2000000) (disch := omega) only [go_sem, Nat.reduceAdd, Nat.reduceSub, Nat.reduceMul, Int.reduceToNat, Nat.reduceEqDiff, Nat.reduceBEq, Nat.reduceBneDiff]
      refine ⟨i + 1, by omega, by omega, ?_⟩
      rw [← e1, ← e2]
      exact StLe.weaken (by repeat' first | exact .nil | refine .cons (by first | exact .refl _ | exact .any _) ?_) rfl
  · have hi' : i = l.length := by omega
    rw [hi', List.take_length, ← hlen, List.take_length]
    conv => simp (maxSteps := 2000000) (disch := omega) only [go_sem, Nat.reduceAdd, Nat.reduceSub, Nat.reduceMul, Int.reduceToNat, Nat.reduceEqDiff, Nat.reduceBEq, Nat.reduceBneDiff]
    exact ⟨_, rfl, .tup (.cons (.refl _) (.cons (.refl _) .nil))⟩
theorem zip_all {P : Fc → Prop} {op : Fc → Sc → Fc} : ∀ (l : List Fc) (m : List Sc), (∀ c s, s ∈ m → P (op c s)) → ∀ f ∈ List.zipWith op l m, P f
  | [], _, _, f, hf => by simp at hf
  | _ :: _, [], _, f, hf => by simp at hf
  | c :: l, s :: m, h, f, hf => by
    simp only [List.zipWith_cons_cons] at hf
    rcases List.mem_cons.1 hf with rfl | hf
    · exact h c s (by simp)
    · exact zip_all l m (fun c s hs => h c s (by simp [hs])) f hf
theorem lo_sz {c : Fc} {s : Sc} {n : Nat} (h : s.sz ≤ n) : (Bk.lo c s).sz ≤ n + 2 := by
  have := Sc.low_sz h
  have := copy_sz s.low
  have := copy_sz s.high
  unfold Bk.lo; split <;> omega
theorem hi_sz {c : Fc} {s : Sc} {n : Nat} (h : s.sz ≤ n) : (Bk.hi c s).sz ≤ n + 2 := by
  have := Sc.low_sz h
  have := copy_sz s.low
  have := copy_sz s.high
  unfold Bk.hi; split <;> omega
theorem lows_sz {f : Af} {l : List Sc} {n : Nat} (h : ∀ s ∈ l, s.sz ≤ n) : ∀ g ∈ Bk.lows f l, g.sz ≤ n + 2 := zip_all _ _ (fun _ _ hs => lo_sz (h _ hs))
theorem highs_sz {f : Af} {l : List Sc} {n : Nat} (h : ∀ s ∈ l, s.sz ≤ n) : ∀ g ∈ Bk.highs f l, g.sz ≤ n + 2 := zip_all _ _ (fun _ _ hs => hi_sz (h _ hs))
theorem cBounds (f : Af) (l : List Sc) (hs : small f l) : CallsTo prog 9 [.agg f.C, .one (.sl 8 (l.map Sc.C))] (.tup [.agg (Bk.bounds f l).C, .one (.raw (.int .i64 (Fc.er (Bk.ok f l))))]) := by
  have hr := cBright f l hs
  by_cases h : Bk.ok f l
  · rw [decide_eq_true h] at hr
    have hc := cCorners f l hs h.1.1
    obtain ⟨h1, h2, h3, h4⟩ := hs
    have hA := cAt f (Bk.lows f l) h1 (by unfold Bk.lows; simp; omega) (le_mono h3 (by omega)) (fun g hg => by have := lows_sz h4 g hg; omega)
    have hB := cAt f (Bk.highs f l) h1 (by unfold Bk.highs; simp; omega) (le_mono h3 (by omega)) (fun g hg => by have := highs_sz h4 g hg; omega)
    rw [Fc.er_of h, show Bk.bounds f l = ⟨f.at' (Bk.lows f l), f.at' (Bk.highs f l)⟩ from if_pos h]
    refine CallsTo.run [] Go.Proofs.Tryz.func9 rfl rfl ?_; conv => simp (maxSteps := 2000000) (disch := omega) only [go_sem, Nat.reduceAdd, Nat.reduceSub, Nat.reduceMul, Int.reduceToNat, Nat.reduceEqDiff, Nat.reduceBEq, Nat.reduceBneDiff, Go.Proofs.Tryz.f9, List.replicate]
    refine callk hr ?_
    conv => simp (maxSteps := 2000000) (disch := omega) only [go_sem, Nat.reduceAdd, Nat.reduceSub, Nat.reduceMul, Int.reduceToNat, Nat.reduceEqDiff, Nat.reduceBEq, Nat.reduceBneDiff]
    refine callk hc ?_
    conv => simp (maxSteps := 2000000) (disch := omega) only [go_sem, Nat.reduceAdd, Nat.reduceSub, Nat.reduceMul, Int.reduceToNat, Nat.reduceEqDiff, Nat.reduceBEq, Nat.reduceBneDiff]
    refine callk hA ?_
    conv => simp (maxSteps := 2000000) (disch := omega) only [go_sem, Nat.reduceAdd, Nat.reduceSub, Nat.reduceMul, Int.reduceToNat, Nat.reduceEqDiff, Nat.reduceBEq, Nat.reduceBneDiff]
    refine callk hB ?_
    conv => simp (maxSteps := 2000000) (disch := omega) only [go_sem, Nat.reduceAdd, Nat.reduceSub, Nat.reduceMul, Int.reduceToNat, Nat.reduceEqDiff, Nat.reduceBEq, Nat.reduceBneDiff]
    exact ⟨_, rfl, .tup (.cons (.refl _) (.cons (.refl _) .nil))⟩
  · rw [decide_eq_false h] at hr
    rw [Fc.er_bad h, show Bk.bounds f l = Sc.zero from if_neg h]
    refine CallsTo.run [] Go.Proofs.Tryz.func9 rfl rfl ?_; conv => simp (maxSteps := 2000000) (disch := omega) only [go_sem, Nat.reduceAdd, Nat.reduceSub, Nat.reduceMul, Int.reduceToNat, Nat.reduceEqDiff, Nat.reduceBEq, Nat.reduceBneDiff, Go.Proofs.Tryz.f9, List.replicate]
    refine callk hr ?_
    conv => simp (maxSteps := 2000000) (disch := omega) only [go_sem, Nat.reduceAdd, Nat.reduceSub, Nat.reduceMul, Int.reduceToNat, Nat.reduceEqDiff, Nat.reduceBEq, Nat.reduceBneDiff]
    exact ⟨_, rfl, .tup (.cons zeroS (.cons (.refl _) .nil))⟩
theorem cLeast (f : Af) (l : List Sc) (hs : small f l) : CallsTo prog 13 [.agg f.C, .one (.sl 8 (l.map Sc.C))]
    (.tup [.one (.sl 4 ((if Bk.ok f l then Bk.lows f l else []).map Fc.C)), .agg (if Bk.ok f l then f.at' (Bk.lows f l) else Fc.zero).C, .one (.raw (.int .i64 (Fc.er (Bk.ok f l))))]) := by
  have hr := cBright f l hs
  by_cases h : Bk.ok f l
  · rw [decide_eq_true h] at hr
    have hc := cCorners f l hs h.1.1
    obtain ⟨h1, h2, h3, h4⟩ := hs
    have hA := cAt f (Bk.lows f l) h1 (by unfold Bk.lows; simp; omega) (le_mono h3 (by omega)) (fun g hg => by have := lows_sz h4 g hg; omega)
    rw [Fc.er_of h, if_pos h, if_pos h]
    refine CallsTo.run [] Go.Proofs.Tryz.func13 rfl rfl ?_; conv => simp (maxSteps := 2000000) (disch := omega) only [go_sem, Nat.reduceAdd, Nat.reduceSub, Nat.reduceMul, Int.reduceToNat, Nat.reduceEqDiff, Nat.reduceBEq, Nat.reduceBneDiff, Go.Proofs.Tryz.f13, List.replicate]
    refine callk hr ?_
    conv => simp (maxSteps := 2000000) (disch := omega) only [go_sem, Nat.reduceAdd, Nat.reduceSub, Nat.reduceMul, Int.reduceToNat, Nat.reduceEqDiff, Nat.reduceBEq, Nat.reduceBneDiff]
    refine callk hc ?_
    conv => simp (maxSteps := 2000000) (disch := omega) only [go_sem, Nat.reduceAdd, Nat.reduceSub, Nat.reduceMul, Int.reduceToNat, Nat.reduceEqDiff, Nat.reduceBEq, Nat.reduceBneDiff]
    refine callk hA ?_
    conv => simp (maxSteps := 2000000) (disch := omega) only [go_sem, Nat.reduceAdd, Nat.reduceSub, Nat.reduceMul, Int.reduceToNat, Nat.reduceEqDiff, Nat.reduceBEq, Nat.reduceBneDiff]
    refine indk (by kernel_rfl) ?_
    conv => simp (maxSteps := 2000000) (disch := omega) only [go_sem, Nat.reduceAdd, Nat.reduceSub, Nat.reduceMul, Int.reduceToNat, Nat.reduceEqDiff, Nat.reduceBEq, Nat.reduceBneDiff]
    exact ⟨_, rfl, .tup (.cons (.refl _) (.cons (.refl _) (.cons (.refl _) .nil)))⟩
  · rw [decide_eq_false h] at hr
    rw [Fc.er_bad h, if_neg h, if_neg h]
    refine CallsTo.run [] Go.Proofs.Tryz.func13 rfl rfl ?_; conv => simp (maxSteps := 2000000) (disch := omega) only [go_sem, Nat.reduceAdd, Nat.reduceSub, Nat.reduceMul, Int.reduceToNat, Nat.reduceEqDiff, Nat.reduceBEq, Nat.reduceBneDiff, Go.Proofs.Tryz.f13, List.replicate]
    refine callk hr ?_
    conv => simp (maxSteps := 2000000) (disch := omega) only [go_sem, Nat.reduceAdd, Nat.reduceSub, Nat.reduceMul, Int.reduceToNat, Nat.reduceEqDiff, Nat.reduceBEq, Nat.reduceBneDiff]
    exact ⟨_, rfl, .tup (.cons (.one (.nilSl _)) (.cons zeroLe (.cons (.refl _) .nil)))⟩
theorem width_sz {s : Sc} {n : Nat} (h : s.sz ≤ n) : (Sc.width s).sz ≤ 2 * n + 1 := by
  have ⟨h1, h2⟩ := Sc.low_sz h
  have := Fc.sz_sub s.high s.low
  unfold Sc.width
  split
  · omega
  · rw [Fc.sz_zero]; omega
theorem swing_sz {c : Fc} {s : Sc} {n : Nat} (hc : c.sz ≤ n) (h : s.sz ≤ n) : (Bk.swing c s).sz ≤ 6 * n + 2 := by
  have := width_sz h
  have := Fc.sz_mul c (Sc.width s)
  have := Fc.sz_neg (Fc.mul c (Sc.width s))
  have := Fc.sz_maxf (Fc.mul c (Sc.width s)) (Fc.neg (Fc.mul c (Sc.width s)))
  unfold Bk.swing; omega
theorem nar_cons {i : Nat} {st : Int × Fc} {c : Fc} {cs : List Fc} {s : Sc} {ss : List Sc} : Bk.nar i st (c :: cs) (s :: ss) = Bk.nar (i + 1) (if Fc.cmp (Bk.swing c s) st.2 > 0 then ((i : Int), Bk.swing c s) else st) cs ss := rfl
theorem cNarrow (f : Af) (l : List Sc) (hs : small f l) : CallsTo prog 11 [.agg f.C, .one (.sl 8 (l.map Sc.C))]
    (.tup [.one (.raw (.int .i64 (Bk.narrow f l).1)), .agg (Bk.narrow f l).2.1.C, .one (.raw (.int .i64 (Bk.narrow f l).2.2))]) := by
  have hr := cBright f l hs
  by_cases h : Bk.ok f l
  · rw [decide_eq_true h] at hr
    obtain ⟨h1, h2, h3, h4⟩ := hs
    have hlen := h.1.1
    by_cases h0 : l.length = 0
    · rw [show Bk.narrow f l = (0, Fc.zero, 4) by unfold Bk.narrow; rw [if_pos h, if_pos h0]]
      refine CallsTo.run [] Go.Proofs.Tryz.func11 rfl rfl ?_; conv => simp (maxSteps := 2000000) (disch := omega) only [go_sem, Nat.reduceAdd, Nat.reduceSub, Nat.reduceMul, Int.reduceToNat, Nat.reduceEqDiff, Nat.reduceBEq, Nat.reduceBneDiff, Go.Proofs.Tryz.f11, List.replicate]
      refine callk hr ?_
      conv => simp (maxSteps := 2000000) (disch := omega) only [go_sem, Nat.reduceAdd, Nat.reduceSub, Nat.reduceMul, Int.reduceToNat, Nat.reduceEqDiff, Nat.reduceBEq, Nat.reduceBneDiff]
      refine condd (fun _ => ?_) (fun h => absurd (by omega) h)
      conv => simp (maxSteps := 2000000) (disch := omega) only [go_sem, Nat.reduceAdd, Nat.reduceSub, Nat.reduceMul, Int.reduceToNat, Nat.reduceEqDiff, Nat.reduceBEq, Nat.reduceBneDiff]
      exact ⟨_, rfl, .tup (.cons (.refl _) (.cons zeroLe (.cons (.refl _) .nil)))⟩
    · rw [show Bk.narrow f l = ((Bk.nar 0 (0, Fc.of 0) f.l l).1, (Bk.nar 0 (0, Fc.of 0) f.l l).2, 0) by unfold Bk.narrow; rw [if_pos h, if_neg h0]]
      have hz := sz_zero1
      refine CallsTo.run [] Go.Proofs.Tryz.func11 rfl rfl ?_; conv => simp (maxSteps := 2000000) (disch := omega) only [go_sem, Nat.reduceAdd, Nat.reduceSub, Nat.reduceMul, Int.reduceToNat, Nat.reduceEqDiff, Nat.reduceBEq, Nat.reduceBneDiff, Go.Proofs.Tryz.f11, List.replicate]
      refine callk hr ?_
      conv => simp (maxSteps := 2000000) (disch := omega) only [go_sem, Nat.reduceAdd, Nat.reduceSub, Nat.reduceMul, Int.reduceToNat, Nat.reduceEqDiff, Nat.reduceBEq, Nat.reduceBneDiff]
      refine condd (fun h => absurd h (by omega)) (fun _ => ?_)
      conv => simp (maxSteps := 2000000) (disch := omega) only [go_sem, Nat.reduceAdd, Nat.reduceSub, Nat.reduceMul, Int.reduceToNat, Nat.reduceEqDiff, Nat.reduceBEq, Nat.reduceBneDiff]
      refine callk (cIntF 0 (by decide)) ?_
      conv => simp (maxSteps := 2000000) (disch := omega) only [go_sem, Nat.reduceAdd, Nat.reduceSub, Nat.reduceMul, Int.reduceToNat, Nat.reduceEqDiff, Nat.reduceBEq, Nat.reduceBneDiff]
      refine loopo [2, 4, 6, 25, 26] (fun x : Nat × Int × Fc => [(7, .one (.raw (.int .i64 x.2.1))), (8, .box x.2.2.C), (27, .one (.raw (.int .i64 x.1)))])
        (fun x => x.1 ≤ l.length ∧ x.2.2.sz ≤ 32768 ∧ Bk.nar 0 (0, Fc.of 0) f.l l = Bk.nar x.1 x.2 (f.l.drop x.1) (l.drop x.1)) (fun x => l.length - x.1) (0, 0, Fc.of 0) ⟨Nat.zero_le _, by dsimp only; omega, rfl⟩ ?_ ?_
      · conv => simp (maxSteps := 2000000) (disch := omega) only [go_sem, Nat.reduceAdd, Nat.reduceSub, Nat.reduceMul, Int.reduceToNat, Nat.reduceEqDiff, Nat.reduceBEq, Nat.reduceBneDiff]
        exact StLe.weaken (by repeat' first | exact .nil | refine .cons (by first | exact .refl _ | exact .any _) ?_) rfl
      rintro ⟨i, a, b⟩ ⟨hi, hb, he⟩
      simp only at hi hb he
      conv => simp (maxSteps := 2000000) (disch := omega) only [go_sem, Nat.reduceAdd, Nat.reduceSub, Nat.reduceMul, Int.reduceToNat, Nat.reduceEqDiff, Nat.reduceBEq, Nat.reduceBneDiff]
      refine condd (fun h5 => ?_) (fun h5 => ?_)
      · have hi1 : i < f.l.length := by omega
        have hi2 : i < l.length := by omega
        have hcs := getD_sz h3.2 hi1
        have hss := getS_sz h4 hi2
        have hw := width_sz hss
        have hm := Fc.sz_mul (f.l.getD i Fc.zero) (Sc.width (l.getD i Sc.zero))
        have hn := Fc.sz_neg (Fc.mul (f.l.getD i Fc.zero) (Sc.width (l.getD i Sc.zero)))
        have hsw := swing_sz hcs hss
        have hcmp := cCmpF (Bk.swing (f.l.getD i Fc.zero) (l.getD i Sc.zero)) b (by omega) (by omega)
        have hmax := cMaxF (Fc.mul (f.l.getD i Fc.zero) (Sc.width (l.getD i Sc.zero))) (Fc.neg (Fc.mul (f.l.getD i Fc.zero) (Sc.width (l.getD i Sc.zero)))) (by omega) (by omega)
        rw [show Fc.maxf (Fc.mul (f.l.getD i Fc.zero) (Sc.width (l.getD i Sc.zero))) (Fc.neg (Fc.mul (f.l.getD i Fc.zero) (Sc.width (l.getD i Sc.zero)))) = Bk.swing (f.l.getD i Fc.zero) (l.getD i Sc.zero) from rfl] at hmax
        rw [drop_cons Fc.zero hi1, drop_cons Sc.zero hi2] at he
        rw [nar_cons] at he
        dsimp only at he
        conv => simp (maxSteps := 2000000) (disch := omega) only [go_sem, Nat.reduceAdd, Nat.reduceSub, Nat.reduceMul, Int.reduceToNat, Nat.reduceEqDiff, Nat.reduceBEq, Nat.reduceBneDiff]
        refine callk (cWidth (l.getD i Sc.zero) (by omega)) ?_
        conv => simp (maxSteps := 2000000) (disch := omega) only [go_sem, Nat.reduceAdd, Nat.reduceSub, Nat.reduceMul, Int.reduceToNat, Nat.reduceEqDiff, Nat.reduceBEq, Nat.reduceBneDiff]
        refine callk (cMulF (f.l.getD i Fc.zero) (Sc.width (l.getD i Sc.zero)) (by omega) (by omega)) ?_
        conv => simp (maxSteps := 2000000) (disch := omega) only [go_sem, Nat.reduceAdd, Nat.reduceSub, Nat.reduceMul, Int.reduceToNat, Nat.reduceEqDiff, Nat.reduceBEq, Nat.reduceBneDiff]
        refine indk (by kernel_rfl) ?_
        conv => simp (maxSteps := 2000000) (disch := omega) only [go_sem, Nat.reduceAdd, Nat.reduceSub, Nat.reduceMul, Int.reduceToNat, Nat.reduceEqDiff, Nat.reduceBEq, Nat.reduceBneDiff]
        refine callk (cNegF (Fc.mul (f.l.getD i Fc.zero) (Sc.width (l.getD i Sc.zero))) (by omega)) ?_
        conv => simp (maxSteps := 2000000) (disch := omega) only [go_sem, Nat.reduceAdd, Nat.reduceSub, Nat.reduceMul, Int.reduceToNat, Nat.reduceEqDiff, Nat.reduceBEq, Nat.reduceBneDiff]
        refine callk hmax ?_
        conv => simp (maxSteps := 2000000) (disch := omega) only [go_sem, Nat.reduceAdd, Nat.reduceSub, Nat.reduceMul, Int.reduceToNat, Nat.reduceEqDiff, Nat.reduceBEq, Nat.reduceBneDiff]
        refine indk (by kernel_rfl) ?_
        conv => simp (maxSteps := 2000000) (disch := omega) only [go_sem, Nat.reduceAdd, Nat.reduceSub, Nat.reduceMul, Int.reduceToNat, Nat.reduceEqDiff, Nat.reduceBEq, Nat.reduceBneDiff]
        refine callk hcmp ?_
        conv => simp (maxSteps := 2000000) (disch := omega) only [go_sem, Nat.reduceAdd, Nat.reduceSub, Nat.reduceMul, Int.reduceToNat, Nat.reduceEqDiff, Nat.reduceBEq, Nat.reduceBneDiff]
        refine condd (fun h6 => ?_) (fun h6 => ?_)
        · rw [if_pos h6] at he
          conv => simp (maxSteps := 2000000) (disch := omega) only [go_sem, Nat.reduceAdd, Nat.reduceSub, Nat.reduceMul, Int.reduceToNat, Nat.reduceEqDiff, Nat.reduceBEq, Nat.reduceBneDiff]
          refine indk (by kernel_rfl) ?_
          conv => simp (maxSteps := 2000000) (disch := omega) only [go_sem, Nat.reduceAdd, Nat.reduceSub, Nat.reduceMul, Int.reduceToNat, Nat.reduceEqDiff, Nat.reduceBEq, Nat.reduceBneDiff]
          exact ⟨(i + 1, i, Bk.swing (f.l.getD i Fc.zero) (l.getD i Sc.zero)), ⟨by dsimp only; omega, by dsimp only; omega, he⟩, by dsimp only; omega, StLe.weaken (by repeat' first | exact .nil | refine .cons (by first | exact .refl _ | exact .any _) ?_) rfl⟩
        · rw [if_neg h6] at he
          conv => simp (maxSteps := 2000000) (disch := omega) only [go_sem, Nat.reduceAdd, Nat.reduceSub, Nat.reduceMul, Int.reduceToNat, Nat.reduceEqDiff, Nat.reduceBEq, Nat.reduceBneDiff]
          exact ⟨(i + 1, a, b), ⟨by dsimp only; omega, hb, he⟩, by dsimp only; omega, StLe.weaken (by repeat' first | exact .nil | refine .cons (by first | exact .refl _ | exact .any _) ?_) rfl⟩
      · have hi' : i = l.length := by omega
        rw [hi', List.drop_length] at he
        have he : Bk.nar 0 (0, Fc.of 0) f.l l = (a, b) := by rw [he]; cases List.drop l.length f.l <;> rfl
        rw [he]
        conv => simp (maxSteps := 2000000) (disch := omega) only [go_sem, Nat.reduceAdd, Nat.reduceSub, Nat.reduceMul, Int.reduceToNat, Nat.reduceEqDiff, Nat.reduceBEq, Nat.reduceBneDiff]
        refine indk (by kernel_rfl) ?_
        conv => simp (maxSteps := 2000000) (disch := omega) only [go_sem, Nat.reduceAdd, Nat.reduceSub, Nat.reduceMul, Int.reduceToNat, Nat.reduceEqDiff, Nat.reduceBEq, Nat.reduceBneDiff]
        exact ⟨_, rfl, .tup (.cons (.refl _) (.cons (.refl _) (.cons (.refl _) .nil)))⟩
  · rw [decide_eq_false h] at hr
    rw [show Bk.narrow f l = (0, Fc.zero, 1) from if_neg h]
    refine CallsTo.run [] Go.Proofs.Tryz.func11 rfl rfl ?_; conv => simp (maxSteps := 2000000) (disch := omega) only [go_sem, Nat.reduceAdd, Nat.reduceSub, Nat.reduceMul, Int.reduceToNat, Nat.reduceEqDiff, Nat.reduceBEq, Nat.reduceBneDiff, Go.Proofs.Tryz.f11, List.replicate]
    refine callk hr ?_
    conv => simp (maxSteps := 2000000) (disch := omega) only [go_sem, Nat.reduceAdd, Nat.reduceSub, Nat.reduceMul, Int.reduceToNat, Nat.reduceEqDiff, Nat.reduceBEq, Nat.reduceBneDiff]
    exact ⟨_, rfl, .tup (.cons (.refl _) (.cons zeroLe (.cons (.refl _) .nil)))⟩
end Go.Slot.T
