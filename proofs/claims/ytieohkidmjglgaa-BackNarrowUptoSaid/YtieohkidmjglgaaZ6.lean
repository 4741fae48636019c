import Derived.Test.YtieohkidmjglgaaZ5
/- Contracts of package span; slices.IndexFunc, ContainsFunc, MinFunc, MaxFunc over fractions and spans. -/
namespace Go.Slot.T
open Go Go.RowKit Go.Slot
open Go.Proofs.Try (prog)
set_option maxRecDepth 10000
set_option maxHeartbeats 4000000

theorem cRightT (f : Fc) (h : f.sz ≤ 268435456) (hb : f.ok) : CallsTo prog 11 [.agg f.C] (.one (.raw (.bool true))) := by
  have := cRightF f h
  rwa [decide_eq_true hb] at this
theorem cIndexFr (g : FuncId) (p : Fc → Bool) (l : List Fc) (hl : l.length ≤ 1099511627776) (hg : ∀ i, i < l.length → CallsTo prog g [.agg (l.getD i Fc.zero).C] (.one (.raw (.bool (p (l.getD i Fc.zero)))))) :
    CallsTo prog 74 [.one (.sl 4 (l.map Fc.C)), .one (.raw (.func (.func g) #[] #[]))] (.one (.raw (.int .i64 (idxF p l 0)))) := by
  refine CallsTo.run [] Go.Proofs.Try.func74 rfl rfl ?_; conv => simp (maxSteps := 2000000) (disch := omega) only [go_sem, Nat.reduceAdd, Nat.reduceSub, Nat.reduceMul, Int.reduceToNat, Nat.reduceEqDiff, Nat.reduceBEq, Nat.reduceBneDiff, Go.Proofs.Try.f74, List.replicate]
  refine loopo [0, 1, 7] (fun i : Nat => [(8, .one (.raw (.int .i64 i)))]) (fun i => i ≤ l.length ∧ idxF p l 0 = idxF p (l.drop i) i) (fun i => l.length - i) 0 ⟨Nat.zero_le _, rfl⟩ ?_ ?_
  · conv => simp (maxSteps := 2000000) (disch := omega) only [go_sem, Nat.reduceAdd, Nat.reduceSub, Nat.reduceMul, Int.reduceToNat, Nat.reduceEqDiff, Nat.reduceBEq, Nat.reduceBneDiff]
    exact StLe.weaken (by repeat' first | exact .nil | refine .cons (by first | exact .refl _ | exact .any _) ?_) rfl
  rintro i ⟨hi, he⟩
  conv => simp (maxSteps := 2000000) (disch := omega) only [go_sem, Nat.reduceAdd, Nat.reduceSub, Nat.reduceMul, Int.reduceToNat, Nat.reduceEqDiff, Nat.reduceBEq, Nat.reduceBneDiff]
  refine condd (fun h => ?_) (fun h => ?_)
  · have hd := drop_cons (l := l) Fc.zero (show i < l.length by omega)
    rw [hd] at he
    conv => simp (maxSteps := 2000000) (disch := omega) only [go_sem, Nat.reduceAdd, Nat.reduceSub, Nat.reduceMul, Int.reduceToNat, Nat.reduceEqDiff, Nat.reduceBEq, Nat.reduceBneDiff]
    refine callk (hg i (by omega)) ?_
    conv => simp (maxSteps := 2000000) (disch := omega) only [go_sem, Nat.reduceAdd, Nat.reduceSub, Nat.reduceMul, Int.reduceToNat, Nat.reduceEqDiff, Nat.reduceBEq, Nat.reduceBneDiff]
    refine condk (fun h1 => ?_) (fun h1 => ?_)
    · conv => simp (maxSteps := 2000000) (disch := omega) only [go_sem, Nat.reduceAdd, Nat.reduceSub, Nat.reduceMul, Int.reduceToNat, Nat.reduceEqDiff, Nat.reduceBEq, Nat.reduceBneDiff]
      refine ⟨_, rfl, ?_⟩
      rw [he]
      unfold idxF
      rw [if_pos h1]
      exact .one (.refl _)
    · conv => simp (maxSteps := 2000000) (disch := omega) only [go_sem, Nat.reduceAdd, Nat.reduceSub, Nat.reduceMul, Int.reduceToNat, Nat.reduceEqDiff, Nat.reduceBEq, Nat.reduceBneDiff]
      refine ⟨i + 1, ⟨by omega, ?_⟩, by omega, StLe.weaken (by repeat' first | exact .nil | refine .cons (by first | exact .refl _ | exact .any _) ?_) rfl⟩
      rw [he]
      conv => lhs; unfold idxF
      rw [if_neg (show ¬ p (l.getD i Fc.zero) = true by rw [h1]; decide)]
      rfl
  · have hi' : i = l.length := by omega
    rw [hi', List.drop_length] at he
    conv => simp (maxSteps := 2000000) (disch := omega) only [go_sem, Nat.reduceAdd, Nat.reduceSub, Nat.reduceMul, Int.reduceToNat, Nat.reduceEqDiff, Nat.reduceBEq, Nat.reduceBneDiff]
    exact ⟨_, rfl, by rw [he]; exact .one (.refl _)⟩
theorem cContainsFr (g : FuncId) (p : Fc → Bool) (l : List Fc) (hl : l.length ≤ 1099511627776) (hg : ∀ i, i < l.length → CallsTo prog g [.agg (l.getD i Fc.zero).C] (.one (.raw (.bool (p (l.getD i Fc.zero)))))) :
    CallsTo prog 44 [.one (.sl 4 (l.map Fc.C)), .one (.raw (.func (.func g) #[] #[]))] (.one (.raw (.bool (l.any p)))) := by
  rw [← idxF_any p l 0 (by decide)]
  refine CallsTo.run [] Go.Proofs.Try.func44 rfl rfl ?_; conv => simp (maxSteps := 2000000) (disch := omega) only [go_sem, Nat.reduceAdd, Nat.reduceSub, Nat.reduceMul, Int.reduceToNat, Nat.reduceEqDiff, Nat.reduceBEq, Nat.reduceBneDiff, Go.Proofs.Try.f44, List.replicate]
  refine callk (cIndexFr g p l hl hg) ?_
  conv => simp (maxSteps := 2000000) (disch := omega) only [go_sem, Nat.reduceAdd, Nat.reduceSub, Nat.reduceMul, Int.reduceToNat, Nat.reduceEqDiff, Nat.reduceBEq, Nat.reduceBneDiff]
  exact ⟨_, rfl, .one (.refl _)⟩
theorem cIndexSp (g : FuncId) (p : Sc → Bool) (l : List Sc) (hl : l.length ≤ 1099511627776) (hg : ∀ i, i < l.length → CallsTo prog g [.agg (l.getD i Sc.zero).C] (.one (.raw (.bool (p (l.getD i Sc.zero)))))) :
    CallsTo prog 90 [.one (.sl 8 (l.map Sc.C)), .one (.raw (.func (.func g) #[] #[]))] (.one (.raw (.int .i64 (idxF p l 0)))) := by
  refine CallsTo.run [] Go.Proofs.Try.func90 rfl rfl ?_; conv => simp (maxSteps := 2000000) (disch := omega) only [go_sem, Nat.reduceAdd, Nat.reduceSub, Nat.reduceMul, Int.reduceToNat, Nat.reduceEqDiff, Nat.reduceBEq, Nat.reduceBneDiff, Go.Proofs.Try.f90, List.replicate]
  refine loopo [0, 1, 7] (fun i : Nat => [(8, .one (.raw (.int .i64 i)))]) (fun i => i ≤ l.length ∧ idxF p l 0 = idxF p (l.drop i) i) (fun i => l.length - i) 0 ⟨Nat.zero_le _, rfl⟩ ?_ ?_
  · conv => simp (maxSteps := 2000000) (disch := omega) only [go_sem, Nat.reduceAdd, Nat.reduceSub, Nat.reduceMul, Int.reduceToNat, Nat.reduceEqDiff, Nat.reduceBEq, Nat.reduceBneDiff]
    exact StLe.weaken (by repeat' first | exact .nil | refine .cons (by first | exact .refl _ | exact .any _) ?_) rfl
  rintro i ⟨hi, he⟩
  conv => simp (maxSteps := 2000000) (disch := omega) only [go_sem, Nat.reduceAdd, Nat.reduceSub, Nat.reduceMul, Int.reduceToNat, Nat.reduceEqDiff, Nat.reduceBEq, Nat.reduceBneDiff]
  refine condd (fun h => ?_) (fun h => ?_)
  · have hd := drop_cons (l := l) Sc.zero (show i < l.length by omega)
    rw [hd] at he
    conv => simp (maxSteps := 2000000) (disch := omega) only [go_sem, Nat.reduceAdd, Nat.reduceSub, Nat.reduceMul, Int.reduceToNat, Nat.reduceEqDiff, Nat.reduceBEq, Nat.reduceBneDiff]
    refine callk (hg i (by omega)) ?_
    conv => simp (maxSteps := 2000000) (disch := omega) only [go_sem, Nat.reduceAdd, Nat.reduceSub, Nat.reduceMul, Int.reduceToNat, Nat.reduceEqDiff, Nat.reduceBEq, Nat.reduceBneDiff]
    refine condk (fun h1 => ?_) (fun h1 => ?_)
    · conv => simp (maxSteps := 2000000) (disch := omega) only [go_sem, Nat.reduceAdd, Nat.reduceSub, Nat.reduceMul, Int.reduceToNat, Nat.reduceEqDiff, Nat.reduceBEq, Nat.reduceBneDiff]
      refine ⟨_, rfl, ?_⟩
      rw [he]
      unfold idxF
      rw [if_pos h1]
      exact .one (.refl _)
    · conv => simp (maxSteps := 2000000) (disch := omega) only [go_sem, Nat.reduceAdd, Nat.reduceSub, Nat.reduceMul, Int.reduceToNat, Nat.reduceEqDiff, Nat.reduceBEq, Nat.reduceBneDiff]
      refine ⟨i + 1, ⟨by omega, ?_⟩, by omega, StLe.weaken (by repeat' first | exact .nil | refine .cons (by first | exact .refl _ | exact .any _) ?_) rfl⟩
      rw [he]
      conv => lhs; unfold idxF
      rw [if_neg (show ¬ p (l.getD i Sc.zero) = true by rw [h1]; decide)]
      rfl
  · have hi' : i = l.length := by omega
    rw [hi', List.drop_length] at he
    conv => simp (maxSteps := 2000000) (disch := omega) only [go_sem, Nat.reduceAdd, Nat.reduceSub, Nat.reduceMul, Int.reduceToNat, Nat.reduceEqDiff, Nat.reduceBEq, Nat.reduceBneDiff]
    exact ⟨_, rfl, by rw [he]; exact .one (.refl _)⟩
theorem cContainsSp (g : FuncId) (p : Sc → Bool) (l : List Sc) (hl : l.length ≤ 1099511627776) (hg : ∀ i, i < l.length → CallsTo prog g [.agg (l.getD i Sc.zero).C] (.one (.raw (.bool (p (l.getD i Sc.zero)))))) :
    CallsTo prog 72 [.one (.sl 8 (l.map Sc.C)), .one (.raw (.func (.func g) #[] #[]))] (.one (.raw (.bool (l.any p)))) := by
  rw [← idxF_any p l 0 (by decide)]
  refine CallsTo.run [] Go.Proofs.Try.func72 rfl rfl ?_; conv => simp (maxSteps := 2000000) (disch := omega) only [go_sem, Nat.reduceAdd, Nat.reduceSub, Nat.reduceMul, Int.reduceToNat, Nat.reduceEqDiff, Nat.reduceBEq, Nat.reduceBneDiff, Go.Proofs.Try.f72, List.replicate]
  refine callk (cIndexSp g p l hl hg) ?_
  conv => simp (maxSteps := 2000000) (disch := omega) only [go_sem, Nat.reduceAdd, Nat.reduceSub, Nat.reduceMul, Int.reduceToNat, Nat.reduceEqDiff, Nat.reduceBEq, Nat.reduceBneDiff]
  exact ⟨_, rfl, .one (.refl _)⟩
theorem cMinFr (l : List Fc) (h0 : 0 < l.length) (hl : l.length ≤ 1048576) (hs : ∀ f ∈ l, f.sz ≤ 67108864) :
    CallsTo prog 84 [.one (.sl 4 (l.map Fc.C)), .one (.raw (.func (.func 14) #[] #[]))] (.agg (Sc.least (l.getD 0 Fc.zero) (l.drop 1)).C) := by
  have hmem : ∀ i, i < l.length → (l.getD i Fc.zero).sz ≤ 67108864 := fun i hi => hs _ (by simp [hi])
  refine CallsTo.run [] Go.Proofs.Try.func84 rfl rfl ?_; conv => simp (maxSteps := 2000000) (disch := omega) only [go_sem, Nat.reduceAdd, Nat.reduceSub, Nat.reduceMul, Int.reduceToNat, Nat.reduceEqDiff, Nat.reduceBEq, Nat.reduceBneDiff, Go.Proofs.Try.f84, List.replicate]
  refine condd (fun h => absurd h (by omega)) (fun _ => ?_)
  conv => simp (maxSteps := 2000000) (disch := omega) only [go_sem, Nat.reduceAdd, Nat.reduceSub, Nat.reduceMul, Int.reduceToNat, Nat.reduceEqDiff, Nat.reduceBEq, Nat.reduceBneDiff]
  refine loopo [0, 1] (fun x : Nat × Fc => [(5, .box x.2.C), (6, .one (.raw (.int .i64 x.1)))]) (fun x => x.1 ≤ l.length ∧ 1 ≤ x.1 ∧ x.2.sz ≤ 67108864 ∧ Sc.least (l.getD 0 Fc.zero) (l.drop 1) = Sc.least x.2 (l.drop x.1)) (fun x => l.length - x.1) (1, l.getD 0 Fc.zero) ⟨h0, Nat.le_refl _, hmem 0 h0, rfl⟩ ?_ ?_
  · conv => simp (maxSteps := 2000000) (disch := omega) only [go_sem, Nat.reduceAdd, Nat.reduceSub, Nat.reduceMul, Int.reduceToNat, Nat.reduceEqDiff, Nat.reduceBEq, Nat.reduceBneDiff]
    exact StLe.weaken (by repeat' first | exact .nil | refine .cons (by first | exact .refl _ | exact .any _) ?_) rfl
  rintro ⟨i, m⟩ ⟨hi, hi1, hm, he⟩
  simp only at hi hi1 hm he
  conv => simp (maxSteps := 2000000) (disch := omega) only [go_sem, Nat.reduceAdd, Nat.reduceSub, Nat.reduceMul, Int.reduceToNat, Nat.reduceEqDiff, Nat.reduceBEq, Nat.reduceBneDiff]
  refine condd (fun h => ?_) (fun h => ?_)
  · rw [drop_cons Fc.zero (show i < l.length by omega)] at he
    conv => simp (maxSteps := 2000000) (disch := omega) only [go_sem, Nat.reduceAdd, Nat.reduceSub, Nat.reduceMul, Int.reduceToNat, Nat.reduceEqDiff, Nat.reduceBEq, Nat.reduceBneDiff]
    refine callk (cCmpF (l.getD i Fc.zero) m (hmem i (by omega)) hm) ?_
    conv => simp (maxSteps := 2000000) (disch := omega) only [go_sem, Nat.reduceAdd, Nat.reduceSub, Nat.reduceMul, Int.reduceToNat, Nat.reduceEqDiff, Nat.reduceBEq, Nat.reduceBneDiff]
    refine indk (by kernel_rfl) ?_
    conv => simp (maxSteps := 2000000) (disch := omega) only [go_sem, Nat.reduceAdd, Nat.reduceSub, Nat.reduceMul, Int.reduceToNat, Nat.reduceEqDiff, Nat.reduceBEq, Nat.reduceBneDiff]
    refine condd (fun h1 => ?_) (fun h1 => ?_)
    · conv => simp (maxSteps := 2000000) (disch := omega) only [go_sem, Nat.reduceAdd, Nat.reduceSub, Nat.reduceMul, Int.reduceToNat, Nat.reduceEqDiff, Nat.reduceBEq, Nat.reduceBneDiff]
      refine ⟨(i + 1, l.getD i Fc.zero), ⟨by dsimp only; omega, by dsimp only; omega, hmem i (by omega), ?_⟩, by dsimp only; omega, StLe.weaken (by repeat' first | exact .nil | refine .cons (by first | exact .refl _ | exact .any _) ?_) rfl⟩
      rw [he]; conv => lhs; unfold Sc.least
      rw [if_pos h1]
    · conv => simp (maxSteps := 2000000) (disch := omega) only [go_sem, Nat.reduceAdd, Nat.reduceSub, Nat.reduceMul, Int.reduceToNat, Nat.reduceEqDiff, Nat.reduceBEq, Nat.reduceBneDiff]
      refine ⟨(i + 1, m), ⟨by dsimp only; omega, by dsimp only; omega, hm, ?_⟩, by dsimp only; omega, StLe.weaken (by repeat' first | exact .nil | refine .cons (by first | exact .refl _ | exact .any _) ?_) rfl⟩
      rw [he]; conv => lhs; unfold Sc.least
      rw [if_neg h1]
  · have hi' : i = l.length := by omega
    rw [hi', List.drop_length] at he
    conv => simp (maxSteps := 2000000) (disch := omega) only [go_sem, Nat.reduceAdd, Nat.reduceSub, Nat.reduceMul, Int.reduceToNat, Nat.reduceEqDiff, Nat.reduceBEq, Nat.reduceBneDiff]
    exact ⟨_, rfl, by rw [he]; exact .one (.refl _)⟩
theorem cMaxFr (l : List Fc) (h0 : 0 < l.length) (hl : l.length ≤ 1048576) (hs : ∀ f ∈ l, f.sz ≤ 67108864) :
    CallsTo prog 85 [.one (.sl 4 (l.map Fc.C)), .one (.raw (.func (.func 14) #[] #[]))] (.agg (Sc.great (l.getD 0 Fc.zero) (l.drop 1)).C) := by
  have hmem : ∀ i, i < l.length → (l.getD i Fc.zero).sz ≤ 67108864 := fun i hi => hs _ (by simp [hi])
  refine CallsTo.run [] Go.Proofs.Try.func85 rfl rfl ?_; conv => simp (maxSteps := 2000000) (disch := omega) only [go_sem, Nat.reduceAdd, Nat.reduceSub, Nat.reduceMul, Int.reduceToNat, Nat.reduceEqDiff, Nat.reduceBEq, Nat.reduceBneDiff, Go.Proofs.Try.f85, List.replicate]
  refine condd (fun h => absurd h (by omega)) (fun _ => ?_)
  conv => simp (maxSteps := 2000000) (disch := omega) only [go_sem, Nat.reduceAdd, Nat.reduceSub, Nat.reduceMul, Int.reduceToNat, Nat.reduceEqDiff, Nat.reduceBEq, Nat.reduceBneDiff]
  refine loopo [0, 1] (fun x : Nat × Fc => [(5, .box x.2.C), (6, .one (.raw (.int .i64 x.1)))]) (fun x => x.1 ≤ l.length ∧ 1 ≤ x.1 ∧ x.2.sz ≤ 67108864 ∧ Sc.great (l.getD 0 Fc.zero) (l.drop 1) = Sc.great x.2 (l.drop x.1)) (fun x => l.length - x.1) (1, l.getD 0 Fc.zero) ⟨h0, Nat.le_refl _, hmem 0 h0, rfl⟩ ?_ ?_
  · conv => simp (maxSteps := 2000000) (disch := omega) only [go_sem, Nat.reduceAdd, Nat.reduceSub, Nat.reduceMul, Int.reduceToNat, Nat.reduceEqDiff, Nat.reduceBEq, Nat.reduceBneDiff]
    exact StLe.weaken (by repeat' first | exact .nil | refine .cons (by first | exact .refl _ | exact .any _) ?_) rfl
  rintro ⟨i, m⟩ ⟨hi, hi1, hm, he⟩
  simp only at hi hi1 hm he
  conv => simp (maxSteps := 2000000) (disch := omega) only [go_sem, Nat.reduceAdd, Nat.reduceSub, Nat.reduceMul, Int.reduceToNat, Nat.reduceEqDiff, Nat.reduceBEq, Nat.reduceBneDiff]
  refine condd (fun h => ?_) (fun h => ?_)
  · rw [drop_cons Fc.zero (show i < l.length by omega)] at he
    conv => simp (maxSteps := 2000000) (disch := omega) only [go_sem, Nat.reduceAdd, Nat.reduceSub, Nat.reduceMul, Int.reduceToNat, Nat.reduceEqDiff, Nat.reduceBEq, Nat.reduceBneDiff]
    refine callk (cCmpF (l.getD i Fc.zero) m (hmem i (by omega)) hm) ?_
    conv => simp (maxSteps := 2000000) (disch := omega) only [go_sem, Nat.reduceAdd, Nat.reduceSub, Nat.reduceMul, Int.reduceToNat, Nat.reduceEqDiff, Nat.reduceBEq, Nat.reduceBneDiff]
    refine indk (by kernel_rfl) ?_
    conv => simp (maxSteps := 2000000) (disch := omega) only [go_sem, Nat.reduceAdd, Nat.reduceSub, Nat.reduceMul, Int.reduceToNat, Nat.reduceEqDiff, Nat.reduceBEq, Nat.reduceBneDiff]
    refine condd (fun h1 => ?_) (fun h1 => ?_)
    · conv => simp (maxSteps := 2000000) (disch := omega) only [go_sem, Nat.reduceAdd, Nat.reduceSub, Nat.reduceMul, Int.reduceToNat, Nat.reduceEqDiff, Nat.reduceBEq, Nat.reduceBneDiff]
      refine ⟨(i + 1, l.getD i Fc.zero), ⟨by dsimp only; omega, by dsimp only; omega, hmem i (by omega), ?_⟩, by dsimp only; omega, StLe.weaken (by repeat' first | exact .nil | refine .cons (by first | exact .refl _ | exact .any _) ?_) rfl⟩
      rw [he]; conv => lhs; unfold Sc.great
      rw [if_pos h1]
    · conv => simp (maxSteps := 2000000) (disch := omega) only [go_sem, Nat.reduceAdd, Nat.reduceSub, Nat.reduceMul, Int.reduceToNat, Nat.reduceEqDiff, Nat.reduceBEq, Nat.reduceBneDiff]
      refine ⟨(i + 1, m), ⟨by dsimp only; omega, by dsimp only; omega, hm, ?_⟩, by dsimp only; omega, StLe.weaken (by repeat' first | exact .nil | refine .cons (by first | exact .refl _ | exact .any _) ?_) rfl⟩
      rw [he]; conv => lhs; unfold Sc.great
      rw [if_neg h1]
  · have hi' : i = l.length := by omega
    rw [hi', List.drop_length] at he
    conv => simp (maxSteps := 2000000) (disch := omega) only [go_sem, Nat.reduceAdd, Nat.reduceSub, Nat.reduceMul, Int.reduceToNat, Nat.reduceEqDiff, Nat.reduceBEq, Nat.reduceBneDiff]
    exact ⟨_, rfl, by rw [he]; exact .one (.refl _)⟩
theorem zeroS : AV.Le (.agg [.raw (.int .i64 0), .zc, .raw (.int .i64 0), .zc, .raw (.int .i64 0), .zc, .raw (.int .i64 0), .zc]) (.agg Sc.zero.C) :=
  .agg (.cons (.refl _) (.cons (.zcInts _) (.cons (.refl _) (.cons (.zcInts _) (.cons (.refl _) (.cons (.zcInts _) (.cons (.refl _) (.cons (.zcInts _) .nil))))))))
theorem cSpanRight (s : Sc) (h : s.sz ≤ 67108864) : CallsTo prog 62 [.agg s.C] (.one (.raw (.bool (decide s.ok)))) := by
  have ⟨hl, hh⟩ := Sc.low_sz h
  by_cases h1 : s.low.ok
  · by_cases h2 : s.high.ok
    · rw [show decide s.ok = decide (Fc.cmp s.low s.high ≤ 0) from decide_eq_decide.2 ⟨fun h => h.2.2, fun h => ⟨h1, h2, h⟩⟩]
      refine CallsTo.run [] Go.Proofs.Try.func62 rfl rfl ?_; conv => simp (maxSteps := 2000000) (disch := omega) only [go_sem, Nat.reduceAdd, Nat.reduceSub, Nat.reduceMul, Int.reduceToNat, Nat.reduceEqDiff, Nat.reduceBEq, Nat.reduceBneDiff, Go.Proofs.Try.f62, List.replicate]
      refine callk (cRightT s.low (by omega) h1) ?_
      conv => simp (maxSteps := 2000000) (disch := omega) only [go_sem, Nat.reduceAdd, Nat.reduceSub, Nat.reduceMul, Int.reduceToNat, Nat.reduceEqDiff, Nat.reduceBEq, Nat.reduceBneDiff]
      refine callk (cRightT s.high (by omega) h2) ?_
      conv => simp (maxSteps := 2000000) (disch := omega) only [go_sem, Nat.reduceAdd, Nat.reduceSub, Nat.reduceMul, Int.reduceToNat, Nat.reduceEqDiff, Nat.reduceBEq, Nat.reduceBneDiff]
      refine callk (cCmpF s.low s.high hl hh) ?_
      conv => simp (maxSteps := 2000000) (disch := omega) only [go_sem, Nat.reduceAdd, Nat.reduceSub, Nat.reduceMul, Int.reduceToNat, Nat.reduceEqDiff, Nat.reduceBEq, Nat.reduceBneDiff]
      exact ⟨_, rfl, .one (.refl _)⟩
    · rw [decide_eq_false (fun h => h2 h.2.1)]
      refine CallsTo.run [] Go.Proofs.Try.func62 rfl rfl ?_; conv => simp (maxSteps := 2000000) (disch := omega) only [go_sem, Nat.reduceAdd, Nat.reduceSub, Nat.reduceMul, Int.reduceToNat, Nat.reduceEqDiff, Nat.reduceBEq, Nat.reduceBneDiff, Go.Proofs.Try.f62, List.replicate]
      refine callk (cRightT s.low (by omega) h1) ?_
      conv => simp (maxSteps := 2000000) (disch := omega) only [go_sem, Nat.reduceAdd, Nat.reduceSub, Nat.reduceMul, Int.reduceToNat, Nat.reduceEqDiff, Nat.reduceBEq, Nat.reduceBneDiff]
      refine callk (cRightBad s.high (by omega) h2) ?_
      conv => simp (maxSteps := 2000000) (disch := omega) only [go_sem, Nat.reduceAdd, Nat.reduceSub, Nat.reduceMul, Int.reduceToNat, Nat.reduceEqDiff, Nat.reduceBEq, Nat.reduceBneDiff]
      exact ⟨_, rfl, .one (.refl _)⟩
  · rw [decide_eq_false (fun h => h1 h.1)]
    refine CallsTo.run [] Go.Proofs.Try.func62 rfl rfl ?_; conv => simp (maxSteps := 2000000) (disch := omega) only [go_sem, Nat.reduceAdd, Nat.reduceSub, Nat.reduceMul, Int.reduceToNat, Nat.reduceEqDiff, Nat.reduceBEq, Nat.reduceBneDiff, Go.Proofs.Try.f62, List.replicate]
    refine callk (cRightBad s.low (by omega) h1) ?_
    conv => simp (maxSteps := 2000000) (disch := omega) only [go_sem, Nat.reduceAdd, Nat.reduceSub, Nat.reduceMul, Int.reduceToNat, Nat.reduceEqDiff, Nat.reduceBEq, Nat.reduceBneDiff]
    exact ⟨_, rfl, .one (.refl _)⟩
theorem cSpanT (s : Sc) (h : s.sz ≤ 67108864) (hb : s.ok) : CallsTo prog 62 [.agg s.C] (.one (.raw (.bool true))) := by
  have := cSpanRight s h
  rwa [decide_eq_true hb] at this
theorem cSpanN (s : Sc) (h : s.sz ≤ 67108864) (hb : ¬ s.ok) : CallsTo prog 62 [.agg s.C] (.one (.raw (.bool false))) := by
  have := cSpanRight s h
  rwa [decide_eq_false hb] at this
theorem cSpanHas (s : Sc) (f : Fc) (h : s.sz ≤ 67108864) (hf : f.sz ≤ 67108864) : CallsTo prog 28 [.agg s.C, .agg f.C] (.one (.raw (.bool (decide (s.has f))))) := by
  have ⟨hl, hh⟩ := Sc.low_sz h
  obtain ⟨r, hr⟩ : ∃ r, r = decide (s.has f) := ⟨_, rfl⟩
  rw [← hr]
  have bad : ¬ s.has f → r = false := fun h => by rw [hr, decide_eq_false h]
  by_cases h1 : s.ok
  · by_cases h2 : f.ok
    · have hc1 := cCmpF s.low f hl hf
      have hc2 := cCmpF f s.high hf hh
      refine CallsTo.run [] Go.Proofs.Try.func28 rfl rfl ?_; conv => simp (maxSteps := 2000000) (disch := omega) only [go_sem, Nat.reduceAdd, Nat.reduceSub, Nat.reduceMul, Int.reduceToNat, Nat.reduceEqDiff, Nat.reduceBEq, Nat.reduceBneDiff, Go.Proofs.Try.f28, List.replicate]
      refine callk (cSpanT s h h1) ?_
      conv => simp (maxSteps := 2000000) (disch := omega) only [go_sem, Nat.reduceAdd, Nat.reduceSub, Nat.reduceMul, Int.reduceToNat, Nat.reduceEqDiff, Nat.reduceBEq, Nat.reduceBneDiff]
      refine callk (cRightT f (by omega) h2) ?_
      conv => simp (maxSteps := 2000000) (disch := omega) only [go_sem, Nat.reduceAdd, Nat.reduceSub, Nat.reduceMul, Int.reduceToNat, Nat.reduceEqDiff, Nat.reduceBEq, Nat.reduceBneDiff]
      refine callk hc1 ?_
      conv => simp (maxSteps := 2000000) (disch := omega) only [go_sem, Nat.reduceAdd, Nat.reduceSub, Nat.reduceMul, Int.reduceToNat, Nat.reduceEqDiff, Nat.reduceBEq, Nat.reduceBneDiff]
      refine guardd (fun h3 => ?_) (fun h3 => ?_)
      · have h3' := decide_eq_true h3
        conv => simp (maxSteps := 2000000) (disch := omega) only [go_sem, Nat.reduceAdd, Nat.reduceSub, Nat.reduceMul, Int.reduceToNat, Nat.reduceEqDiff, Nat.reduceBEq, Nat.reduceBneDiff, h3']
        refine callk hc2 ?_
        conv => simp (maxSteps := 2000000) (disch := omega) only [go_sem, Nat.reduceAdd, Nat.reduceSub, Nat.reduceMul, Int.reduceToNat, Nat.reduceEqDiff, Nat.reduceBEq, Nat.reduceBneDiff]
        have e : decide (Fc.cmp f s.high ≤ 0) = r := by rw [hr]; exact decide_eq_decide.2 ⟨fun h => ⟨h1, h2, h3, h⟩, fun h => h.2.2.2⟩
        exact ⟨_, rfl, by rw [e]; exact .one (.refl _)⟩
      · have h3' := decide_eq_false h3
        conv => simp (maxSteps := 2000000) (disch := omega) only [go_sem, Nat.reduceAdd, Nat.reduceSub, Nat.reduceMul, Int.reduceToNat, Nat.reduceEqDiff, Nat.reduceBEq, Nat.reduceBneDiff, h3']
        exact ⟨_, rfl, by rw [bad (fun h => h3 h.2.2.1)]; exact .one (.refl _)⟩
    · rw [bad (fun h => h2 h.2.1)]
      refine CallsTo.run [] Go.Proofs.Try.func28 rfl rfl ?_; conv => simp (maxSteps := 2000000) (disch := omega) only [go_sem, Nat.reduceAdd, Nat.reduceSub, Nat.reduceMul, Int.reduceToNat, Nat.reduceEqDiff, Nat.reduceBEq, Nat.reduceBneDiff, Go.Proofs.Try.f28, List.replicate]
      refine callk (cSpanT s h h1) ?_
      conv => simp (maxSteps := 2000000) (disch := omega) only [go_sem, Nat.reduceAdd, Nat.reduceSub, Nat.reduceMul, Int.reduceToNat, Nat.reduceEqDiff, Nat.reduceBEq, Nat.reduceBneDiff]
      refine callk (cRightBad f (by omega) h2) ?_
      conv => simp (maxSteps := 2000000) (disch := omega) only [go_sem, Nat.reduceAdd, Nat.reduceSub, Nat.reduceMul, Int.reduceToNat, Nat.reduceEqDiff, Nat.reduceBEq, Nat.reduceBneDiff]
      exact ⟨_, rfl, .one (.refl _)⟩
  · rw [bad (fun h => h1 h.1)]
    refine CallsTo.run [] Go.Proofs.Try.func28 rfl rfl ?_; conv => simp (maxSteps := 2000000) (disch := omega) only [go_sem, Nat.reduceAdd, Nat.reduceSub, Nat.reduceMul, Int.reduceToNat, Nat.reduceEqDiff, Nat.reduceBEq, Nat.reduceBneDiff, Go.Proofs.Try.f28, List.replicate]
    refine callk (cSpanN s h h1) ?_
    conv => simp (maxSteps := 2000000) (disch := omega) only [go_sem, Nat.reduceAdd, Nat.reduceSub, Nat.reduceMul, Int.reduceToNat, Nat.reduceEqDiff, Nat.reduceBEq, Nat.reduceBneDiff]
    exact ⟨_, rfl, .one (.refl _)⟩
theorem cInside (a b : Sc) (ha : a.sz ≤ 67108864) (hb : b.sz ≤ 67108864) : CallsTo prog 33 [.agg a.C, .agg b.C] (.one (.raw (.bool (decide (a.inside b))))) := by
  have ⟨hal, hah⟩ := Sc.low_sz ha
  have ⟨hbl, hbh⟩ := Sc.low_sz hb
  obtain ⟨r, hr⟩ : ∃ r, r = decide (a.inside b) := ⟨_, rfl⟩
  rw [← hr]
  have bad : ¬ a.inside b → r = false := fun h => by rw [hr, decide_eq_false h]
  by_cases h1 : a.ok
  · by_cases h2 : b.ok
    · have hc1 := cCmpF b.low a.low hbl hal
      have hc2 := cCmpF a.high b.high hah hbh
      refine CallsTo.run [] Go.Proofs.Try.func33 rfl rfl ?_; conv => simp (maxSteps := 2000000) (disch := omega) only [go_sem, Nat.reduceAdd, Nat.reduceSub, Nat.reduceMul, Int.reduceToNat, Nat.reduceEqDiff, Nat.reduceBEq, Nat.reduceBneDiff, Go.Proofs.Try.f33, List.replicate]
      refine callk (cSpanT a ha h1) ?_
      conv => simp (maxSteps := 2000000) (disch := omega) only [go_sem, Nat.reduceAdd, Nat.reduceSub, Nat.reduceMul, Int.reduceToNat, Nat.reduceEqDiff, Nat.reduceBEq, Nat.reduceBneDiff]
      refine callk (cSpanT b hb h2) ?_
      conv => simp (maxSteps := 2000000) (disch := omega) only [go_sem, Nat.reduceAdd, Nat.reduceSub, Nat.reduceMul, Int.reduceToNat, Nat.reduceEqDiff, Nat.reduceBEq, Nat.reduceBneDiff]
      refine callk hc1 ?_
      conv => simp (maxSteps := 2000000) (disch := omega) only [go_sem, Nat.reduceAdd, Nat.reduceSub, Nat.reduceMul, Int.reduceToNat, Nat.reduceEqDiff, Nat.reduceBEq, Nat.reduceBneDiff]
      refine guardd (fun h3 => ?_) (fun h3 => ?_)
      · have h3' := decide_eq_true h3
        conv => simp (maxSteps := 2000000) (disch := omega) only [go_sem, Nat.reduceAdd, Nat.reduceSub, Nat.reduceMul, Int.reduceToNat, Nat.reduceEqDiff, Nat.reduceBEq, Nat.reduceBneDiff, h3']
        refine callk hc2 ?_
        conv => simp (maxSteps := 2000000) (disch := omega) only [go_sem, Nat.reduceAdd, Nat.reduceSub, Nat.reduceMul, Int.reduceToNat, Nat.reduceEqDiff, Nat.reduceBEq, Nat.reduceBneDiff]
        have e : decide (Fc.cmp a.high b.high ≤ 0) = r := by rw [hr]; exact decide_eq_decide.2 ⟨fun h => ⟨h1, h2, h3, h⟩, fun h => h.2.2.2⟩
        exact ⟨_, rfl, by rw [e]; exact .one (.refl _)⟩
      · have h3' := decide_eq_false h3
        conv => simp (maxSteps := 2000000) (disch := omega) only [go_sem, Nat.reduceAdd, Nat.reduceSub, Nat.reduceMul, Int.reduceToNat, Nat.reduceEqDiff, Nat.reduceBEq, Nat.reduceBneDiff, h3']
        exact ⟨_, rfl, by rw [bad (fun h => h3 h.2.2.1)]; exact .one (.refl _)⟩
    · rw [bad (fun h => h2 h.2.1)]
      refine CallsTo.run [] Go.Proofs.Try.func33 rfl rfl ?_; conv => simp (maxSteps := 2000000) (disch := omega) only [go_sem, Nat.reduceAdd, Nat.reduceSub, Nat.reduceMul, Int.reduceToNat, Nat.reduceEqDiff, Nat.reduceBEq, Nat.reduceBneDiff, Go.Proofs.Try.f33, List.replicate]
      refine callk (cSpanT a ha h1) ?_
      conv => simp (maxSteps := 2000000) (disch := omega) only [go_sem, Nat.reduceAdd, Nat.reduceSub, Nat.reduceMul, Int.reduceToNat, Nat.reduceEqDiff, Nat.reduceBEq, Nat.reduceBneDiff]
      refine callk (cSpanN b hb h2) ?_
      conv => simp (maxSteps := 2000000) (disch := omega) only [go_sem, Nat.reduceAdd, Nat.reduceSub, Nat.reduceMul, Int.reduceToNat, Nat.reduceEqDiff, Nat.reduceBEq, Nat.reduceBneDiff]
      exact ⟨_, rfl, .one (.refl _)⟩
  · rw [bad (fun h => h1 h.1)]
    refine CallsTo.run [] Go.Proofs.Try.func33 rfl rfl ?_; conv => simp (maxSteps := 2000000) (disch := omega) only [go_sem, Nat.reduceAdd, Nat.reduceSub, Nat.reduceMul, Int.reduceToNat, Nat.reduceEqDiff, Nat.reduceBEq, Nat.reduceBneDiff, Go.Proofs.Try.f33, List.replicate]
    refine callk (cSpanN a ha h1) ?_
    conv => simp (maxSteps := 2000000) (disch := omega) only [go_sem, Nat.reduceAdd, Nat.reduceSub, Nat.reduceMul, Int.reduceToNat, Nat.reduceEqDiff, Nat.reduceBEq, Nat.reduceBneDiff]
    exact ⟨_, rfl, .one (.refl _)⟩
theorem cWidth (s : Sc) (h : s.sz ≤ 67108864) : CallsTo prog 55 [.agg s.C] (.agg (Sc.width s).C) := by
  have ⟨hl, hh⟩ := Sc.low_sz h
  by_cases h1 : s.ok
  · rw [show Sc.width s = Fc.sub s.high s.low from if_pos h1]
    refine CallsTo.run [] Go.Proofs.Try.func55 rfl rfl ?_; conv => simp (maxSteps := 2000000) (disch := omega) only [go_sem, Nat.reduceAdd, Nat.reduceSub, Nat.reduceMul, Int.reduceToNat, Nat.reduceEqDiff, Nat.reduceBEq, Nat.reduceBneDiff, Go.Proofs.Try.f55, List.replicate]
    refine callk (cSpanT s h h1) ?_
    conv => simp (maxSteps := 2000000) (disch := omega) only [go_sem, Nat.reduceAdd, Nat.reduceSub, Nat.reduceMul, Int.reduceToNat, Nat.reduceEqDiff, Nat.reduceBEq, Nat.reduceBneDiff]
    refine callk (cSubF s.high s.low hh hl) ?_
    conv => simp (maxSteps := 2000000) (disch := omega) only [go_sem, Nat.reduceAdd, Nat.reduceSub, Nat.reduceMul, Int.reduceToNat, Nat.reduceEqDiff, Nat.reduceBEq, Nat.reduceBneDiff]
    exact ⟨_, rfl, .one (.refl _)⟩
  · rw [show Sc.width s = Fc.zero from if_neg h1]
    refine CallsTo.run [] Go.Proofs.Try.func55 rfl rfl ?_; conv => simp (maxSteps := 2000000) (disch := omega) only [go_sem, Nat.reduceAdd, Nat.reduceSub, Nat.reduceMul, Int.reduceToNat, Nat.reduceEqDiff, Nat.reduceBEq, Nat.reduceBneDiff, Go.Proofs.Try.f55, List.replicate]
    refine callk (cSpanN s h h1) ?_
    conv => simp (maxSteps := 2000000) (disch := omega) only [go_sem, Nat.reduceAdd, Nat.reduceSub, Nat.reduceMul, Int.reduceToNat, Nat.reduceEqDiff, Nat.reduceBEq, Nat.reduceBneDiff]
    exact ⟨_, rfl, zero1Le⟩
theorem cFreshS (f : Fc) (h : f.sz ≤ 67108864) : CallsTo prog 65 [.agg f.C] (.agg f.C) := by
  have ⟨h1, h2⟩ := szL h
  refine CallsTo.run [] Go.Proofs.Try.func65 rfl rfl ?_; conv => simp (maxSteps := 2000000) (disch := omega) only [go_sem, Nat.reduceAdd, Nat.reduceSub, Nat.reduceMul, Int.reduceToNat, Nat.reduceEqDiff, Nat.reduceBEq, Nat.reduceBneDiff, Go.Proofs.Try.f65, List.replicate]
  refine callk (cClone f.L (by omega)) ?_
  conv => simp (maxSteps := 2000000) (disch := omega) only [go_sem, Nat.reduceAdd, Nat.reduceSub, Nat.reduceMul, Int.reduceToNat, Nat.reduceEqDiff, Nat.reduceBEq, Nat.reduceBneDiff]
  refine callk (cClone f.M (by omega)) ?_
  conv => simp (maxSteps := 2000000) (disch := omega) only [go_sem, Nat.reduceAdd, Nat.reduceSub, Nat.reduceMul, Int.reduceToNat, Nat.reduceEqDiff, Nat.reduceBEq, Nat.reduceBneDiff]
  refine indk (by kernel_rfl) ?_
  conv => simp (maxSteps := 2000000) (disch := omega) only [go_sem, Nat.reduceAdd, Nat.reduceSub, Nat.reduceMul, Int.reduceToNat, Nat.reduceEqDiff, Nat.reduceBEq, Nat.reduceBneDiff]
  exact ⟨_, rfl, .one (.refl _)⟩
theorem cPoint (f : Fc) (h : f.sz ≤ 67108864) : CallsTo prog 32 [.agg f.C] (.agg (Sc.point f).C) := by
  by_cases h1 : f.ok
  · rw [show Sc.point f = ⟨f, f⟩ from if_pos h1]
    refine CallsTo.run [] Go.Proofs.Try.func32 rfl rfl ?_; conv => simp (maxSteps := 2000000) (disch := omega) only [go_sem, Nat.reduceAdd, Nat.reduceSub, Nat.reduceMul, Int.reduceToNat, Nat.reduceEqDiff, Nat.reduceBEq, Nat.reduceBneDiff, Go.Proofs.Try.f32, List.replicate]
    refine callk (cRightT f (by omega) h1) ?_
    conv => simp (maxSteps := 2000000) (disch := omega) only [go_sem, Nat.reduceAdd, Nat.reduceSub, Nat.reduceMul, Int.reduceToNat, Nat.reduceEqDiff, Nat.reduceBEq, Nat.reduceBneDiff]
    refine callk (cFreshS f h) ?_
    conv => simp (maxSteps := 2000000) (disch := omega) only [go_sem, Nat.reduceAdd, Nat.reduceSub, Nat.reduceMul, Int.reduceToNat, Nat.reduceEqDiff, Nat.reduceBEq, Nat.reduceBneDiff]
    refine callk (cFreshS f h) ?_
    conv => simp (maxSteps := 2000000) (disch := omega) only [go_sem, Nat.reduceAdd, Nat.reduceSub, Nat.reduceMul, Int.reduceToNat, Nat.reduceEqDiff, Nat.reduceBEq, Nat.reduceBneDiff]
    refine indk (by kernel_rfl) ?_
    conv => simp (maxSteps := 2000000) (disch := omega) only [go_sem, Nat.reduceAdd, Nat.reduceSub, Nat.reduceMul, Int.reduceToNat, Nat.reduceEqDiff, Nat.reduceBEq, Nat.reduceBneDiff]
    exact ⟨_, rfl, .one (.refl _)⟩
  · rw [show Sc.point f = Sc.zero from if_neg h1]
    refine CallsTo.run [] Go.Proofs.Try.func32 rfl rfl ?_; conv => simp (maxSteps := 2000000) (disch := omega) only [go_sem, Nat.reduceAdd, Nat.reduceSub, Nat.reduceMul, Int.reduceToNat, Nat.reduceEqDiff, Nat.reduceBEq, Nat.reduceBneDiff, Go.Proofs.Try.f32, List.replicate]
    refine callk (cRightBad f (by omega) h1) ?_
    conv => simp (maxSteps := 2000000) (disch := omega) only [go_sem, Nat.reduceAdd, Nat.reduceSub, Nat.reduceMul, Int.reduceToNat, Nat.reduceEqDiff, Nat.reduceBEq, Nat.reduceBneDiff]
    exact ⟨_, rfl, .one zeroS⟩
theorem cSpanAdd (a b : Sc) (ha : a.sz ≤ 67108864) (hb : b.sz ≤ 67108864) : CallsTo prog 30 [.agg a.C, .agg b.C] (.tup [.agg (Sc.add a b).C, .one (.raw (.int .i64 (Fc.er (a.ok ∧ b.ok))))]) := by
  have ⟨hal, hah⟩ := Sc.low_sz ha
  have ⟨hbl, hbh⟩ := Sc.low_sz hb
  by_cases h1 : a.ok
  · by_cases h2 : b.ok
    · rw [Fc.er_of ⟨h1, h2⟩, show Sc.add a b = ⟨Fc.add a.low b.low, Fc.add a.high b.high⟩ from if_pos ⟨h1, h2⟩]
      refine CallsTo.run [] Go.Proofs.Try.func30 rfl rfl ?_; conv => simp (maxSteps := 2000000) (disch := omega) only [go_sem, Nat.reduceAdd, Nat.reduceSub, Nat.reduceMul, Int.reduceToNat, Nat.reduceEqDiff, Nat.reduceBEq, Nat.reduceBneDiff, Go.Proofs.Try.f30, List.replicate]
      refine callk (cSpanT a ha h1) ?_
      conv => simp (maxSteps := 2000000) (disch := omega) only [go_sem, Nat.reduceAdd, Nat.reduceSub, Nat.reduceMul, Int.reduceToNat, Nat.reduceEqDiff, Nat.reduceBEq, Nat.reduceBneDiff]
      refine callk (cSpanT b hb h2) ?_
      conv => simp (maxSteps := 2000000) (disch := omega) only [go_sem, Nat.reduceAdd, Nat.reduceSub, Nat.reduceMul, Int.reduceToNat, Nat.reduceEqDiff, Nat.reduceBEq, Nat.reduceBneDiff]
      refine callk (cAddF a.low b.low hal hbl) ?_
      conv => simp (maxSteps := 2000000) (disch := omega) only [go_sem, Nat.reduceAdd, Nat.reduceSub, Nat.reduceMul, Int.reduceToNat, Nat.reduceEqDiff, Nat.reduceBEq, Nat.reduceBneDiff]
      refine callk (cAddF a.high b.high hah hbh) ?_
      conv => simp (maxSteps := 2000000) (disch := omega) only [go_sem, Nat.reduceAdd, Nat.reduceSub, Nat.reduceMul, Int.reduceToNat, Nat.reduceEqDiff, Nat.reduceBEq, Nat.reduceBneDiff]
      exact ⟨_, rfl, .tup (.cons (.refl _) (.cons (.refl _) .nil))⟩
    · rw [Fc.er_bad (fun h => h2 h.2), show Sc.add a b = Sc.zero from if_neg (fun h => h2 h.2)]
      refine CallsTo.run [] Go.Proofs.Try.func30 rfl rfl ?_; conv => simp (maxSteps := 2000000) (disch := omega) only [go_sem, Nat.reduceAdd, Nat.reduceSub, Nat.reduceMul, Int.reduceToNat, Nat.reduceEqDiff, Nat.reduceBEq, Nat.reduceBneDiff, Go.Proofs.Try.f30, List.replicate]
      refine callk (cSpanT a ha h1) ?_
      conv => simp (maxSteps := 2000000) (disch := omega) only [go_sem, Nat.reduceAdd, Nat.reduceSub, Nat.reduceMul, Int.reduceToNat, Nat.reduceEqDiff, Nat.reduceBEq, Nat.reduceBneDiff]
      refine callk (cSpanN b hb h2) ?_
      conv => simp (maxSteps := 2000000) (disch := omega) only [go_sem, Nat.reduceAdd, Nat.reduceSub, Nat.reduceMul, Int.reduceToNat, Nat.reduceEqDiff, Nat.reduceBEq, Nat.reduceBneDiff]
      exact ⟨_, rfl, .tup (.cons zeroS (.cons (.refl _) .nil))⟩
  · rw [Fc.er_bad (fun h => h1 h.1), show Sc.add a b = Sc.zero from if_neg (fun h => h1 h.1)]
    refine CallsTo.run [] Go.Proofs.Try.func30 rfl rfl ?_; conv => simp (maxSteps := 2000000) (disch := omega) only [go_sem, Nat.reduceAdd, Nat.reduceSub, Nat.reduceMul, Int.reduceToNat, Nat.reduceEqDiff, Nat.reduceBEq, Nat.reduceBneDiff, Go.Proofs.Try.f30, List.replicate]
    refine callk (cSpanN a ha h1) ?_
    conv => simp (maxSteps := 2000000) (disch := omega) only [go_sem, Nat.reduceAdd, Nat.reduceSub, Nat.reduceMul, Int.reduceToNat, Nat.reduceEqDiff, Nat.reduceBEq, Nat.reduceBneDiff]
    exact ⟨_, rfl, .tup (.cons zeroS (.cons (.refl _) .nil))⟩
theorem cProduct (a b : Fc) (ha : a.sz ≤ 67108864) (hb : b.sz ≤ 67108864) : CallsTo prog 64 [.agg a.C, .agg b.C] (.agg (Fc.mul a b).C) := by
  refine CallsTo.run [] Go.Proofs.Try.func64 rfl rfl ?_; conv => simp (maxSteps := 2000000) (disch := omega) only [go_sem, Nat.reduceAdd, Nat.reduceSub, Nat.reduceMul, Int.reduceToNat, Nat.reduceEqDiff, Nat.reduceBEq, Nat.reduceBneDiff, Go.Proofs.Try.f64, List.replicate]
  refine callk (cMulF a b ha hb) ?_
  conv => simp (maxSteps := 2000000) (disch := omega) only [go_sem, Nat.reduceAdd, Nat.reduceSub, Nat.reduceMul, Int.reduceToNat, Nat.reduceEqDiff, Nat.reduceBEq, Nat.reduceBneDiff]
  exact ⟨_, rfl, .one (.refl _)⟩
theorem least_mem : ∀ (l : List Fc) (m : Fc), Sc.least m l ∈ m :: l
  | [], m => by simp [Sc.least]
  | x :: r, m => by
    have h0 := least_mem r (if Fc.cmp x m < 0 then x else m)
    show Sc.least (if Fc.cmp x m < 0 then x else m) r ∈ _
    by_cases hc : Fc.cmp x m < 0
    · rw [if_pos hc] at h0 ⊢
      exact List.mem_cons_of_mem _ h0
    · rw [if_neg hc] at h0 ⊢
      rcases List.mem_cons.1 h0 with h | h
      · rw [h]; exact List.mem_cons_self
      · exact List.mem_cons_of_mem _ (List.mem_cons_of_mem _ h)
theorem great_mem : ∀ (l : List Fc) (m : Fc), Sc.great m l ∈ m :: l
  | [], m => by simp [Sc.great]
  | x :: r, m => by
    have h0 := great_mem r (if Fc.cmp x m > 0 then x else m)
    show Sc.great (if Fc.cmp x m > 0 then x else m) r ∈ _
    by_cases hc : Fc.cmp x m > 0
    · rw [if_pos hc] at h0 ⊢
      exact List.mem_cons_of_mem _ h0
    · rw [if_neg hc] at h0 ⊢
      rcases List.mem_cons.1 h0 with h | h
      · rw [h]; exact List.mem_cons_self
      · exact List.mem_cons_of_mem _ (List.mem_cons_of_mem _ h)
theorem around_sz {l : List Fc} {n : Nat} (h0 : 0 < l.length) (hs : ∀ f ∈ l, f.sz ≤ n) : (Sc.around l).low.sz ≤ n ∧ (Sc.around l).high.sz ≤ n := by
  have e : l = l.getD 0 Fc.zero :: l.drop 1 := drop_cons (i := 0) Fc.zero h0
  refine ⟨hs _ ?_, hs _ ?_⟩
  · rw [e]; exact least_mem _ _
  · rw [e]; exact great_mem _ _
theorem cAround (l : List Fc) (h0 : 0 < l.length) (hl : l.length ≤ 1048576) (hs : ∀ f ∈ l, f.sz ≤ 67108864) : CallsTo prog 63 [.one (.sl 4 (l.map Fc.C))] (.agg (Sc.around l).C) := by
  have ⟨h1, h2⟩ := around_sz h0 hs
  refine CallsTo.run [] Go.Proofs.Try.func63 rfl rfl ?_; conv => simp (maxSteps := 2000000) (disch := omega) only [go_sem, Nat.reduceAdd, Nat.reduceSub, Nat.reduceMul, Int.reduceToNat, Nat.reduceEqDiff, Nat.reduceBEq, Nat.reduceBneDiff, Go.Proofs.Try.f63, List.replicate]
  refine callk (cMinFr l h0 hl hs) ?_
  conv => simp (maxSteps := 2000000) (disch := omega) only [go_sem, Nat.reduceAdd, Nat.reduceSub, Nat.reduceMul, Int.reduceToNat, Nat.reduceEqDiff, Nat.reduceBEq, Nat.reduceBneDiff]
  refine callk (cFreshS (Sc.around l).low h1) ?_
  conv => simp (maxSteps := 2000000) (disch := omega) only [go_sem, Nat.reduceAdd, Nat.reduceSub, Nat.reduceMul, Int.reduceToNat, Nat.reduceEqDiff, Nat.reduceBEq, Nat.reduceBneDiff]
  refine callk (cMaxFr l h0 hl hs) ?_
  conv => simp (maxSteps := 2000000) (disch := omega) only [go_sem, Nat.reduceAdd, Nat.reduceSub, Nat.reduceMul, Int.reduceToNat, Nat.reduceEqDiff, Nat.reduceBEq, Nat.reduceBneDiff]
  refine callk (cFreshS (Sc.around l).high h2) ?_
  conv => simp (maxSteps := 2000000) (disch := omega) only [go_sem, Nat.reduceAdd, Nat.reduceSub, Nat.reduceMul, Int.reduceToNat, Nat.reduceEqDiff, Nat.reduceBEq, Nat.reduceBneDiff]
  exact ⟨_, rfl, .one (.refl _)⟩
theorem cSpanMul (a b : Sc) (ha : a.sz ≤ 33554432) (hb : b.sz ≤ 33554432) : CallsTo prog 31 [.agg a.C, .agg b.C] (.tup [.agg (Sc.mul a b).C, .one (.raw (.int .i64 (Fc.er (a.ok ∧ b.ok))))]) := by
  have ⟨hal, hah⟩ := Sc.low_sz ha
  have ⟨hbl, hbh⟩ := Sc.low_sz hb
  by_cases h1 : a.ok
  · by_cases h2 : b.ok
    · rw [Fc.er_of ⟨h1, h2⟩, show Sc.mul a b = Sc.around [Fc.mul a.low b.low, Fc.mul a.low b.high, Fc.mul a.high b.low, Fc.mul a.high b.high] from if_pos ⟨h1, h2⟩]
      have s1 := Fc.sz_mul a.low b.low
      have s2 := Fc.sz_mul a.low b.high
      have s3 := Fc.sz_mul a.high b.low
      have s4 := Fc.sz_mul a.high b.high
      have hA := cAround [Fc.mul a.low b.low, Fc.mul a.low b.high, Fc.mul a.high b.low, Fc.mul a.high b.high] (by simp) (by simp) (fun f hf => by
        simp only [List.mem_cons, List.not_mem_nil, or_false] at hf
        rcases hf with rfl | rfl | rfl | rfl <;> omega)
      refine CallsTo.run [] Go.Proofs.Try.func31 rfl rfl ?_; conv => simp (maxSteps := 2000000) (disch := omega) only [go_sem, Nat.reduceAdd, Nat.reduceSub, Nat.reduceMul, Int.reduceToNat, Nat.reduceEqDiff, Nat.reduceBEq, Nat.reduceBneDiff, Go.Proofs.Try.f31, List.replicate]
      refine callk (cSpanT a (by omega) h1) ?_
      conv => simp (maxSteps := 2000000) (disch := omega) only [go_sem, Nat.reduceAdd, Nat.reduceSub, Nat.reduceMul, Int.reduceToNat, Nat.reduceEqDiff, Nat.reduceBEq, Nat.reduceBneDiff]
      refine callk (cSpanT b (by omega) h2) ?_
      conv => simp (maxSteps := 2000000) (disch := omega) only [go_sem, Nat.reduceAdd, Nat.reduceSub, Nat.reduceMul, Int.reduceToNat, Nat.reduceEqDiff, Nat.reduceBEq, Nat.reduceBneDiff]
      refine callk (cProduct a.low b.low (by omega) (by omega)) ?_
      conv => simp (maxSteps := 2000000) (disch := omega) only [go_sem, Nat.reduceAdd, Nat.reduceSub, Nat.reduceMul, Int.reduceToNat, Nat.reduceEqDiff, Nat.reduceBEq, Nat.reduceBneDiff]
      refine callk (cProduct a.low b.high (by omega) (by omega)) ?_
      conv => simp (maxSteps := 2000000) (disch := omega) only [go_sem, Nat.reduceAdd, Nat.reduceSub, Nat.reduceMul, Int.reduceToNat, Nat.reduceEqDiff, Nat.reduceBEq, Nat.reduceBneDiff]
      refine callk (cProduct a.high b.low (by omega) (by omega)) ?_
      conv => simp (maxSteps := 2000000) (disch := omega) only [go_sem, Nat.reduceAdd, Nat.reduceSub, Nat.reduceMul, Int.reduceToNat, Nat.reduceEqDiff, Nat.reduceBEq, Nat.reduceBneDiff]
      refine callk (cProduct a.high b.high (by omega) (by omega)) ?_
      conv => simp (maxSteps := 2000000) (disch := omega) only [go_sem, Nat.reduceAdd, Nat.reduceSub, Nat.reduceMul, Int.reduceToNat, Nat.reduceEqDiff, Nat.reduceBEq, Nat.reduceBneDiff]
      refine callk hA ?_
      conv => simp (maxSteps := 2000000) (disch := omega) only [go_sem, Nat.reduceAdd, Nat.reduceSub, Nat.reduceMul, Int.reduceToNat, Nat.reduceEqDiff, Nat.reduceBEq, Nat.reduceBneDiff]
      refine indk (by kernel_rfl) ?_
      conv => simp (maxSteps := 2000000) (disch := omega) only [go_sem, Nat.reduceAdd, Nat.reduceSub, Nat.reduceMul, Int.reduceToNat, Nat.reduceEqDiff, Nat.reduceBEq, Nat.reduceBneDiff]
      exact ⟨_, rfl, .tup (.cons (.refl _) (.cons (.refl _) .nil))⟩
    · rw [Fc.er_bad (fun h => h2 h.2), show Sc.mul a b = Sc.zero from if_neg (fun h => h2 h.2)]
      refine CallsTo.run [] Go.Proofs.Try.func31 rfl rfl ?_; conv => simp (maxSteps := 2000000) (disch := omega) only [go_sem, Nat.reduceAdd, Nat.reduceSub, Nat.reduceMul, Int.reduceToNat, Nat.reduceEqDiff, Nat.reduceBEq, Nat.reduceBneDiff, Go.Proofs.Try.f31, List.replicate]
      refine callk (cSpanT a (by omega) h1) ?_
      conv => simp (maxSteps := 2000000) (disch := omega) only [go_sem, Nat.reduceAdd, Nat.reduceSub, Nat.reduceMul, Int.reduceToNat, Nat.reduceEqDiff, Nat.reduceBEq, Nat.reduceBneDiff]
      refine callk (cSpanN b (by omega) h2) ?_
      conv => simp (maxSteps := 2000000) (disch := omega) only [go_sem, Nat.reduceAdd, Nat.reduceSub, Nat.reduceMul, Int.reduceToNat, Nat.reduceEqDiff, Nat.reduceBEq, Nat.reduceBneDiff]
      exact ⟨_, rfl, .tup (.cons zeroS (.cons (.refl _) .nil))⟩
  · rw [Fc.er_bad (fun h => h1 h.1), show Sc.mul a b = Sc.zero from if_neg (fun h => h1 h.1)]
    refine CallsTo.run [] Go.Proofs.Try.func31 rfl rfl ?_; conv => simp (maxSteps := 2000000) (disch := omega) only [go_sem, Nat.reduceAdd, Nat.reduceSub, Nat.reduceMul, Int.reduceToNat, Nat.reduceEqDiff, Nat.reduceBEq, Nat.reduceBneDiff, Go.Proofs.Try.f31, List.replicate]
    refine callk (cSpanN a (by omega) h1) ?_
    conv => simp (maxSteps := 2000000) (disch := omega) only [go_sem, Nat.reduceAdd, Nat.reduceSub, Nat.reduceMul, Int.reduceToNat, Nat.reduceEqDiff, Nat.reduceBEq, Nat.reduceBneDiff]
    exact ⟨_, rfl, .tup (.cons zeroS (.cons (.refl _) .nil))⟩
end Go.Slot.T

/- Contracts of package affine: Right, At, Plus, Times. -/
namespace Go.Slot.T
open Go Go.RowKit Go.Slot
open Go.Proofs.Try (prog)
set_option maxRecDepth 10000
set_option maxHeartbeats 4000000

theorem cWrong (f : Fc) (h : f.sz ≤ 67108864) : CallsTo prog 58 [.agg f.C] (.one (.raw (.bool (!decide f.ok)))) := by
  refine CallsTo.run [] Go.Proofs.Try.func58 rfl rfl ?_; conv => simp (maxSteps := 2000000) (disch := omega) only [go_sem, Nat.reduceAdd, Nat.reduceSub, Nat.reduceMul, Int.reduceToNat, Nat.reduceEqDiff, Nat.reduceBEq, Nat.reduceBneDiff, Go.Proofs.Try.f58, List.replicate]
  refine callk (cRightF f (by omega)) ?_
  conv => simp (maxSteps := 2000000) (disch := omega) only [go_sem, Nat.reduceAdd, Nat.reduceSub, Nat.reduceMul, Int.reduceToNat, Nat.reduceEqDiff, Nat.reduceBEq, Nat.reduceBneDiff]
  exact ⟨_, rfl, .one (.refl _)⟩
theorem getD_sz {l : List Fc} {n : Nat} (h : ∀ f ∈ l, f.sz ≤ n) {i : Nat} (hi : i < l.length) : (l.getD i Fc.zero).sz ≤ n := h _ (by simp [hi])
theorem cWrongs (l : List Fc) (hl : l.length ≤ 1048576) (hs : ∀ f ∈ l, f.sz ≤ 67108864) :
    CallsTo prog 44 [.one (.sl 4 (l.map Fc.C)), .one (.raw (.func (.func 58) #[] #[]))] (.one (.raw (.bool (!decide (oks l))))) := by
  have := cContainsFr 58 (fun f => !decide f.ok) l (by omega) (fun i hi => cWrong _ (getD_sz hs hi))
  rwa [oks_any] at this
theorem cAffRight (a : Af) (n : Int) (hl : a.l.length ≤ 1048576) (hs : a.le 67108864) :
    CallsTo prog 57 [.agg a.C, .one (.raw (.int .i64 n))] (.one (.raw (.bool (decide ((a.l.length : Int) = n ∧ a.c.ok ∧ oks a.l))))) := by
  obtain ⟨r, hr⟩ : ∃ r, r = decide ((a.l.length : Int) = n ∧ a.c.ok ∧ oks a.l) := ⟨_, rfl⟩
  rw [← hr]
  have hw := cWrongs a.l hl hs.2
  by_cases h2 : a.c.ok
  · refine CallsTo.run [] Go.Proofs.Try.func57 rfl rfl ?_; conv => simp (maxSteps := 2000000) (disch := omega) only [go_sem, Nat.reduceAdd, Nat.reduceSub, Nat.reduceMul, Int.reduceToNat, Nat.reduceEqDiff, Nat.reduceBEq, Nat.reduceBneDiff, Go.Proofs.Try.f57, List.replicate]
    refine guardd (fun h1 => ?_) (fun h1 => ?_)
    · have h1' := decide_eq_true h1
      conv => simp (maxSteps := 2000000) (disch := omega) only [go_sem, Nat.reduceAdd, Nat.reduceSub, Nat.reduceMul, Int.reduceToNat, Nat.reduceEqDiff, Nat.reduceBEq, Nat.reduceBneDiff, h1']
      refine callk (cRightT a.c (by have := hs.1; omega) h2) ?_
      conv => simp (maxSteps := 2000000) (disch := omega) only [go_sem, Nat.reduceAdd, Nat.reduceSub, Nat.reduceMul, Int.reduceToNat, Nat.reduceEqDiff, Nat.reduceBEq, Nat.reduceBneDiff]
      refine callk hw ?_
      conv => simp (maxSteps := 2000000) (disch := omega) only [go_sem, Nat.reduceAdd, Nat.reduceSub, Nat.reduceMul, Int.reduceToNat, Nat.reduceEqDiff, Nat.reduceBEq, Nat.reduceBneDiff, Bool.not_not]
      have e : decide (oks a.l) = r := by rw [hr]; exact decide_eq_decide.2 ⟨fun h => ⟨h1, h2, h⟩, fun h => h.2.2⟩
      exact ⟨_, rfl, by rw [e]; exact .one (.refl _)⟩
    · have h1' := decide_eq_false h1
      conv => simp (maxSteps := 2000000) (disch := omega) only [go_sem, Nat.reduceAdd, Nat.reduceSub, Nat.reduceMul, Int.reduceToNat, Nat.reduceEqDiff, Nat.reduceBEq, Nat.reduceBneDiff, h1']
      exact ⟨_, rfl, by rw [hr, decide_eq_false (fun h => h1 h.1)]; exact .one (.refl _)⟩
  · rw [hr, decide_eq_false (fun h => h2 h.2.1)]
    refine CallsTo.run [] Go.Proofs.Try.func57 rfl rfl ?_; conv => simp (maxSteps := 2000000) (disch := omega) only [go_sem, Nat.reduceAdd, Nat.reduceSub, Nat.reduceMul, Int.reduceToNat, Nat.reduceEqDiff, Nat.reduceBEq, Nat.reduceBneDiff, Go.Proofs.Try.f57, List.replicate]
    refine guardd (fun h1 => ?_) (fun h1 => ?_)
    · have h1' := decide_eq_true h1
      conv => simp (maxSteps := 2000000) (disch := omega) only [go_sem, Nat.reduceAdd, Nat.reduceSub, Nat.reduceMul, Int.reduceToNat, Nat.reduceEqDiff, Nat.reduceBEq, Nat.reduceBneDiff, h1']
      refine callk (cRightBad a.c (by have := hs.1; omega) h2) ?_
      conv => simp (maxSteps := 2000000) (disch := omega) only [go_sem, Nat.reduceAdd, Nat.reduceSub, Nat.reduceMul, Int.reduceToNat, Nat.reduceEqDiff, Nat.reduceBEq, Nat.reduceBneDiff]
      exact ⟨_, rfl, .one (.refl _)⟩
    · have h1' := decide_eq_false h1
      conv => simp (maxSteps := 2000000) (disch := omega) only [go_sem, Nat.reduceAdd, Nat.reduceSub, Nat.reduceMul, Int.reduceToNat, Nat.reduceEqDiff, Nat.reduceBEq, Nat.reduceBneDiff, h1']
      exact ⟨_, rfl, .one (.refl _)⟩
theorem cAffRightN (a : Af) (n : Nat) (hl : a.l.length ≤ 1048576) (hs : a.le 67108864) :
    CallsTo prog 57 [.agg a.C, .one (.raw (.int .i64 n))] (.one (.raw (.bool (decide (a.ok n))))) := by
  have := cAffRight a n hl hs
  rwa [show decide ((a.l.length : Int) = n ∧ a.c.ok ∧ oks a.l) = decide (a.ok n) from decide_eq_decide.2 ⟨fun h => ⟨by have := h.1; omega, h.2⟩, fun h => ⟨by have := h.1; omega, h.2⟩⟩] at this
theorem sz_zero1 : (Fc.of 0).sz ≤ 1 := by
  show max (dig (0 : Int).natAbs).length (dig 1).length ≤ 1
  rw [show (0 : Int).natAbs = 0 from rfl, dig_zero, dig_pos (by decide), dig_zero]
  decide
theorem cCopyA (f : Fc) (h : f.sz ≤ 67108864) : CallsTo prog 59 [.agg f.C] (.agg (Af.copy f).C) := by
  have hz := sz_zero1
  have hA := cAddF f (Fc.of 0) h (by omega)
  refine CallsTo.run [] Go.Proofs.Try.func59 rfl rfl ?_; conv => simp (maxSteps := 2000000) (disch := omega) only [go_sem, Nat.reduceAdd, Nat.reduceSub, Nat.reduceMul, Int.reduceToNat, Nat.reduceEqDiff, Nat.reduceBEq, Nat.reduceBneDiff, Go.Proofs.Try.f59, List.replicate]
  refine callk (cIntF 0 (by decide)) ?_
  conv => simp (maxSteps := 2000000) (disch := omega) only [go_sem, Nat.reduceAdd, Nat.reduceSub, Nat.reduceMul, Int.reduceToNat, Nat.reduceEqDiff, Nat.reduceBEq, Nat.reduceBneDiff]
  refine callk hA ?_
  conv => simp (maxSteps := 2000000) (disch := omega) only [go_sem, Nat.reduceAdd, Nat.reduceSub, Nat.reduceMul, Int.reduceToNat, Nat.reduceEqDiff, Nat.reduceBEq, Nat.reduceBneDiff]
  refine indk (by kernel_rfl) ?_
  conv => simp (maxSteps := 2000000) (disch := omega) only [go_sem, Nat.reduceAdd, Nat.reduceSub, Nat.reduceMul, Int.reduceToNat, Nat.reduceEqDiff, Nat.reduceBEq, Nat.reduceBneDiff]
  exact ⟨_, rfl, .one (.refl _)⟩
theorem copy_sz (f : Fc) : (Af.copy f).sz ≤ f.sz + 2 := by
  have := Fc.sz_add f (Fc.of 0)
  have := sz_zero1
  unfold Af.copy; omega
theorem sum_sz {B : Nat} : ∀ (l v : List Fc) (s : Fc), (∀ f ∈ l, f.sz ≤ B) → (∀ f ∈ v, f.sz ≤ B) → (Af.sum s l v).sz ≤ s.sz + l.length * (2 * B + 1)
  | [], v, s, _, _ => by cases v <;> simp [Af.sum]
  | c :: cs, [], s, _, _ => by simp [Af.sum]
  | c :: cs, x :: vs, s, hl, hv => by
    have h := sum_sz cs vs (Fc.add s (Fc.mul c x)) (fun f hf => hl f (by simp [hf])) (fun f hf => hv f (by simp [hf]))
    have h1 := Fc.sz_add s (Fc.mul c x)
    have h2 := Fc.sz_mul c x
    have h3 := hl c (by simp)
    have h4 := hv x (by simp)
    simp only [Af.sum, List.length_cons]
    rw [Nat.add_mul, Nat.one_mul]
    omega
theorem cAt (a : Af) (v : List Fc) (hl : a.l.length ≤ 1024) (hv : v.length ≤ 1024) (hs : a.le 16384) (hsv : ∀ f ∈ v, f.sz ≤ 16384) :
    CallsTo prog 26 [.agg a.C, .one (.sl 4 (v.map Fc.C))] (.tup [.agg (a.at' v).C, .one (.raw (.bool (decide (a.ok v.length ∧ oks v))))]) := by
  have hs' : a.le 67108864 := ⟨by have := hs.1; omega, fun f hf => by have := hs.2 f hf; omega⟩
  have hsv' : ∀ f ∈ v, f.sz ≤ 67108864 := fun f hf => by have := hsv f hf; omega
  have hr := cAffRightN a v.length (by omega) hs'
  have hw := cWrongs v (by omega) hsv'
  by_cases h1 : a.ok v.length
  · rw [decide_eq_true h1] at hr
    by_cases h2 : oks v
    · rw [decide_eq_true h2] at hw
      rw [decide_eq_true ⟨h1, h2⟩, show a.at' v = Af.sum (Af.copy a.c) a.l v from if_pos ⟨h1, h2⟩]
      have hlen := h1.1
      refine CallsTo.run [] Go.Proofs.Try.func26 rfl rfl ?_; conv => simp (maxSteps := 2000000) (disch := omega) only [go_sem, Nat.reduceAdd, Nat.reduceSub, Nat.reduceMul, Int.reduceToNat, Nat.reduceEqDiff, Nat.reduceBEq, Nat.reduceBneDiff, Go.Proofs.Try.f26, List.replicate]
      refine callk hr ?_
      conv => simp (maxSteps := 2000000) (disch := omega) only [go_sem, Nat.reduceAdd, Nat.reduceSub, Nat.reduceMul, Int.reduceToNat, Nat.reduceEqDiff, Nat.reduceBEq, Nat.reduceBneDiff]
      refine callk hw ?_
      conv => simp (maxSteps := 2000000) (disch := omega) only [go_sem, Nat.reduceAdd, Nat.reduceSub, Nat.reduceMul, Int.reduceToNat, Nat.reduceEqDiff, Nat.reduceBEq, Nat.reduceBneDiff]
      refine callk (cCopyA a.c hs'.1) ?_
      conv => simp (maxSteps := 2000000) (disch := omega) only [go_sem, Nat.reduceAdd, Nat.reduceSub, Nat.reduceMul, Int.reduceToNat, Nat.reduceEqDiff, Nat.reduceBEq, Nat.reduceBneDiff]
      have hcs := copy_sz a.c
      have hc1 := hs.1
      refine loopo [24, 25] (fun x : Nat × Fc => [(6, .box x.2.C), (26, .one (.raw (.int .i64 x.1)))])
        (fun x => x.1 ≤ v.length ∧ x.2.sz ≤ 16386 + x.1 * 32769 ∧ Af.sum (Af.copy a.c) a.l v = Af.sum x.2 (a.l.drop x.1) (v.drop x.1)) (fun x => v.length - x.1) (0, Af.copy a.c) ⟨Nat.zero_le _, by dsimp only; omega, rfl⟩ ?_ ?_
      · conv => simp (maxSteps := 2000000) (disch := omega) only [go_sem, Nat.reduceAdd, Nat.reduceSub, Nat.reduceMul, Int.reduceToNat, Nat.reduceEqDiff, Nat.reduceBEq, Nat.reduceBneDiff]
        exact StLe.weaken (by repeat' first | exact .nil | refine .cons (by first | exact .refl _ | exact .any _) ?_) rfl
      rintro ⟨i, s⟩ ⟨hi, hss, he⟩
      simp only at hi hss he
      conv => simp (maxSteps := 2000000) (disch := omega) only [go_sem, Nat.reduceAdd, Nat.reduceSub, Nat.reduceMul, Int.reduceToNat, Nat.reduceEqDiff, Nat.reduceBEq, Nat.reduceBneDiff]
      refine condd (fun h => ?_) (fun h => ?_)
      · have hi1 : i < v.length := by omega
        have hi2 : i < a.l.length := by omega
        have hb1 := getD_sz hs.2 hi2
        have hb2 := getD_sz hsv hi1
        rw [drop_cons Fc.zero hi2, drop_cons Fc.zero hi1] at he
        have hm := Fc.sz_mul (a.l.getD i Fc.zero) (v.getD i Fc.zero)
        have ha := Fc.sz_add s (Fc.mul (a.l.getD i Fc.zero) (v.getD i Fc.zero))
        have hi3 : i * 32769 ≤ 1024 * 32769 := Nat.mul_le_mul_right _ (by omega)
        conv => simp (maxSteps := 2000000) (disch := omega) only [go_sem, Nat.reduceAdd, Nat.reduceSub, Nat.reduceMul, Int.reduceToNat, Nat.reduceEqDiff, Nat.reduceBEq, Nat.reduceBneDiff]
        refine callk (cMulF (a.l.getD i Fc.zero) (v.getD i Fc.zero) (by omega) (by omega)) ?_
        conv => simp (maxSteps := 2000000) (disch := omega) only [go_sem, Nat.reduceAdd, Nat.reduceSub, Nat.reduceMul, Int.reduceToNat, Nat.reduceEqDiff, Nat.reduceBEq, Nat.reduceBneDiff]
        refine indk (by kernel_rfl) ?_
        conv => simp (maxSteps := 2000000) (disch := omega) only [go_sem, Nat.reduceAdd, Nat.reduceSub, Nat.reduceMul, Int.reduceToNat, Nat.reduceEqDiff, Nat.reduceBEq, Nat.reduceBneDiff]
        refine callk (cAddF s (Fc.mul (a.l.getD i Fc.zero) (v.getD i Fc.zero)) (by omega) (by omega)) ?_
        conv => simp (maxSteps := 2000000) (disch := omega) only [go_sem, Nat.reduceAdd, Nat.reduceSub, Nat.reduceMul, Int.reduceToNat, Nat.reduceEqDiff, Nat.reduceBEq, Nat.reduceBneDiff]
        exact ⟨(i + 1, Fc.add s (Fc.mul (a.l.getD i Fc.zero) (v.getD i Fc.zero))), ⟨by dsimp only; omega, by dsimp only; omega, he⟩, by dsimp only; omega, StLe.weaken (by repeat' first | exact .nil | refine .cons (by first | exact .refl _ | exact .any _) ?_) rfl⟩
      · have hi' : i = v.length := by omega
        rw [hi', List.drop_length] at he
        have he : Af.sum (Af.copy a.c) a.l v = s := by rw [he]; cases List.drop v.length a.l <;> rfl
        conv => simp (maxSteps := 2000000) (disch := omega) only [go_sem, Nat.reduceAdd, Nat.reduceSub, Nat.reduceMul, Int.reduceToNat, Nat.reduceEqDiff, Nat.reduceBEq, Nat.reduceBneDiff]
        exact ⟨_, rfl, by rw [he]; exact .tup (.cons (.refl _) (.cons (.refl _) .nil))⟩
    · rw [decide_eq_false h2] at hw
      rw [decide_eq_false (fun h => h2 h.2), show a.at' v = Fc.zero from if_neg (fun h => h2 h.2)]
      refine CallsTo.run [] Go.Proofs.Try.func26 rfl rfl ?_; conv => simp (maxSteps := 2000000) (disch := omega) only [go_sem, Nat.reduceAdd, Nat.reduceSub, Nat.reduceMul, Int.reduceToNat, Nat.reduceEqDiff, Nat.reduceBEq, Nat.reduceBneDiff, Go.Proofs.Try.f26, List.replicate]
      refine callk hr ?_
      conv => simp (maxSteps := 2000000) (disch := omega) only [go_sem, Nat.reduceAdd, Nat.reduceSub, Nat.reduceMul, Int.reduceToNat, Nat.reduceEqDiff, Nat.reduceBEq, Nat.reduceBneDiff]
      refine callk hw ?_
      conv => simp (maxSteps := 2000000) (disch := omega) only [go_sem, Nat.reduceAdd, Nat.reduceSub, Nat.reduceMul, Int.reduceToNat, Nat.reduceEqDiff, Nat.reduceBEq, Nat.reduceBneDiff]
      exact ⟨_, rfl, .tup (.cons zeroLe (.cons (.refl _) .nil))⟩
  · rw [decide_eq_false h1] at hr
    rw [decide_eq_false (fun h => h1 h.1), show a.at' v = Fc.zero from if_neg (fun h => h1 h.1)]
    refine CallsTo.run [] Go.Proofs.Try.func26 rfl rfl ?_; conv => simp (maxSteps := 2000000) (disch := omega) only [go_sem, Nat.reduceAdd, Nat.reduceSub, Nat.reduceMul, Int.reduceToNat, Nat.reduceEqDiff, Nat.reduceBEq, Nat.reduceBneDiff, Go.Proofs.Try.f26, List.replicate]
    refine callk hr ?_
    conv => simp (maxSteps := 2000000) (disch := omega) only [go_sem, Nat.reduceAdd, Nat.reduceSub, Nat.reduceMul, Int.reduceToNat, Nat.reduceEqDiff, Nat.reduceBEq, Nat.reduceBneDiff]
    exact ⟨_, rfl, .tup (.cons zeroLe (.cons (.refl _) .nil))⟩
end Go.Slot.T

/- Contracts of package affine: each, Plus, Times. -/
namespace Go.Slot.T
open Go Go.RowKit Go.Slot
open Go.Proofs.Try (prog)
set_option maxRecDepth 10000
set_option maxHeartbeats 4000000

/-- what a function of two fractions does -/
def FF (B : Nat) (op : Fc → Fc → Fc) (e : Fc → Fc → Int) (args : List AV) (res : AV) : Prop :=
  ∃ x y : Fc, x.sz ≤ B ∧ y.sz ≤ B ∧ args = [.agg x.C, .agg y.C] ∧ res = .tup [.agg (op x y).C, .one (.raw (.int .i64 (e x y)))]
theorem callable_of {f : FuncId} {args : List AV} {res : AV} (h : CallsTo prog f args res) : Callable prog f := h.1
/-- a plain function as an argument, known by what it does -/
theorem CallsTo.fn2 {f g : FuncId} {F : List AV → AV → Prop} {a b res : AV} (h : CallsTo prog f [a, b, .one (.fnp (FnSpec prog F))] res) (hc : Callable prog g) (hF : ∀ args res, F args res → CallsTo prog g args res) :
    CallsTo prog f [a, b, .one (.raw (.func (.func g) #[] #[]))] res :=
  ⟨h.1, fun M w vs hM hr => h.2 M w vs hM (by
    match vs, hr with
    | [u, v, x], hr => exact ⟨hr.1, hr.2.1, fnp_of_raw hc hF hr.2.2.1, trivial⟩)⟩
theorem zip_snoc {op : Fc → Fc → Fc} {l m : List Fc} {i : Nat} (h1 : i < l.length) (h2 : i < m.length) :
    (List.zipWith op (l.take i) (m.take i)).map Fc.C ++ [(op (l.getD i Fc.zero) (m.getD i Fc.zero)).C] = (List.zipWith op (l.take (i + 1)) (m.take (i + 1))).map Fc.C := by
  have e1 : l.take (i + 1) = l.take i ++ [l.getD i Fc.zero] := by rw [List.take_add_one]; simp [h1]
  have e2 : m.take (i + 1) = m.take i ++ [m.getD i Fc.zero] := by rw [List.take_add_one]; simp [h2]
  rw [e1, e2, List.zipWith_append (by simp; omega)]
  simp
theorem cEach (B : Nat) (op : Fc → Fc → Fc) (e : Fc → Fc → Int) (a b : Af) (hl : a.l.length ≤ b.l.length) (hb : a.l.length ≤ 1048576) (ha : a.le B) (hbb : b.le B) :
    CallsTo prog 60 [.agg a.C, .agg b.C, .one (.fnp (FnSpec prog (FF B op e)))] (.agg (Af.each op a b).C) := by
  refine CallsTo.run [] Go.Proofs.Try.func60 rfl rfl ?_; conv => simp (maxSteps := 2000000) (disch := omega) only [go_sem, Nat.reduceAdd, Nat.reduceSub, Nat.reduceMul, Int.reduceToNat, Nat.reduceEqDiff, Nat.reduceBEq, Nat.reduceBneDiff, Go.Proofs.Try.f60, List.replicate]
  refine fnk (F := FF B op e) ⟨a.c, b.c, ha.1, hbb.1, rfl, rfl⟩ ?_
  conv => simp (maxSteps := 2000000) (disch := omega) only [go_sem, Nat.reduceAdd, Nat.reduceSub, Nat.reduceMul, Int.reduceToNat, Nat.reduceEqDiff, Nat.reduceBEq, Nat.reduceBneDiff]
  refine loopo [2, 3, 4, 23, 24] (fun i : Nat => [(7, .box [.raw (.int .i64 (op a.c b.c).s), .ints .i64 (op a.c b.c).L, .raw (.int .i64 (op a.c b.c).t), .ints .i64 (op a.c b.c).M, if i = 0 then .zc else .tok 45 (.sl 4 ((List.zipWith op (a.l.take i) (b.l.take i)).map Fc.C))]), (25, .one (.raw (.int .i64 i)))])
    (fun i => i ≤ a.l.length) (fun i => a.l.length - i) 0 (Nat.zero_le _) ?_ ?_
  · conv => simp (maxSteps := 2000000) (disch := omega) only [go_sem, Nat.reduceAdd, Nat.reduceSub, Nat.reduceMul, Int.reduceToNat, Nat.reduceEqDiff, Nat.reduceBEq, Nat.reduceBneDiff]
    exact StLe.weaken (by repeat' first | exact .nil | refine .cons (by first | exact .refl _ | exact .any _) ?_) rfl
  rintro i hi
  have hbyte : ∀ n : Nat, n ≤ 1048576 → (n + 1) * 64 ≤ 140737488355328 ∧ n + 1 ≤ 9223372036854775807 := fun n hn => by omega
  have hz : (List.zipWith op (a.l.take i) (b.l.take i)).length = i := by simp; omega
  have body : ∀ h : i < a.l.length, FF B op e [.agg (a.l.getD i Fc.zero).C, .agg (b.l.getD i Fc.zero).C] (.tup [.agg (op (a.l.getD i Fc.zero) (b.l.getD i Fc.zero)).C, .one (.raw (.int .i64 (e (a.l.getD i Fc.zero) (b.l.getD i Fc.zero))))]) := fun h =>
    ⟨_, _, getD_sz ha.2 h, getD_sz hbb.2 (by omega), rfl, rfl⟩
  have fin : i = a.l.length → List.zipWith op (a.l.take i) (b.l.take i) = List.zipWith op a.l b.l := fun h => by
    rw [h, List.take_length]
    conv => rhs; rw [List.zipWith_eq_zipWith_take_min]
    rw [Nat.min_eq_left hl, List.take_length]
  by_cases h0 : i = 0
  · subst h0
    conv => simp (maxSteps := 2000000) (disch := omega) only [go_sem, Nat.reduceAdd, Nat.reduceSub, Nat.reduceMul, Int.reduceToNat, Nat.reduceEqDiff, Nat.reduceBEq, Nat.reduceBneDiff]
    refine condd (fun h => ?_) (fun h => ?_)
    · have hsn := zip_snoc (op := op) (l := a.l) (m := b.l) (i := 0) (by omega) (by omega)
      simp only [List.take_zero, List.zipWith_nil_left, List.map_nil, List.nil_append] at hsn
      conv => simp (maxSteps := 2000000) (disch := omega) only [go_sem, Nat.reduceAdd, Nat.reduceSub, Nat.reduceMul, Int.reduceToNat, Nat.reduceEqDiff, Nat.reduceBEq, Nat.reduceBneDiff]
      refine fnk (F := FF B op e) (body (by omega)) ?_
      conv => simp (maxSteps := 2000000) (disch := omega) only [go_sem, Nat.reduceAdd, Nat.reduceSub, Nat.reduceMul, Int.reduceToNat, Nat.reduceEqDiff, Nat.reduceBEq, Nat.reduceBneDiff]
      refine indk (by kernel_rfl) ?_
      conv => simp (maxSteps := 2000000) (disch := omega) only [go_sem, Nat.reduceAdd, Nat.reduceSub, Nat.reduceMul, Int.reduceToNat, Nat.reduceEqDiff, Nat.reduceBEq, Nat.reduceBneDiff]
      refine ⟨1, by omega, by omega, ?_⟩
      rw [if_neg (by decide), ← hsn]
      exact StLe.weaken (by repeat' first | exact .nil | refine .cons (by first | exact .refl _ | exact .any _) ?_) rfl
    · have fin := fin (by omega)
      simp only [List.take_zero, List.zipWith_nil_left] at fin
      conv => simp (maxSteps := 2000000) (disch := omega) only [go_sem, Nat.reduceAdd, Nat.reduceSub, Nat.reduceMul, Int.reduceToNat, Nat.reduceEqDiff, Nat.reduceBEq, Nat.reduceBneDiff]
      refine ⟨_, rfl, ?_⟩
      unfold Af.each
      rw [← fin]
      exact .one (.agg (.cons (.refl _) (.cons (.refl _) (.cons (.refl _) (.cons (.refl _) (.cons (.zcSl _) .nil))))))
  · rw [if_neg h0]
    conv => simp (maxSteps := 2000000) (disch := omega) only [go_sem, Nat.reduceAdd, Nat.reduceSub, Nat.reduceMul, Int.reduceToNat, Nat.reduceEqDiff, Nat.reduceBEq, Nat.reduceBneDiff]
    refine condd (fun h => ?_) (fun h => ?_)
    · have hsn := zip_snoc (op := op) (l := a.l) (m := b.l) (i := i) (by omega) (by omega)
      conv => simp (maxSteps := 2000000) (disch := omega) only [go_sem, Nat.reduceAdd, Nat.reduceSub, Nat.reduceMul, Int.reduceToNat, Nat.reduceEqDiff, Nat.reduceBEq, Nat.reduceBneDiff]
      refine fnk (F := FF B op e) (body (by omega)) ?_
      conv => simp (maxSteps := 2000000) (disch := omega) only [go_sem, Nat.reduceAdd, Nat.reduceSub, Nat.reduceMul, Int.reduceToNat, Nat.reduceEqDiff, Nat.reduceBEq, Nat.reduceBneDiff, hz]
      refine indk (by kernel_rfl) ?_
      conv => simp (maxSteps := 2000000) (disch := omega) only [go_sem, Nat.reduceAdd, Nat.reduceSub, Nat.reduceMul, Int.reduceToNat, Nat.reduceEqDiff, Nat.reduceBEq, Nat.reduceBneDiff]
      refine ⟨i + 1, by omega, by omega, ?_⟩
      rw [if_neg (by omega), ← hsn]
      exact StLe.weaken (by repeat' first | exact .nil | refine .cons (by first | exact .refl _ | exact .any _) ?_) rfl
    · have fin := fin (by omega)
      conv => simp (maxSteps := 2000000) (disch := omega) only [go_sem, Nat.reduceAdd, Nat.reduceSub, Nat.reduceMul, Int.reduceToNat, Nat.reduceEqDiff, Nat.reduceBEq, Nat.reduceBneDiff]
      refine ⟨_, rfl, ?_⟩
      unfold Af.each
      rw [← fin]
      exact .one (.agg (.cons (.refl _) (.cons (.refl _) (.cons (.refl _) (.cons (.refl _) (.cons (.refl _) .nil))))))
theorem zeroA : AV.Le (.agg [.raw (.int .i64 0), .zc, .raw (.int .i64 0), .zc, .zc]) (.agg Af.zero.C) :=
  .agg (.cons (.refl _) (.cons (.zcInts _) (.cons (.refl _) (.cons (.zcInts _) (.cons (.zcSl _) .nil)))))
theorem cPlus (a b : Af) (la : a.l.length ≤ 1048576) (lb : b.l.length ≤ 1048576) (ha : a.le 67108864) (hb : b.le 67108864) :
    CallsTo prog 29 [.agg a.C, .agg b.C] (.tup [.agg (Af.plus a b).C, .one (.raw (.int .i64 (Fc.er (a.ok a.l.length ∧ b.ok a.l.length))))]) := by
  have hra := cAffRightN a a.l.length la ha
  have hrb := cAffRightN b a.l.length lb hb
  by_cases h1 : a.ok a.l.length
  · rw [decide_eq_true h1] at hra
    by_cases h2 : b.ok a.l.length
    · rw [decide_eq_true h2] at hrb
      rw [Fc.er_of ⟨h1, h2⟩, show Af.plus a b = Af.each Fc.add a b from if_pos ⟨h1, h2⟩]
      have hE := CallsTo.fn2 (g := 47) (cEach 67108864 Fc.add (fun x y => Fc.er (x.ok ∧ y.ok)) a b (by have := h2.1; omega) la ha hb) (cAddF Fc.zero Fc.zero (by decide) (by decide)).1
        (fun args res ⟨x, y, hx, hy, h1, h2⟩ => by subst h1 h2; exact cAddF x y hx hy)
      refine CallsTo.run [] Go.Proofs.Try.func29 rfl rfl ?_; conv => simp (maxSteps := 2000000) (disch := omega) only [go_sem, Nat.reduceAdd, Nat.reduceSub, Nat.reduceMul, Int.reduceToNat, Nat.reduceEqDiff, Nat.reduceBEq, Nat.reduceBneDiff, Go.Proofs.Try.f29, List.replicate]
      refine callk hra ?_
      conv => simp (maxSteps := 2000000) (disch := omega) only [go_sem, Nat.reduceAdd, Nat.reduceSub, Nat.reduceMul, Int.reduceToNat, Nat.reduceEqDiff, Nat.reduceBEq, Nat.reduceBneDiff]
      refine callk hrb ?_
      conv => simp (maxSteps := 2000000) (disch := omega) only [go_sem, Nat.reduceAdd, Nat.reduceSub, Nat.reduceMul, Int.reduceToNat, Nat.reduceEqDiff, Nat.reduceBEq, Nat.reduceBneDiff]
      refine callk hE ?_
      conv => simp (maxSteps := 2000000) (disch := omega) only [go_sem, Nat.reduceAdd, Nat.reduceSub, Nat.reduceMul, Int.reduceToNat, Nat.reduceEqDiff, Nat.reduceBEq, Nat.reduceBneDiff]
      exact ⟨_, rfl, .tup (.cons (.refl _) (.cons (.refl _) .nil))⟩
    · rw [decide_eq_false h2] at hrb
      rw [Fc.er_bad (fun h => h2 h.2), show Af.plus a b = Af.zero from if_neg (fun h => h2 h.2)]
      refine CallsTo.run [] Go.Proofs.Try.func29 rfl rfl ?_; conv => simp (maxSteps := 2000000) (disch := omega) only [go_sem, Nat.reduceAdd, Nat.reduceSub, Nat.reduceMul, Int.reduceToNat, Nat.reduceEqDiff, Nat.reduceBEq, Nat.reduceBneDiff, Go.Proofs.Try.f29, List.replicate]
      refine callk hra ?_
      conv => simp (maxSteps := 2000000) (disch := omega) only [go_sem, Nat.reduceAdd, Nat.reduceSub, Nat.reduceMul, Int.reduceToNat, Nat.reduceEqDiff, Nat.reduceBEq, Nat.reduceBneDiff]
      refine callk hrb ?_
      conv => simp (maxSteps := 2000000) (disch := omega) only [go_sem, Nat.reduceAdd, Nat.reduceSub, Nat.reduceMul, Int.reduceToNat, Nat.reduceEqDiff, Nat.reduceBEq, Nat.reduceBneDiff]
      exact ⟨_, rfl, .tup (.cons zeroA (.cons (.refl _) .nil))⟩
  · rw [decide_eq_false h1] at hra
    rw [Fc.er_bad (fun h => h1 h.1), show Af.plus a b = Af.zero from if_neg (fun h => h1 h.1)]
    refine CallsTo.run [] Go.Proofs.Try.func29 rfl rfl ?_; conv => simp (maxSteps := 2000000) (disch := omega) only [go_sem, Nat.reduceAdd, Nat.reduceSub, Nat.reduceMul, Int.reduceToNat, Nat.reduceEqDiff, Nat.reduceBEq, Nat.reduceBneDiff, Go.Proofs.Try.f29, List.replicate]
    refine callk hra ?_
    conv => simp (maxSteps := 2000000) (disch := omega) only [go_sem, Nat.reduceAdd, Nat.reduceSub, Nat.reduceMul, Int.reduceToNat, Nat.reduceEqDiff, Nat.reduceBEq, Nat.reduceBneDiff]
    exact ⟨_, rfl, .tup (.cons zeroA (.cons (.refl _) .nil))⟩
theorem cTimes1 (x y f : Fc) (hx : x.sz ≤ 67108864) (hf : f.sz ≤ 67108864) :
    CallsTo prog 61 [.agg x.C, .agg y.C, .elt f.C] (.tup [.agg (Fc.mul x f).C, .one (.raw (.int .i64 (Fc.er (x.ok ∧ f.ok))))]) := by
  refine CallsTo.run [] Go.Proofs.Try.func61 rfl rfl ?_; conv => simp (maxSteps := 2000000) (disch := omega) only [go_sem, Nat.reduceAdd, Nat.reduceSub, Nat.reduceMul, Int.reduceToNat, Nat.reduceEqDiff, Nat.reduceBEq, Nat.reduceBneDiff, Go.Proofs.Try.f61, List.replicate]
  refine callk (cMulF x f hx hf) ?_
  conv => simp (maxSteps := 2000000) (disch := omega) only [go_sem, Nat.reduceAdd, Nat.reduceSub, Nat.reduceMul, Int.reduceToNat, Nat.reduceEqDiff, Nat.reduceBEq, Nat.reduceBneDiff]
  exact ⟨_, rfl, .tup (.cons (.refl _) (.cons (.refl _) .nil))⟩
theorem cTimesA (a : Af) (f : Fc) (la : a.l.length ≤ 1048576) (ha : a.le 67108864) (hf : f.sz ≤ 67108864) :
    CallsTo prog 27 [.agg a.C, .agg f.C] (.tup [.agg (Af.times a f).C, .one (.raw (.int .i64 (Fc.er (a.ok a.l.length ∧ f.ok))))]) := by
  have hra := cAffRightN a a.l.length la ha
  have hw := cWrong f hf
  by_cases h1 : a.ok a.l.length
  · rw [decide_eq_true h1] at hra
    by_cases h2 : f.ok
    · rw [decide_eq_true h2] at hw
      rw [Fc.er_of ⟨h1, h2⟩, show Af.times a f = Af.each (fun x _ => Fc.mul x f) a a from if_pos ⟨h1, h2⟩]
      have hE := cEach 67108864 (fun x _ => Fc.mul x f) (fun x _ => Fc.er (x.ok ∧ f.ok)) a a (Nat.le_refl _) la ha ha
      refine CallsTo.run [(3, [.frz 3])] Go.Proofs.Try.func27 rfl rfl ?_; conv => simp (maxSteps := 2000000) (disch := omega) only [go_sem, Nat.reduceAdd, Nat.reduceSub, Nat.reduceMul, Int.reduceToNat, Nat.reduceEqDiff, Nat.reduceBEq, Nat.reduceBneDiff, Go.Proofs.Try.f27, List.replicate]
      refine callk hra ?_
      conv => simp (maxSteps := 2000000) (disch := omega) only [go_sem, Nat.reduceAdd, Nat.reduceSub, Nat.reduceMul, Int.reduceToNat, Nat.reduceEqDiff, Nat.reduceBEq, Nat.reduceBneDiff]
      refine callk hw ?_
      conv => simp (maxSteps := 2000000) (disch := omega) only [go_sem, Nat.reduceAdd, Nat.reduceSub, Nat.reduceMul, Int.reduceToNat, Nat.reduceEqDiff, Nat.reduceBEq, Nat.reduceBneDiff]
      refine mkk (FF 67108864 (fun x _ => Fc.mul x f) (fun x _ => Fc.er (x.ok ∧ f.ok))) (cTimes1 f f f hf hf).1 (fun args res ⟨x, y, hx, hy, h1, h2⟩ => by subst h1 h2; exact cTimes1 x y f hx hf) ?_
      conv => simp (maxSteps := 2000000) (disch := omega) only [go_sem, Nat.reduceAdd, Nat.reduceSub, Nat.reduceMul, Int.reduceToNat, Nat.reduceEqDiff, Nat.reduceBEq, Nat.reduceBneDiff]
      refine callk hE ?_
      conv => simp (maxSteps := 2000000) (disch := omega) only [go_sem, Nat.reduceAdd, Nat.reduceSub, Nat.reduceMul, Int.reduceToNat, Nat.reduceEqDiff, Nat.reduceBEq, Nat.reduceBneDiff]
      exact ⟨_, rfl, .tup (.cons (.refl _) (.cons (.refl _) .nil))⟩
    · rw [decide_eq_false h2] at hw
      rw [Fc.er_bad (fun h => h2 h.2), show Af.times a f = Af.zero from if_neg (fun h => h2 h.2)]
      refine CallsTo.run [] Go.Proofs.Try.func27 rfl rfl ?_; conv => simp (maxSteps := 2000000) (disch := omega) only [go_sem, Nat.reduceAdd, Nat.reduceSub, Nat.reduceMul, Int.reduceToNat, Nat.reduceEqDiff, Nat.reduceBEq, Nat.reduceBneDiff, Go.Proofs.Try.f27, List.replicate]
      refine callk hra ?_
      conv => simp (maxSteps := 2000000) (disch := omega) only [go_sem, Nat.reduceAdd, Nat.reduceSub, Nat.reduceMul, Int.reduceToNat, Nat.reduceEqDiff, Nat.reduceBEq, Nat.reduceBneDiff]
      refine callk hw ?_
      conv => simp (maxSteps := 2000000) (disch := omega) only [go_sem, Nat.reduceAdd, Nat.reduceSub, Nat.reduceMul, Int.reduceToNat, Nat.reduceEqDiff, Nat.reduceBEq, Nat.reduceBneDiff]
      exact ⟨_, rfl, .tup (.cons zeroA (.cons (.refl _) .nil))⟩
  · rw [decide_eq_false h1] at hra
    rw [Fc.er_bad (fun h => h1 h.1), show Af.times a f = Af.zero from if_neg (fun h => h1 h.1)]
    refine CallsTo.run [] Go.Proofs.Try.func27 rfl rfl ?_; conv => simp (maxSteps := 2000000) (disch := omega) only [go_sem, Nat.reduceAdd, Nat.reduceSub, Nat.reduceMul, Int.reduceToNat, Nat.reduceEqDiff, Nat.reduceBEq, Nat.reduceBneDiff, Go.Proofs.Try.f27, List.replicate]
    refine callk hra ?_
    conv => simp (maxSteps := 2000000) (disch := omega) only [go_sem, Nat.reduceAdd, Nat.reduceSub, Nat.reduceMul, Int.reduceToNat, Nat.reduceEqDiff, Nat.reduceBEq, Nat.reduceBneDiff]
    exact ⟨_, rfl, .tup (.cons zeroA (.cons (.refl _) .nil))⟩
end Go.Slot.T

/- Plain laws: what package back gives, on data. -/
namespace Go.Slot
open Go Go.RowKit Go.Slot.T
def okS (l : List Sc) : Prop := ∀ s ∈ l, s.ok
instance (l : List Sc) : Decidable (okS l) := inferInstanceAs (Decidable (∀ s ∈ l, s.ok))
theorem okS_cons {f : Sc} {l : List Sc} : okS (f :: l) ↔ f.ok ∧ okS l := ⟨fun h => ⟨h f (by simp), fun g hg => h g (by simp [hg])⟩, fun h g hg => by
  rcases List.mem_cons.1 hg with rfl | hg
  · exact h.1
  · exact h.2 g hg⟩
theorem okS_any : ∀ (l : List Sc), (l.any fun f => !decide f.ok) = !decide (okS l)
  | [] => by simp [okS]
  | f :: l => by
    rw [List.any_cons, okS_any l, decide_eq_decide.2 okS_cons, Bool.decide_and, Bool.not_and]
namespace Bk
def ok (f : Af) (l : List Sc) : Prop := f.ok l.length ∧ okS l
instance (f : Af) (l : List Sc) : Decidable (ok f l) := inferInstanceAs (Decidable (_ ∧ _))
def lo (c : Fc) (s : Sc) : Fc := if Fc.sign c < 0 then Af.copy s.high else Af.copy s.low
def hi (c : Fc) (s : Sc) : Fc := if Fc.sign c < 0 then Af.copy s.low else Af.copy s.high
def lows (f : Af) (l : List Sc) : List Fc := List.zipWith lo f.l l
def highs (f : Af) (l : List Sc) : List Fc := List.zipWith hi f.l l
def bounds (f : Af) (l : List Sc) : Sc := if ok f l then ⟨f.at' (lows f l), f.at' (highs f l)⟩ else Sc.zero
def swing (c : Fc) (s : Sc) : Fc := Fc.maxf (Fc.mul c (Sc.width s)) (Fc.neg (Fc.mul c (Sc.width s)))
def nar : Nat → Int × Fc → List Fc → List Sc → Int × Fc
  | i, st, c :: cs, s :: ss => nar (i + 1) (if Fc.cmp (swing c s) st.2 > 0 then ((i : Int), swing c s) else st) cs ss
  | _, st, _, _ => st
def narrow (f : Af) (l : List Sc) : Int × Fc × Int := if ok f l then (if l.length = 0 then (0, Fc.zero, 4) else ((nar 0 (0, Fc.of 0) f.l l).1, (nar 0 (0, Fc.of 0) f.l l).2, 0)) else (0, Fc.zero, 1)
def flo : Fc → List Fc → List Fc → List Sc → Option Fc
  | s, u :: d :: ms, c :: cs, p :: ps => if Fc.sub u d = c then flo (Fc.add s (Fc.sub (Fc.mul u p.low) (Fc.mul d p.high))) ms cs ps else none
  | s, _, _, _ => some s
/-- multipliers that may be used -/
def okM (l : List Fc) : Prop := ∀ m ∈ l, m.ok ∧ 0 ≤ Fc.sign m
instance (l : List Fc) : Decidable (okM l) := inferInstanceAs (Decidable (∀ m ∈ l, _ ∧ _))
def verdict (v : Fc) : Option Fc → Bool
  | some s => decide (0 ≤ Fc.cmp s v)
  | none => false
def floor (f : Af) (l : List Sc) (v : Fc) (ms : List Fc) : Bool := if ok f l ∧ v.ok ∧ ms.length = 2 * l.length ∧ okM ms then verdict v (flo f.c ms f.l l) else false
theorem okM_cons {f : Fc} {l : List Fc} : okM (f :: l) ↔ (f.ok ∧ 0 ≤ Fc.sign f) ∧ okM l := ⟨fun h => ⟨h f (by simp), fun g hg => h g (by simp [hg])⟩, fun h g hg => by
  rcases List.mem_cons.1 hg with rfl | hg
  · exact h.1
  · exact h.2 g hg⟩
theorem okM_any : ∀ (l : List Fc), (l.any fun f => !decide (f.ok ∧ 0 ≤ Fc.sign f)) = !decide (okM l)
  | [] => by simp [okM]
  | f :: l => by
    rw [List.any_cons, okM_any l, decide_eq_decide.2 okM_cons, Bool.decide_and (f.ok ∧ 0 ≤ Fc.sign f), Bool.not_and]
end Bk
theorem take_snoc {α : Type} {l : List α} {i : Nat} (d : α) (h : i < l.length) : l.take (i + 1) = l.take i ++ [l.getD i d] := by
  rw [List.take_add_one]; simp [h]
theorem zipG_snoc {α β : Type} {op : α → β → Fc} {l : List α} {m : List β} {i : Nat} (a : α) (b : β) (h1 : i < l.length) (h2 : i < m.length) :
    (List.zipWith op (l.take i) (m.take i)).map Fc.C ++ [(op (l.getD i a) (m.getD i b)).C] = (List.zipWith op (l.take (i + 1)) (m.take (i + 1))).map Fc.C := by
  rw [take_snoc a h1, take_snoc b h2, List.zipWith_append (by simp; omega)]
  simp
end Go.Slot

/- Contracts of package back. -/
namespace Go.Slot.T
open Go Go.RowKit Go.Slot
open Go.Proofs.Try (prog)
set_option maxRecDepth 10000
set_option maxHeartbeats 4000000

/-- sizes that package back is asked for -/
def small (f : Af) (l : List Sc) : Prop := f.l.length ≤ 1024 ∧ l.length ≤ 1024 ∧ f.le 4096 ∧ ∀ s ∈ l, s.sz ≤ 4096
theorem getS_sz {l : List Sc} {n : Nat} (h : ∀ f ∈ l, f.sz ≤ n) {i : Nat} (hi : i < l.length) : (l.getD i Sc.zero).sz ≤ n := h _ (by simp [hi])
theorem le_mono {f : Af} {m n : Nat} (h : f.le m) (hmn : m ≤ n) : f.le n := ⟨Nat.le_trans h.1 hmn, fun g hg => Nat.le_trans (h.2 g hg) hmn⟩
theorem cBright1 (s : Sc) (h : s.sz ≤ 67108864) : CallsTo prog 71 [.agg s.C] (.one (.raw (.bool (!decide s.ok)))) := by
  refine CallsTo.run [] Go.Proofs.Try.func71 rfl rfl ?_; conv => simp (maxSteps := 2000000) (disch := omega) only [go_sem, Nat.reduceAdd, Nat.reduceSub, Nat.reduceMul, Int.reduceToNat, Nat.reduceEqDiff, Nat.reduceBEq, Nat.reduceBneDiff, Go.Proofs.Try.f71, List.replicate]
  refine callk (cSpanRight s h) ?_
  conv => simp (maxSteps := 2000000) (disch := omega) only [go_sem, Nat.reduceAdd, Nat.reduceSub, Nat.reduceMul, Int.reduceToNat, Nat.reduceEqDiff, Nat.reduceBEq, Nat.reduceBneDiff]
  exact ⟨_, rfl, .one (.refl _)⟩
theorem cBright (f : Af) (l : List Sc) (hs : small f l) : CallsTo prog 41 [.agg f.C, .one (.sl 8 (l.map Sc.C))] (.one (.raw (.bool (decide (Bk.ok f l))))) := by
  obtain ⟨h1, h2, h3, h4⟩ := hs
  have hr := cAffRightN f l.length (by omega) (le_mono h3 (by omega))
  have hw := cContainsSp 71 (fun s => !decide s.ok) l (by omega) (fun i hi => cBright1 _ (by have := getS_sz h4 hi; omega))
  rw [okS_any] at hw
  by_cases h5 : f.ok l.length
  · rw [decide_eq_true h5] at hr
    rw [show decide (Bk.ok f l) = decide (okS l) from decide_eq_decide.2 ⟨fun h => h.2, fun h => ⟨h5, h⟩⟩]
    refine CallsTo.run [] Go.Proofs.Try.func41 rfl rfl ?_; conv => simp (maxSteps := 2000000) (disch := omega) only [go_sem, Nat.reduceAdd, Nat.reduceSub, Nat.reduceMul, Int.reduceToNat, Nat.reduceEqDiff, Nat.reduceBEq, Nat.reduceBneDiff, Go.Proofs.Try.f41, List.replicate]
    refine callk hr ?_
    conv => simp (maxSteps := 2000000) (disch := omega) only [go_sem, Nat.reduceAdd, Nat.reduceSub, Nat.reduceMul, Int.reduceToNat, Nat.reduceEqDiff, Nat.reduceBEq, Nat.reduceBneDiff]
    refine callk hw ?_
    conv => simp (maxSteps := 2000000) (disch := omega) only [go_sem, Nat.reduceAdd, Nat.reduceSub, Nat.reduceMul, Int.reduceToNat, Nat.reduceEqDiff, Nat.reduceBEq, Nat.reduceBneDiff, Bool.not_not]
    exact ⟨_, rfl, .one (.refl _)⟩
  · rw [decide_eq_false h5] at hr
    rw [decide_eq_false (fun h => h5 h.1)]
    refine CallsTo.run [] Go.Proofs.Try.func41 rfl rfl ?_; conv => simp (maxSteps := 2000000) (disch := omega) only [go_sem, Nat.reduceAdd, Nat.reduceSub, Nat.reduceMul, Int.reduceToNat, Nat.reduceEqDiff, Nat.reduceBEq, Nat.reduceBneDiff, Go.Proofs.Try.f41, List.replicate]
    refine callk hr ?_
    conv => simp (maxSteps := 2000000) (disch := omega) only [go_sem, Nat.reduceAdd, Nat.reduceSub, Nat.reduceMul, Int.reduceToNat, Nat.reduceEqDiff, Nat.reduceBEq, Nat.reduceBneDiff]
    exact ⟨_, rfl, .one (.refl _)⟩
theorem cCopied (f : Fc) (h : f.sz ≤ 67108864) : CallsTo prog 73 [.agg f.C] (.agg (Af.copy f).C) := by
  have hz := sz_zero1
  have hA := cAddF f (Fc.of 0) h (by omega)
  refine CallsTo.run [] Go.Proofs.Try.func73 rfl rfl ?_; conv => simp (maxSteps := 2000000) (disch := omega) only [go_sem, Nat.reduceAdd, Nat.reduceSub, Nat.reduceMul, Int.reduceToNat, Nat.reduceEqDiff, Nat.reduceBEq, Nat.reduceBneDiff, Go.Proofs.Try.f73, List.replicate]
  refine callk (cIntF 0 (by decide)) ?_
  conv => simp (maxSteps := 2000000) (disch := omega) only [go_sem, Nat.reduceAdd, Nat.reduceSub, Nat.reduceMul, Int.reduceToNat, Nat.reduceEqDiff, Nat.reduceBEq, Nat.reduceBneDiff]
  refine callk hA ?_
  conv => simp (maxSteps := 2000000) (disch := omega) only [go_sem, Nat.reduceAdd, Nat.reduceSub, Nat.reduceMul, Int.reduceToNat, Nat.reduceEqDiff, Nat.reduceBEq, Nat.reduceBneDiff]
  refine indk (by kernel_rfl) ?_
  conv => simp (maxSteps := 2000000) (disch := omega) only [go_sem, Nat.reduceAdd, Nat.reduceSub, Nat.reduceMul, Int.reduceToNat, Nat.reduceEqDiff, Nat.reduceBEq, Nat.reduceBneDiff]
  exact ⟨_, rfl, .one (.refl _)⟩
theorem cCorners (f : Af) (l : List Sc) (hs : small f l) (hlen : f.l.length = l.length) :
    CallsTo prog 42 [.agg f.C, .one (.sl 8 (l.map Sc.C))] (.tup [.one (.sl 4 ((Bk.lows f l).map Fc.C)), .one (.sl 4 ((Bk.highs f l).map Fc.C))]) := by
  obtain ⟨h1, h2, h3, h4⟩ := hs
  refine CallsTo.run [] Go.Proofs.Try.func42 rfl rfl ?_; conv => simp (maxSteps := 2000000) (disch := omega) only [go_sem, Nat.reduceAdd, Nat.reduceSub, Nat.reduceMul, Int.reduceToNat, Nat.reduceEqDiff, Nat.reduceBEq, Nat.reduceBneDiff, Go.Proofs.Try.f42, List.replicate]
  refine loopo [2, 10, 11] (fun i : Nat => [(4, .one (.tok 35 (.sl 4 ((List.zipWith Bk.lo (f.l.take i) (l.take i)).map Fc.C)))), (5, .one (.tok 39 (.sl 4 ((List.zipWith Bk.hi (f.l.take i) (l.take i)).map Fc.C)))), (12, .one (.raw (.int .i64 i)))])
    (fun i => i ≤ l.length) (fun i => l.length - i) 0 (Nat.zero_le _) ?_ ?_
  · refine StLe.trans (StLe.tokI 4 35 (.sl 4 []) rfl rfl rfl) ?_
    refine StLe.trans (StLe.tokI 5 39 (.sl 4 []) rfl rfl rfl) ?_
    conv => simp (maxSteps := 2000000) (disch := omega) only [go_sem, Nat.reduceAdd, Nat.reduceSub, Nat.reduceMul, Int.reduceToNat, Nat.reduceEqDiff, Nat.reduceBEq, Nat.reduceBneDiff]
    exact StLe.weaken (by repeat' first | exact .nil | refine .cons (by first | exact .refl _ | exact .any _) ?_) rfl
  rintro i hi
  have hz1 : (List.zipWith Bk.lo (f.l.take i) (l.take i)).length = i := by simp; omega
  have hz2 : (List.zipWith Bk.hi (f.l.take i) (l.take i)).length = i := by simp; omega
  conv => simp (maxSteps := 2000000) (disch := omega) only [go_sem, Nat.reduceAdd, Nat.reduceSub, Nat.reduceMul, Int.reduceToNat, Nat.reduceEqDiff, Nat.reduceBEq, Nat.reduceBneDiff]
  refine condd (fun h => ?_) (fun h => ?_)
  · have hi1 : i < f.l.length := by omega
    have hi2 : i < l.length := by omega
    have hss := Sc.low_sz (getS_sz h4 hi2)
    have hcs := getD_sz h3.2 hi1
    have e1 := zipG_snoc (op := Bk.lo) Fc.zero Sc.zero hi1 hi2
    have e2 := zipG_snoc (op := Bk.hi) Fc.zero Sc.zero hi1 hi2
    conv => simp (maxSteps := 2000000) (disch := omega) only [go_sem, Nat.reduceAdd, Nat.reduceSub, Nat.reduceMul, Int.reduceToNat, Nat.reduceEqDiff, Nat.reduceBEq, Nat.reduceBneDiff]
    refine callk (cCopied (l.getD i Sc.zero).low (by omega)) ?_
    conv => simp (maxSteps := 2000000) (disch := omega) only [go_sem, Nat.reduceAdd, Nat.reduceSub, Nat.reduceMul, Int.reduceToNat, Nat.reduceEqDiff, Nat.reduceBEq, Nat.reduceBneDiff]
    refine callk (cCopied (l.getD i Sc.zero).high (by omega)) ?_
    conv => simp (maxSteps := 2000000) (disch := omega) only [go_sem, Nat.reduceAdd, Nat.reduceSub, Nat.reduceMul, Int.reduceToNat, Nat.reduceEqDiff, Nat.reduceBEq, Nat.reduceBneDiff]
    refine indk (by kernel_rfl) ?_
    conv => simp (maxSteps := 2000000) (disch := omega) only [go_sem, Nat.reduceAdd, Nat.reduceSub, Nat.reduceMul, Int.reduceToNat, Nat.reduceEqDiff, Nat.reduceBEq, Nat.reduceBneDiff]
    refine callk (cSignF (f.l.getD i Fc.zero) (by omega)) ?_
    conv => simp (maxSteps := 2000000) (disch := omega) only [go_sem, Nat.reduceAdd, Nat.reduceSub, Nat.reduceMul, Int.reduceToNat, Nat.reduceEqDiff, Nat.reduceBEq, Nat.reduceBneDiff]
    refine condd (fun h5 => ?_) (fun h5 => ?_)
    · rw [show Bk.lo (f.l.getD i Fc.zero) (l.getD i Sc.zero) = Af.copy (l.getD i Sc.zero).high from if_pos h5] at e1
      rw [show Bk.hi (f.l.getD i Fc.zero) (l.getD i Sc.zero) = Af.copy (l.getD i Sc.zero).low from if_pos h5] at e2
      conv => simp (maxSteps := 2000000) (disch := omega) only [go_sem, Nat.reduceAdd, Nat.reduceSub, Nat.reduceMul, Int.reduceToNat, Nat.reduceEqDiff, Nat.reduceBEq, Nat.reduceBneDiff, hz1, hz2]
      refine indk (by kernel_rfl) ?_
      conv => simp (maxSteps := 2000000) (disch := omega) only [go_sem, Nat.reduceAdd, Nat.reduceSub, Nat.reduceMul, Int.reduceToNat, Nat.reduceEqDiff, Nat.reduceBEq, Nat.reduceBneDiff]
      refine ⟨i + 1, by omega, by omega, ?_⟩
      rw [← e1, ← e2]
      exact StLe.weaken (by repeat' first | exact .nil | refine .cons (by first | exact .refl _ | exact .any _) ?_) rfl
    · rw [show Bk.lo (f.l.getD i Fc.zero) (l.getD i Sc.zero) = Af.copy (l.getD i Sc.zero).low from if_neg h5] at e1
      rw [show Bk.hi (f.l.getD i Fc.zero) (l.getD i Sc.zero) = Af.copy (l.getD i Sc.zero).high from if_neg h5] at e2
      conv => simp (maxSteps := 2000000) (disch := omega) only [go_sem, Nat.reduceAdd, Nat.reduceSub, Nat.reduceMul, Int.reduceToNat, Nat.reduceEqDiff, Nat.reduceBEq, Nat.reduceBneDiff, hz1, hz2]
      refine indk (by kernel_rfl) ?_
      conv => simp (maxSteps := 2000000) (disch := omega) only [go_sem, Nat.reduceAdd, Nat.reduceSub, Nat.reduceMul, Int.reduceToNat, Nat.reduceEqDiff, Nat.reduceBEq, Nat.reduceBneDiff]
      refine ⟨i + 1, by omega, by omega, ?_⟩
      rw [← e1, ← e2]
      exact StLe.weaken (by repeat' first | exact .nil | refine .cons (by first | exact .refl _ | exact .any _) ?_) rfl
  · have hi' : i = l.length := by omega
    rw [hi', List.take_length, ← hlen, List.take_length]
    conv => simp (maxSteps := 2000000) (disch := omega) only [go_sem, Nat.reduceAdd, Nat.reduceSub, Nat.reduceMul, Int.reduceToNat, Nat.reduceEqDiff, Nat.reduceBEq, Nat.reduceBneDiff]
    exact ⟨_, rfl, .tup (.cons (.refl _) (.cons (.refl _) .nil))⟩
theorem zip_all {P : Fc → Prop} {op : Fc → Sc → Fc} : ∀ (l : List Fc) (m : List Sc), (∀ c s, s ∈ m → P (op c s)) → ∀ f ∈ List.zipWith op l m, P f
  | [], _, _, f, hf => by simp at hf
  | _ :: _, [], _, f, hf => by simp at hf
  | c :: l, s :: m, h, f, hf => by
    simp only [List.zipWith_cons_cons] at hf
    rcases List.mem_cons.1 hf with rfl | hf
    · exact h c s (by simp)
    · exact zip_all l m (fun c s hs => h c s (by simp [hs])) f hf
theorem lo_sz {c : Fc} {s : Sc} {n : Nat} (h : s.sz ≤ n) : (Bk.lo c s).sz ≤ n + 2 := by
  have := Sc.low_sz h
  have := copy_sz s.low
  have := copy_sz s.high
  unfold Bk.lo; split <;> omega
theorem hi_sz {c : Fc} {s : Sc} {n : Nat} (h : s.sz ≤ n) : (Bk.hi c s).sz ≤ n + 2 := by
  have := Sc.low_sz h
  have := copy_sz s.low
  have := copy_sz s.high
  unfold Bk.hi; split <;> omega
theorem lows_sz {f : Af} {l : List Sc} {n : Nat} (h : ∀ s ∈ l, s.sz ≤ n) : ∀ g ∈ Bk.lows f l, g.sz ≤ n + 2 := zip_all _ _ (fun _ _ hs => lo_sz (h _ hs))
theorem highs_sz {f : Af} {l : List Sc} {n : Nat} (h : ∀ s ∈ l, s.sz ≤ n) : ∀ g ∈ Bk.highs f l, g.sz ≤ n + 2 := zip_all _ _ (fun _ _ hs => hi_sz (h _ hs))
theorem cBounds (f : Af) (l : List Sc) (hs : small f l) : CallsTo prog 12 [.agg f.C, .one (.sl 8 (l.map Sc.C))] (.tup [.agg (Bk.bounds f l).C, .one (.raw (.int .i64 (Fc.er (Bk.ok f l))))]) := by
  have hr := cBright f l hs
  by_cases h : Bk.ok f l
  · rw [decide_eq_true h] at hr
    have hc := cCorners f l hs h.1.1
    obtain ⟨h1, h2, h3, h4⟩ := hs
    have hA := cAt f (Bk.lows f l) h1 (by unfold Bk.lows; simp; omega) (le_mono h3 (by omega)) (fun g hg => by have := lows_sz h4 g hg; omega)
    have hB := cAt f (Bk.highs f l) h1 (by unfold Bk.highs; simp; omega) (le_mono h3 (by omega)) (fun g hg => by have := highs_sz h4 g hg; omega)
    rw [Fc.er_of h, show Bk.bounds f l = ⟨f.at' (Bk.lows f l), f.at' (Bk.highs f l)⟩ from if_pos h]
    refine CallsTo.run [] Go.Proofs.Try.func12 rfl rfl ?_; conv => simp (maxSteps := 2000000) (disch := omega) only [go_sem, Nat.reduceAdd, Nat.reduceSub, Nat.reduceMul, Int.reduceToNat, Nat.reduceEqDiff, Nat.reduceBEq, Nat.reduceBneDiff, Go.Proofs.Try.f12, List.replicate]
    refine callk hr ?_
    conv => simp (maxSteps := 2000000) (disch := omega) only [go_sem, Nat.reduceAdd, Nat.reduceSub, Nat.reduceMul, Int.reduceToNat, Nat.reduceEqDiff, Nat.reduceBEq, Nat.reduceBneDiff]
    refine callk hc ?_
    conv => simp (maxSteps := 2000000) (disch := omega) only [go_sem, Nat.reduceAdd, Nat.reduceSub, Nat.reduceMul, Int.reduceToNat, Nat.reduceEqDiff, Nat.reduceBEq, Nat.reduceBneDiff]
    refine callk hA ?_
    conv => simp (maxSteps := 2000000) (disch := omega) only [go_sem, Nat.reduceAdd, Nat.reduceSub, Nat.reduceMul, Int.reduceToNat, Nat.reduceEqDiff, Nat.reduceBEq, Nat.reduceBneDiff]
    refine callk hB ?_
    conv => simp (maxSteps := 2000000) (disch := omega) only [go_sem, Nat.reduceAdd, Nat.reduceSub, Nat.reduceMul, Int.reduceToNat, Nat.reduceEqDiff, Nat.reduceBEq, Nat.reduceBneDiff]
    exact ⟨_, rfl, .tup (.cons (.refl _) (.cons (.refl _) .nil))⟩
  · rw [decide_eq_false h] at hr
    rw [Fc.er_bad h, show Bk.bounds f l = Sc.zero from if_neg h]
    refine CallsTo.run [] Go.Proofs.Try.func12 rfl rfl ?_; conv => simp (maxSteps := 2000000) (disch := omega) only [go_sem, Nat.reduceAdd, Nat.reduceSub, Nat.reduceMul, Int.reduceToNat, Nat.reduceEqDiff, Nat.reduceBEq, Nat.reduceBneDiff, Go.Proofs.Try.f12, List.replicate]
    refine callk hr ?_
    conv => simp (maxSteps := 2000000) (disch := omega) only [go_sem, Nat.reduceAdd, Nat.reduceSub, Nat.reduceMul, Int.reduceToNat, Nat.reduceEqDiff, Nat.reduceBEq, Nat.reduceBneDiff]
    exact ⟨_, rfl, .tup (.cons zeroS (.cons (.refl _) .nil))⟩
theorem cLeast (f : Af) (l : List Sc) (hs : small f l) : CallsTo prog 25 [.agg f.C, .one (.sl 8 (l.map Sc.C))]
    (.tup [.one (.sl 4 ((if Bk.ok f l then Bk.lows f l else []).map Fc.C)), .agg (if Bk.ok f l then f.at' (Bk.lows f l) else Fc.zero).C, .one (.raw (.int .i64 (Fc.er (Bk.ok f l))))]) := by
  have hr := cBright f l hs
  by_cases h : Bk.ok f l
  · rw [decide_eq_true h] at hr
    have hc := cCorners f l hs h.1.1
    obtain ⟨h1, h2, h3, h4⟩ := hs
    have hA := cAt f (Bk.lows f l) h1 (by unfold Bk.lows; simp; omega) (le_mono h3 (by omega)) (fun g hg => by have := lows_sz h4 g hg; omega)
    rw [Fc.er_of h, if_pos h, if_pos h]
    refine CallsTo.run [] Go.Proofs.Try.func25 rfl rfl ?_; conv => simp (maxSteps := 2000000) (disch := omega) only [go_sem, Nat.reduceAdd, Nat.reduceSub, Nat.reduceMul, Int.reduceToNat, Nat.reduceEqDiff, Nat.reduceBEq, Nat.reduceBneDiff, Go.Proofs.Try.f25, List.replicate]
    refine callk hr ?_
    conv => simp (maxSteps := 2000000) (disch := omega) only [go_sem, Nat.reduceAdd, Nat.reduceSub, Nat.reduceMul, Int.reduceToNat, Nat.reduceEqDiff, Nat.reduceBEq, Nat.reduceBneDiff]
    refine callk hc ?_
    conv => simp (maxSteps := 2000000) (disch := omega) only [go_sem, Nat.reduceAdd, Nat.reduceSub, Nat.reduceMul, Int.reduceToNat, Nat.reduceEqDiff, Nat.reduceBEq, Nat.reduceBneDiff]
    refine callk hA ?_
    conv => simp (maxSteps := 2000000) (disch := omega) only [go_sem, Nat.reduceAdd, Nat.reduceSub, Nat.reduceMul, Int.reduceToNat, Nat.reduceEqDiff, Nat.reduceBEq, Nat.reduceBneDiff]
    refine indk (by kernel_rfl) ?_
    conv => simp (maxSteps := 2000000) (disch := omega) only [go_sem, Nat.reduceAdd, Nat.reduceSub, Nat.reduceMul, Int.reduceToNat, Nat.reduceEqDiff, Nat.reduceBEq, Nat.reduceBneDiff]
    exact ⟨_, rfl, .tup (.cons (.refl _) (.cons (.refl _) (.cons (.refl _) .nil)))⟩
  · rw [decide_eq_false h] at hr
    rw [Fc.er_bad h, if_neg h, if_neg h]
    refine CallsTo.run [] Go.Proofs.Try.func25 rfl rfl ?_; conv => simp (maxSteps := 2000000) (disch := omega) only [go_sem, Nat.reduceAdd, Nat.reduceSub, Nat.reduceMul, Int.reduceToNat, Nat.reduceEqDiff, Nat.reduceBEq, Nat.reduceBneDiff, Go.Proofs.Try.f25, List.replicate]
    refine callk hr ?_
    conv => simp (maxSteps := 2000000) (disch := omega) only [go_sem, Nat.reduceAdd, Nat.reduceSub, Nat.reduceMul, Int.reduceToNat, Nat.reduceEqDiff, Nat.reduceBEq, Nat.reduceBneDiff]
    exact ⟨_, rfl, .tup (.cons (.one (.nilSl _)) (.cons zeroLe (.cons (.refl _) .nil)))⟩
theorem width_sz {s : Sc} {n : Nat} (h : s.sz ≤ n) : (Sc.width s).sz ≤ 2 * n + 1 := by
  have ⟨h1, h2⟩ := Sc.low_sz h
  have := Fc.sz_sub s.high s.low
  unfold Sc.width
  split
  · omega
  · rw [Fc.sz_zero]; omega
theorem swing_sz {c : Fc} {s : Sc} {n : Nat} (hc : c.sz ≤ n) (h : s.sz ≤ n) : (Bk.swing c s).sz ≤ 6 * n + 2 := by
  have := width_sz h
  have := Fc.sz_mul c (Sc.width s)
  have := Fc.sz_neg (Fc.mul c (Sc.width s))
  have := Fc.sz_maxf (Fc.mul c (Sc.width s)) (Fc.neg (Fc.mul c (Sc.width s)))
  unfold Bk.swing; omega
theorem nar_cons {i : Nat} {st : Int × Fc} {c : Fc} {cs : List Fc} {s : Sc} {ss : List Sc} : Bk.nar i st (c :: cs) (s :: ss) = Bk.nar (i + 1) (if Fc.cmp (Bk.swing c s) st.2 > 0 then ((i : Int), Bk.swing c s) else st) cs ss := rfl
theorem cNarrow (f : Af) (l : List Sc) (hs : small f l) : CallsTo prog 18 [.agg f.C, .one (.sl 8 (l.map Sc.C))]
    (.tup [.one (.raw (.int .i64 (Bk.narrow f l).1)), .agg (Bk.narrow f l).2.1.C, .one (.raw (.int .i64 (Bk.narrow f l).2.2))]) := by
  have hr := cBright f l hs
  by_cases h : Bk.ok f l
  · rw [decide_eq_true h] at hr
    obtain ⟨h1, h2, h3, h4⟩ := hs
    have hlen := h.1.1
    by_cases h0 : l.length = 0
    · rw [show Bk.narrow f l = (0, Fc.zero, 4) by unfold Bk.narrow; rw [if_pos h, if_pos h0]]
      refine CallsTo.run [] Go.Proofs.Try.func18 rfl rfl ?_; conv => simp (maxSteps := 2000000) (disch := omega) only [go_sem, Nat.reduceAdd, Nat.reduceSub, Nat.reduceMul, Int.reduceToNat, Nat.reduceEqDiff, Nat.reduceBEq, Nat.reduceBneDiff, Go.Proofs.Try.f18, List.replicate]
      refine callk hr ?_
      conv => simp (maxSteps := 2000000) (disch := omega) only [go_sem, Nat.reduceAdd, Nat.reduceSub, Nat.reduceMul, Int.reduceToNat, Nat.reduceEqDiff, Nat.reduceBEq, Nat.reduceBneDiff]
      refine condd (fun _ => ?_) (fun h => absurd (by omega) h)
      conv => simp (maxSteps := 2000000) (disch := omega) only [go_sem, Nat.reduceAdd, Nat.reduceSub, Nat.reduceMul, Int.reduceToNat, Nat.reduceEqDiff, Nat.reduceBEq, Nat.reduceBneDiff]
      exact ⟨_, rfl, .tup (.cons (.refl _) (.cons zeroLe (.cons (.refl _) .nil)))⟩
    · rw [show Bk.narrow f l = ((Bk.nar 0 (0, Fc.of 0) f.l l).1, (Bk.nar 0 (0, Fc.of 0) f.l l).2, 0) by unfold Bk.narrow; rw [if_pos h, if_neg h0]]
      have hz := sz_zero1
      refine CallsTo.run [] Go.Proofs.Try.func18 rfl rfl ?_; conv => simp (maxSteps := 2000000) (disch := omega) only [go_sem, Nat.reduceAdd, Nat.reduceSub, Nat.reduceMul, Int.reduceToNat, Nat.reduceEqDiff, Nat.reduceBEq, Nat.reduceBneDiff, Go.Proofs.Try.f18, List.replicate]
      refine callk hr ?_
      conv => simp (maxSteps := 2000000) (disch := omega) only [go_sem, Nat.reduceAdd, Nat.reduceSub, Nat.reduceMul, Int.reduceToNat, Nat.reduceEqDiff, Nat.reduceBEq, Nat.reduceBneDiff]
      refine condd (fun h => absurd h (by omega)) (fun _ => ?_)
      conv => simp (maxSteps := 2000000) (disch := omega) only [go_sem, Nat.reduceAdd, Nat.reduceSub, Nat.reduceMul, Int.reduceToNat, Nat.reduceEqDiff, Nat.reduceBEq, Nat.reduceBneDiff]
      refine callk (cIntF 0 (by decide)) ?_
      conv => simp (maxSteps := 2000000) (disch := omega) only [go_sem, Nat.reduceAdd, Nat.reduceSub, Nat.reduceMul, Int.reduceToNat, Nat.reduceEqDiff, Nat.reduceBEq, Nat.reduceBneDiff]
      refine loopo [2, 4, 6, 25, 26] (fun x : Nat × Int × Fc => [(7, .one (.raw (.int .i64 x.2.1))), (8, .box x.2.2.C), (27, .one (.raw (.int .i64 x.1)))])
        (fun x => x.1 ≤ l.length ∧ x.2.2.sz ≤ 32768 ∧ Bk.nar 0 (0, Fc.of 0) f.l l = Bk.nar x.1 x.2 (f.l.drop x.1) (l.drop x.1)) (fun x => l.length - x.1) (0, 0, Fc.of 0) ⟨Nat.zero_le _, by dsimp only; omega, rfl⟩ ?_ ?_
      · conv => simp (maxSteps := 2000000) (disch := omega) only [go_sem, Nat.reduceAdd, Nat.reduceSub, Nat.reduceMul, Int.reduceToNat, Nat.reduceEqDiff, Nat.reduceBEq, Nat.reduceBneDiff]
        exact StLe.weaken (by repeat' first | exact .nil | refine .cons (by first | exact .refl _ | exact .any _) ?_) rfl
      rintro ⟨i, a, b⟩ ⟨hi, hb, he⟩
      simp only at hi hb he
      conv => simp (maxSteps := 2000000) (disch := omega) only [go_sem, Nat.reduceAdd, Nat.reduceSub, Nat.reduceMul, Int.reduceToNat, Nat.reduceEqDiff, Nat.reduceBEq, Nat.reduceBneDiff]
      refine condd (fun h5 => ?_) (fun h5 => ?_)
      · have hi1 : i < f.l.length := by omega
        have hi2 : i < l.length := by omega
        have hcs := getD_sz h3.2 hi1
        have hss := getS_sz h4 hi2
        have hw := width_sz hss
        have hm := Fc.sz_mul (f.l.getD i Fc.zero) (Sc.width (l.getD i Sc.zero))
        have hn := Fc.sz_neg (Fc.mul (f.l.getD i Fc.zero) (Sc.width (l.getD i Sc.zero)))
        have hsw := swing_sz hcs hss
        have hcmp := cCmpF (Bk.swing (f.l.getD i Fc.zero) (l.getD i Sc.zero)) b (by omega) (by omega)
        have hmax := cMaxF (Fc.mul (f.l.getD i Fc.zero) (Sc.width (l.getD i Sc.zero))) (Fc.neg (Fc.mul (f.l.getD i Fc.zero) (Sc.width (l.getD i Sc.zero)))) (by omega) (by omega)
        rw [show Fc.maxf (Fc.mul (f.l.getD i Fc.zero) (Sc.width (l.getD i Sc.zero))) (Fc.neg (Fc.mul (f.l.getD i Fc.zero) (Sc.width (l.getD i Sc.zero)))) = Bk.swing (f.l.getD i Fc.zero) (l.getD i Sc.zero) from rfl] at hmax
        rw [drop_cons Fc.zero hi1, drop_cons Sc.zero hi2] at he
        rw [nar_cons] at he
        dsimp only at he
        conv => simp (maxSteps := 2000000) (disch := omega) only [go_sem, Nat.reduceAdd, Nat.reduceSub, Nat.reduceMul, Int.reduceToNat, Nat.reduceEqDiff, Nat.reduceBEq, Nat.reduceBneDiff]
        refine callk (cWidth (l.getD i Sc.zero) (by omega)) ?_
        conv => simp (maxSteps := 2000000) (disch := omega) only [go_sem, Nat.reduceAdd, Nat.reduceSub, Nat.reduceMul, Int.reduceToNat, Nat.reduceEqDiff, Nat.reduceBEq, Nat.reduceBneDiff]
        refine callk (cMulF (f.l.getD i Fc.zero) (Sc.width (l.getD i Sc.zero)) (by omega) (by omega)) ?_
        conv => simp (maxSteps := 2000000) (disch := omega) only [go_sem, Nat.reduceAdd, Nat.reduceSub, Nat.reduceMul, Int.reduceToNat, Nat.reduceEqDiff, Nat.reduceBEq, Nat.reduceBneDiff]
        refine indk (by kernel_rfl) ?_
        conv => simp (maxSteps := 2000000) (disch := omega) only [go_sem, Nat.reduceAdd, Nat.reduceSub, Nat.reduceMul, Int.reduceToNat, Nat.reduceEqDiff, Nat.reduceBEq, Nat.reduceBneDiff]
        refine callk (cNegF (Fc.mul (f.l.getD i Fc.zero) (Sc.width (l.getD i Sc.zero))) (by omega)) ?_
        conv => simp (maxSteps := 2000000) (disch := omega) only [go_sem, Nat.reduceAdd, Nat.reduceSub, Nat.reduceMul, Int.reduceToNat, Nat.reduceEqDiff, Nat.reduceBEq, Nat.reduceBneDiff]
        refine callk hmax ?_
        conv => simp (maxSteps := 2000000) (disch := omega) only [go_sem, Nat.reduceAdd, Nat.reduceSub, Nat.reduceMul, Int.reduceToNat, Nat.reduceEqDiff, Nat.reduceBEq, Nat.reduceBneDiff]
        refine indk (by kernel_rfl) ?_
        conv => simp (maxSteps := 2000000) (disch := omega) only [go_sem, Nat.reduceAdd, Nat.reduceSub, Nat.reduceMul, Int.reduceToNat, Nat.reduceEqDiff, Nat.reduceBEq, Nat.reduceBneDiff]
        refine callk hcmp ?_
        conv => simp (maxSteps := 2000000) (disch := omega) only [go_sem, Nat.reduceAdd, Nat.reduceSub, Nat.reduceMul, Int.reduceToNat, Nat.reduceEqDiff, Nat.reduceBEq, Nat.reduceBneDiff]
        refine condd (fun h6 => ?_) (fun h6 => ?_)
        · rw [if_pos h6] at he
          conv => simp (maxSteps := 2000000) (disch := omega) only [go_sem, Nat.reduceAdd, Nat.reduceSub, Nat.reduceMul, Int.reduceToNat, Nat.reduceEqDiff, Nat.reduceBEq, Nat.reduceBneDiff]
          refine indk (by kernel_rfl) ?_
          conv => simp (maxSteps := 2000000) (disch := omega) only [go_sem, Nat.reduceAdd, Nat.reduceSub, Nat.reduceMul, Int.reduceToNat, Nat.reduceEqDiff, Nat.reduceBEq, Nat.reduceBneDiff]
          exact ⟨(i + 1, i, Bk.swing (f.l.getD i Fc.zero) (l.getD i Sc.zero)), ⟨by dsimp only; omega, by dsimp only; omega, he⟩, by dsimp only; omega, StLe.weaken (by repeat' first | exact .nil | refine .cons (by first | exact .refl _ | exact .any _) ?_) rfl⟩
        · rw [if_neg h6] at he
          conv => simp (maxSteps := 2000000) (disch := omega) only [go_sem, Nat.reduceAdd, Nat.reduceSub, Nat.reduceMul, Int.reduceToNat, Nat.reduceEqDiff, Nat.reduceBEq, Nat.reduceBneDiff]
          exact ⟨(i + 1, a, b), ⟨by dsimp only; omega, hb, he⟩, by dsimp only; omega, StLe.weaken (by repeat' first | exact .nil | refine .cons (by first | exact .refl _ | exact .any _) ?_) rfl⟩
      · have hi' : i = l.length := by omega
        rw [hi', List.drop_length] at he
        have he : Bk.nar 0 (0, Fc.of 0) f.l l = (a, b) := by rw [he]; cases List.drop l.length f.l <;> rfl
        rw [he]
        conv => simp (maxSteps := 2000000) (disch := omega) only [go_sem, Nat.reduceAdd, Nat.reduceSub, Nat.reduceMul, Int.reduceToNat, Nat.reduceEqDiff, Nat.reduceBEq, Nat.reduceBneDiff]
        refine indk (by kernel_rfl) ?_
        conv => simp (maxSteps := 2000000) (disch := omega) only [go_sem, Nat.reduceAdd, Nat.reduceSub, Nat.reduceMul, Int.reduceToNat, Nat.reduceEqDiff, Nat.reduceBEq, Nat.reduceBneDiff]
        exact ⟨_, rfl, .tup (.cons (.refl _) (.cons (.refl _) (.cons (.refl _) .nil)))⟩
  · rw [decide_eq_false h] at hr
    rw [show Bk.narrow f l = (0, Fc.zero, 1) from if_neg h]
    refine CallsTo.run [] Go.Proofs.Try.func18 rfl rfl ?_; conv => simp (maxSteps := 2000000) (disch := omega) only [go_sem, Nat.reduceAdd, Nat.reduceSub, Nat.reduceMul, Int.reduceToNat, Nat.reduceEqDiff, Nat.reduceBEq, Nat.reduceBneDiff, Go.Proofs.Try.f18, List.replicate]
    refine callk hr ?_
    conv => simp (maxSteps := 2000000) (disch := omega) only [go_sem, Nat.reduceAdd, Nat.reduceSub, Nat.reduceMul, Int.reduceToNat, Nat.reduceEqDiff, Nat.reduceBEq, Nat.reduceBneDiff]
    exact ⟨_, rfl, .tup (.cons (.refl _) (.cons zeroLe (.cons (.refl _) .nil)))⟩
end Go.Slot.T

/- Contracts of package back: Floor. -/
namespace Go.Slot.T
open Go Go.RowKit Go.Slot
open Go.Proofs.Try (prog)
set_option maxRecDepth 10000
set_option maxHeartbeats 4000000

theorem cFloor1 (m : Fc) (h : m.sz ≤ 67108864) : CallsTo prog 43 [.agg m.C] (.one (.raw (.bool (!decide (m.ok ∧ 0 ≤ Fc.sign m))))) := by
  by_cases h1 : m.ok
  · rw [show (!decide (m.ok ∧ 0 ≤ Fc.sign m)) = decide (Fc.sign m < 0) by
      by_cases h2 : Fc.sign m < 0
      · rw [decide_eq_true h2, decide_eq_false (fun h => by omega)]; rfl
      · rw [decide_eq_false h2, decide_eq_true ⟨h1, by omega⟩]; rfl]
    refine CallsTo.run [] Go.Proofs.Try.func43 rfl rfl ?_; conv => simp (maxSteps := 2000000) (disch := omega) only [go_sem, Nat.reduceAdd, Nat.reduceSub, Nat.reduceMul, Int.reduceToNat, Nat.reduceEqDiff, Nat.reduceBEq, Nat.reduceBneDiff, Go.Proofs.Try.f43, List.replicate]
    refine callk (cRightT m (by omega) h1) ?_
    conv => simp (maxSteps := 2000000) (disch := omega) only [go_sem, Nat.reduceAdd, Nat.reduceSub, Nat.reduceMul, Int.reduceToNat, Nat.reduceEqDiff, Nat.reduceBEq, Nat.reduceBneDiff]
    refine callk (cSignF m h) ?_
    conv => simp (maxSteps := 2000000) (disch := omega) only [go_sem, Nat.reduceAdd, Nat.reduceSub, Nat.reduceMul, Int.reduceToNat, Nat.reduceEqDiff, Nat.reduceBEq, Nat.reduceBneDiff]
    exact ⟨_, rfl, .one (.refl _)⟩
  · rw [decide_eq_false (fun h => h1 h.1)]
    refine CallsTo.run [] Go.Proofs.Try.func43 rfl rfl ?_; conv => simp (maxSteps := 2000000) (disch := omega) only [go_sem, Nat.reduceAdd, Nat.reduceSub, Nat.reduceMul, Int.reduceToNat, Nat.reduceEqDiff, Nat.reduceBEq, Nat.reduceBneDiff, Go.Proofs.Try.f43, List.replicate]
    refine callk (cRightBad m (by omega) h1) ?_
    conv => simp (maxSteps := 2000000) (disch := omega) only [go_sem, Nat.reduceAdd, Nat.reduceSub, Nat.reduceMul, Int.reduceToNat, Nat.reduceEqDiff, Nat.reduceBEq, Nat.reduceBneDiff]
    exact ⟨_, rfl, .one (.refl _)⟩
theorem flo_cons {s u d : Fc} {ms : List Fc} {c : Fc} {cs : List Fc} {p : Sc} {ps : List Sc} : Bk.flo s (u :: d :: ms) (c :: cs) (p :: ps) = if Fc.sub u d = c then Bk.flo (Fc.add s (Fc.sub (Fc.mul u p.low) (Fc.mul d p.high))) ms cs ps else none := rfl
theorem cFloor (f : Af) (l : List Sc) (v : Fc) (ms : List Fc) (hs : small f l) (hv : v.sz ≤ 4096) (hm : ∀ m ∈ ms, m.sz ≤ 4096) (hml : ms.length ≤ 1048576) :
    CallsTo prog 13 [.agg f.C, .one (.sl 8 (l.map Sc.C)), .agg v.C, .one (.sl 4 (ms.map Fc.C))] (.one (.raw (.bool (Bk.floor f l v ms)))) := by
  have hr := cBright f l hs
  obtain ⟨h1, h2, h3, h4⟩ := hs
  have hw := cContainsFr 43 (fun m => !decide (m.ok ∧ 0 ≤ Fc.sign m)) ms (by omega) (fun i hi => cFloor1 _ (by have := getD_sz hm hi; omega))
  rw [Bk.okM_any] at hw
  by_cases g1 : Bk.ok f l
  · rw [decide_eq_true g1] at hr
    by_cases g2 : v.ok
    · by_cases g3 : (ms.length : Int) = 2 * (l.length : Int)
      · have g3' : ¬ ((ms.length : Int) ≠ 2 * (l.length : Int)) := fun h => h g3
        by_cases g4 : Bk.okM ms
        · rw [decide_eq_true g4] at hw
          have hlen := g1.1.1
          rw [show Bk.floor f l v ms = Bk.verdict v (Bk.flo f.c ms f.l l) from if_pos ⟨g1, g2, by omega, g4⟩]
          refine CallsTo.run [] Go.Proofs.Try.func13 rfl rfl ?_; conv => simp (maxSteps := 2000000) (disch := omega) only [go_sem, Nat.reduceAdd, Nat.reduceSub, Nat.reduceMul, Int.reduceToNat, Nat.reduceEqDiff, Nat.reduceBEq, Nat.reduceBneDiff, Go.Proofs.Try.f13, List.replicate]
          refine callk hr ?_
          conv => simp (maxSteps := 2000000) (disch := omega) only [go_sem, Nat.reduceAdd, Nat.reduceSub, Nat.reduceMul, Int.reduceToNat, Nat.reduceEqDiff, Nat.reduceBEq, Nat.reduceBneDiff]
          refine callk (cRightT v (by omega) g2) ?_
          conv => simp (maxSteps := 2000000) (disch := omega) only [go_sem, Nat.reduceAdd, Nat.reduceSub, Nat.reduceMul, Int.reduceToNat, Nat.reduceEqDiff, Nat.reduceBEq, Nat.reduceBneDiff, g3']
          refine callk hw ?_
          conv => simp (maxSteps := 2000000) (disch := omega) only [go_sem, Nat.reduceAdd, Nat.reduceSub, Nat.reduceMul, Int.reduceToNat, Nat.reduceEqDiff, Nat.reduceBEq, Nat.reduceBneDiff]
          refine loopo [1, 3, 4, 6, 8, 45, 46] (fun x : Nat × Fc => [(10, .box x.2.C), (47, .one (.raw (.int .i64 x.1)))])
            (fun x => x.1 ≤ l.length ∧ x.2.sz ≤ 4096 + x.1 * 16386 ∧ Bk.flo f.c ms f.l l = Bk.flo x.2 (ms.drop (2 * x.1)) (f.l.drop x.1) (l.drop x.1)) (fun x => l.length - x.1) (0, f.c) ⟨Nat.zero_le _, by have := h3.1; dsimp only; omega, rfl⟩ ?_ ?_
          · conv => simp (maxSteps := 2000000) (disch := omega) only [go_sem, Nat.reduceAdd, Nat.reduceSub, Nat.reduceMul, Int.reduceToNat, Nat.reduceEqDiff, Nat.reduceBEq, Nat.reduceBneDiff]
            exact StLe.weaken (by repeat' first | exact .nil | refine .cons (by first | exact .refl _ | exact .any _) ?_) rfl
          rintro ⟨i, s⟩ ⟨hi, hss, he⟩
          simp only at hi hss he
          conv => simp (maxSteps := 2000000) (disch := omega) only [go_sem, Nat.reduceAdd, Nat.reduceSub, Nat.reduceMul, Int.reduceToNat, Nat.reduceEqDiff, Nat.reduceBEq, Nat.reduceBneDiff]
          refine condd (fun h => ?_) (fun h => ?_)
          · have hi1 : i < f.l.length := by omega
            have hi2 : i < l.length := by omega
            have hi3 : 2 * i < ms.length := by omega
            have hi4 : 2 * i + 1 < ms.length := by omega
            have b1 := getD_sz h3.2 hi1
            have b2 := Sc.low_sz (getS_sz h4 hi2)
            have b3 := getD_sz hm hi3
            have b4 := getD_sz hm hi4
            have e3 : (2 * (i : Int)).toNat = 2 * i := by omega
            have e4 : (2 * (i : Int) + 1).toNat = 2 * i + 1 := by omega
            rw [drop_cons Fc.zero hi3, drop_cons Fc.zero hi4, drop_cons Fc.zero hi1, drop_cons Sc.zero hi2, flo_cons] at he
            have s1 := Fc.sz_sub (ms.getD (2 * i) Fc.zero) (ms.getD (2 * i + 1) Fc.zero)
            have s2 := Fc.sz_mul (ms.getD (2 * i) Fc.zero) (l.getD i Sc.zero).low
            have s3 := Fc.sz_mul (ms.getD (2 * i + 1) Fc.zero) (l.getD i Sc.zero).high
            have s4 := Fc.sz_sub (Fc.mul (ms.getD (2 * i) Fc.zero) (l.getD i Sc.zero).low) (Fc.mul (ms.getD (2 * i + 1) Fc.zero) (l.getD i Sc.zero).high)
            have s5 := Fc.sz_add s (Fc.sub (Fc.mul (ms.getD (2 * i) Fc.zero) (l.getD i Sc.zero).low) (Fc.mul (ms.getD (2 * i + 1) Fc.zero) (l.getD i Sc.zero).high))
            have s6 : i * 16386 ≤ 1024 * 16386 := Nat.mul_le_mul_right _ (by omega)
            conv => simp (maxSteps := 2000000) (disch := omega) only [go_sem, Nat.reduceAdd, Nat.reduceSub, Nat.reduceMul, Int.reduceToNat, Nat.reduceEqDiff, Nat.reduceBEq, Nat.reduceBneDiff, e3, e4]
            refine indk (by kernel_rfl) ?_
            conv => simp (maxSteps := 2000000) (disch := omega) only [go_sem, Nat.reduceAdd, Nat.reduceSub, Nat.reduceMul, Int.reduceToNat, Nat.reduceEqDiff, Nat.reduceBEq, Nat.reduceBneDiff, e3, e4]
            refine callk (cSubF (ms.getD (2 * i) Fc.zero) (ms.getD (2 * i + 1) Fc.zero) (by omega) (by omega)) ?_
            conv => simp (maxSteps := 2000000) (disch := omega) only [go_sem, Nat.reduceAdd, Nat.reduceSub, Nat.reduceMul, Int.reduceToNat, Nat.reduceEqDiff, Nat.reduceBEq, Nat.reduceBneDiff]
            refine callk (cSameF (Fc.sub (ms.getD (2 * i) Fc.zero) (ms.getD (2 * i + 1) Fc.zero)) (f.l.getD i Fc.zero) (by omega) (by omega)) ?_
            conv => simp (maxSteps := 2000000) (disch := omega) only [go_sem, Nat.reduceAdd, Nat.reduceSub, Nat.reduceMul, Int.reduceToNat, Nat.reduceEqDiff, Nat.reduceBEq, Nat.reduceBneDiff]
            refine indk (by kernel_rfl) ?_
            conv => simp (maxSteps := 2000000) (disch := omega) only [go_sem, Nat.reduceAdd, Nat.reduceSub, Nat.reduceMul, Int.reduceToNat, Nat.reduceEqDiff, Nat.reduceBEq, Nat.reduceBneDiff]
            by_cases h6 : Fc.sub (ms.getD (2 * i) Fc.zero) (ms.getD (2 * i + 1) Fc.zero) = f.l.getD i Fc.zero
            · rw [if_pos h6] at he
              refine condk (fun h => ?_) (fun _ => ?_)
              · rw [decide_eq_true h6] at h; cases h
              conv => simp (maxSteps := 2000000) (disch := omega) only [go_sem, Nat.reduceAdd, Nat.reduceSub, Nat.reduceMul, Int.reduceToNat, Nat.reduceEqDiff, Nat.reduceBEq, Nat.reduceBneDiff]
              refine callk (cMulF (ms.getD (2 * i) Fc.zero) (l.getD i Sc.zero).low (by omega) (by omega)) ?_
              conv => simp (maxSteps := 2000000) (disch := omega) only [go_sem, Nat.reduceAdd, Nat.reduceSub, Nat.reduceMul, Int.reduceToNat, Nat.reduceEqDiff, Nat.reduceBEq, Nat.reduceBneDiff]
              refine callk (cMulF (ms.getD (2 * i + 1) Fc.zero) (l.getD i Sc.zero).high (by omega) (by omega)) ?_
              conv => simp (maxSteps := 2000000) (disch := omega) only [go_sem, Nat.reduceAdd, Nat.reduceSub, Nat.reduceMul, Int.reduceToNat, Nat.reduceEqDiff, Nat.reduceBEq, Nat.reduceBneDiff]
              refine callk (cSubF (Fc.mul (ms.getD (2 * i) Fc.zero) (l.getD i Sc.zero).low) (Fc.mul (ms.getD (2 * i + 1) Fc.zero) (l.getD i Sc.zero).high) (by omega) (by omega)) ?_
              conv => simp (maxSteps := 2000000) (disch := omega) only [go_sem, Nat.reduceAdd, Nat.reduceSub, Nat.reduceMul, Int.reduceToNat, Nat.reduceEqDiff, Nat.reduceBEq, Nat.reduceBneDiff]
              refine callk (cAddF s (Fc.sub (Fc.mul (ms.getD (2 * i) Fc.zero) (l.getD i Sc.zero).low) (Fc.mul (ms.getD (2 * i + 1) Fc.zero) (l.getD i Sc.zero).high)) (by omega) (by omega)) ?_
              conv => simp (maxSteps := 2000000) (disch := omega) only [go_sem, Nat.reduceAdd, Nat.reduceSub, Nat.reduceMul, Int.reduceToNat, Nat.reduceEqDiff, Nat.reduceBEq, Nat.reduceBneDiff]
              exact ⟨(i + 1, Fc.add s (Fc.sub (Fc.mul (ms.getD (2 * i) Fc.zero) (l.getD i Sc.zero).low) (Fc.mul (ms.getD (2 * i + 1) Fc.zero) (l.getD i Sc.zero).high))), ⟨by dsimp only; omega, by dsimp only; omega, he⟩, by dsimp only; omega, StLe.weaken (by repeat' first | exact .nil | refine .cons (by first | exact .refl _ | exact .any _) ?_) rfl⟩
            · rw [if_neg h6] at he
              refine condk (fun _ => ?_) (fun h => ?_)
              · conv => simp (maxSteps := 2000000) (disch := omega) only [go_sem, Nat.reduceAdd, Nat.reduceSub, Nat.reduceMul, Int.reduceToNat, Nat.reduceEqDiff, Nat.reduceBEq, Nat.reduceBneDiff]
                exact ⟨_, rfl, by rw [he]; exact .one (.refl _)⟩
              · rw [decide_eq_false h6] at h; cases h
          · have hi' : i = l.length := by omega
            have hi6 : i * 16386 ≤ 1024 * 16386 := Nat.mul_le_mul_right _ (by omega)
            rw [hi', List.drop_length] at he
            have he : Bk.flo f.c ms f.l l = some s := by
              rw [he, List.drop_eq_nil_of_le (by omega)]
              rfl
            rw [he]
            conv => simp (maxSteps := 2000000) (disch := omega) only [go_sem, Nat.reduceAdd, Nat.reduceSub, Nat.reduceMul, Int.reduceToNat, Nat.reduceEqDiff, Nat.reduceBEq, Nat.reduceBneDiff]
            refine callk (cCmpF s v (by omega) (by omega)) ?_
            conv => simp (maxSteps := 2000000) (disch := omega) only [go_sem, Nat.reduceAdd, Nat.reduceSub, Nat.reduceMul, Int.reduceToNat, Nat.reduceEqDiff, Nat.reduceBEq, Nat.reduceBneDiff]
            exact ⟨_, rfl, .one (.refl _)⟩
        · rw [decide_eq_false g4] at hw
          rw [show Bk.floor f l v ms = false from if_neg (fun h => g4 h.2.2.2)]
          refine CallsTo.run [] Go.Proofs.Try.func13 rfl rfl ?_; conv => simp (maxSteps := 2000000) (disch := omega) only [go_sem, Nat.reduceAdd, Nat.reduceSub, Nat.reduceMul, Int.reduceToNat, Nat.reduceEqDiff, Nat.reduceBEq, Nat.reduceBneDiff, Go.Proofs.Try.f13, List.replicate]
          refine callk hr ?_
          conv => simp (maxSteps := 2000000) (disch := omega) only [go_sem, Nat.reduceAdd, Nat.reduceSub, Nat.reduceMul, Int.reduceToNat, Nat.reduceEqDiff, Nat.reduceBEq, Nat.reduceBneDiff]
          refine callk (cRightT v (by omega) g2) ?_
          conv => simp (maxSteps := 2000000) (disch := omega) only [go_sem, Nat.reduceAdd, Nat.reduceSub, Nat.reduceMul, Int.reduceToNat, Nat.reduceEqDiff, Nat.reduceBEq, Nat.reduceBneDiff, g3']
          refine callk hw ?_
          conv => simp (maxSteps := 2000000) (disch := omega) only [go_sem, Nat.reduceAdd, Nat.reduceSub, Nat.reduceMul, Int.reduceToNat, Nat.reduceEqDiff, Nat.reduceBEq, Nat.reduceBneDiff]
          exact ⟨_, rfl, .one (.refl _)⟩
      · have g3d := decide_eq_true (show (ms.length : Int) ≠ 2 * (l.length : Int) from g3)
        rw [show Bk.floor f l v ms = false from if_neg (fun h => g3 (by have := h.2.2.1; omega))]
        refine CallsTo.run [] Go.Proofs.Try.func13 rfl rfl ?_; conv => simp (maxSteps := 2000000) (disch := omega) only [go_sem, Nat.reduceAdd, Nat.reduceSub, Nat.reduceMul, Int.reduceToNat, Nat.reduceEqDiff, Nat.reduceBEq, Nat.reduceBneDiff, Go.Proofs.Try.f13, List.replicate]
        refine callk hr ?_
        conv => simp (maxSteps := 2000000) (disch := omega) only [go_sem, Nat.reduceAdd, Nat.reduceSub, Nat.reduceMul, Int.reduceToNat, Nat.reduceEqDiff, Nat.reduceBEq, Nat.reduceBneDiff]
        refine callk (cRightT v (by omega) g2) ?_
        conv => simp (maxSteps := 2000000) (disch := omega) only [go_sem, Nat.reduceAdd, Nat.reduceSub, Nat.reduceMul, Int.reduceToNat, Nat.reduceEqDiff, Nat.reduceBEq, Nat.reduceBneDiff, g3d]
        exact ⟨_, rfl, .one (.refl _)⟩
    · rw [show Bk.floor f l v ms = false from if_neg (fun h => g2 h.2.1)]
      refine CallsTo.run [] Go.Proofs.Try.func13 rfl rfl ?_; conv => simp (maxSteps := 2000000) (disch := omega) only [go_sem, Nat.reduceAdd, Nat.reduceSub, Nat.reduceMul, Int.reduceToNat, Nat.reduceEqDiff, Nat.reduceBEq, Nat.reduceBneDiff, Go.Proofs.Try.f13, List.replicate]
      refine callk hr ?_
      conv => simp (maxSteps := 2000000) (disch := omega) only [go_sem, Nat.reduceAdd, Nat.reduceSub, Nat.reduceMul, Int.reduceToNat, Nat.reduceEqDiff, Nat.reduceBEq, Nat.reduceBneDiff]
      refine callk (cRightBad v (by omega) g2) ?_
      conv => simp (maxSteps := 2000000) (disch := omega) only [go_sem, Nat.reduceAdd, Nat.reduceSub, Nat.reduceMul, Int.reduceToNat, Nat.reduceEqDiff, Nat.reduceBEq, Nat.reduceBneDiff]
      exact ⟨_, rfl, .one (.refl _)⟩
  · rw [decide_eq_false g1] at hr
    rw [show Bk.floor f l v ms = false from if_neg (fun h => g1 h.1)]
    refine CallsTo.run [] Go.Proofs.Try.func13 rfl rfl ?_; conv => simp (maxSteps := 2000000) (disch := omega) only [go_sem, Nat.reduceAdd, Nat.reduceSub, Nat.reduceMul, Int.reduceToNat, Nat.reduceEqDiff, Nat.reduceBEq, Nat.reduceBneDiff, Go.Proofs.Try.f13, List.replicate]
    refine callk hr ?_
    conv => simp (maxSteps := 2000000) (disch := omega) only [go_sem, Nat.reduceAdd, Nat.reduceSub, Nat.reduceMul, Int.reduceToNat, Nat.reduceEqDiff, Nat.reduceBEq, Nat.reduceBneDiff]
    exact ⟨_, rfl, .one (.refl _)⟩
end Go.Slot.T

/- Contracts of package kitbagref04: digit, trim, made, Right, Neg. -/
namespace Go.Slot.T
open Go Go.RowKit Go.Slot
open Go.Proofs.Try (prog)
set_option maxRecDepth 10000
set_option maxHeartbeats 4000000

theorem rDigit (L : List Int) (i : Nat) (_hL : L.length ≤ 1099511627776) (hi : (i : Int) ≤ 1099511627776) :
    CallsTo prog 108 [.one (.ints .i64 L), .one (.raw (.int .i64 i))] (.one (.raw (.int .i64 (L.getD i 0)))) := by
  refine CallsTo.run [] Go.Proofs.Try.func108 rfl rfl ?_; conv => simp (maxSteps := 2000000) (disch := omega) only [go_sem, Nat.reduceAdd, Nat.reduceSub, Nat.reduceMul, Int.reduceToNat, Nat.reduceEqDiff, Nat.reduceBEq, Nat.reduceBneDiff, Go.Proofs.Try.f108, List.replicate]
  refine condd (fun h => ?_) (fun h => ?_)
  · conv => simp (maxSteps := 2000000) (disch := omega) only [go_sem, Nat.reduceAdd, Nat.reduceSub, Nat.reduceMul, Int.reduceToNat, Nat.reduceEqDiff, Nat.reduceBEq, Nat.reduceBneDiff]
    exact ⟨_, rfl, .one (.refl _)⟩
  · conv => simp (maxSteps := 2000000) (disch := omega) only [go_sem, Nat.reduceAdd, Nat.reduceSub, Nat.reduceMul, Int.reduceToNat, Nat.reduceEqDiff, Nat.reduceBEq, Nat.reduceBneDiff]
    exact ⟨_, rfl, by rw [getD_ge (by omega)]; exact .one (.refl _)⟩

theorem rTrim (L : List Int) (hL : L.length ≤ 1099511627776) : CallsTo prog 105 [.one (.ints .i64 L)] (.one (.ints .i64 (trimL L))) := by
  refine CallsTo.run [] Go.Proofs.Try.func105 rfl rfl ?_; conv => simp (maxSteps := 2000000) (disch := omega) only [go_sem, Nat.reduceAdd, Nat.reduceSub, Nat.reduceMul, Int.reduceToNat, Nat.reduceEqDiff, Nat.reduceBEq, Nat.reduceBneDiff, Go.Proofs.Try.f105, List.replicate]
  refine loopo [0, 2] (fun n : Nat => [(3, .one (.raw (.int .i64 n)))])
    (fun n => n ≤ L.length ∧ trimN L L.length = trimN L n) (fun n => n) L.length ⟨Nat.le_refl _, rfl⟩ ?_ ?_
  · conv => simp (maxSteps := 2000000) (disch := omega) only [go_sem, Nat.reduceAdd, Nat.reduceSub, Nat.reduceMul, Int.reduceToNat, Nat.reduceEqDiff, Nat.reduceBEq, Nat.reduceBneDiff]
    exact StLe.weaken (by repeat' first | exact .nil | refine .cons (by first | exact .refl _ | exact .any _) ?_) rfl
  rintro n ⟨hn, ht⟩
  conv => simp (maxSteps := 2000000) (disch := omega) only [go_sem, Nat.reduceAdd, Nat.reduceSub, Nat.reduceMul, Int.reduceToNat, Nat.reduceEqDiff, Nat.reduceBEq, Nat.reduceBneDiff]
  have fin : trimN L L.length = n → trimL L = L.take n := fun h => by unfold trimL; rw [h]
  refine guardd (fun h => ?_) (fun h => ?_)
  · obtain ⟨m, rfl⟩ : ∃ m, n = m + 1 := ⟨n - 1, by omega⟩
    have e : ((m + 1 : Nat) : Int) - 1 = (m : Nat) := by omega
    have h' := decide_eq_true h
    conv => simp (maxSteps := 2000000) (disch := omega) only [go_sem, Nat.reduceAdd, Nat.reduceSub, Nat.reduceMul, Int.reduceToNat, Nat.reduceEqDiff, Nat.reduceBEq, Nat.reduceBneDiff, h', e]
    refine condd (fun h2 => ?_) (fun h2 => ?_)
    · conv => simp (maxSteps := 2000000) (disch := omega) only [go_sem, Nat.reduceAdd, Nat.reduceSub, Nat.reduceMul, Int.reduceToNat, Nat.reduceEqDiff, Nat.reduceBEq, Nat.reduceBneDiff, e]
      exact ⟨m, ⟨by omega, by rw [ht]; simp only [trimN]; rw [if_pos h2]⟩, by omega, StLe.weaken (by repeat' first | exact .nil | refine .cons (by first | exact .refl _ | exact .any _) ?_) rfl⟩
    · have hfin : trimN L L.length = m + 1 := by rw [ht]; simp only [trimN]; rw [if_neg h2]
      rw [fin hfin]
      conv => simp (maxSteps := 2000000) (disch := omega) only [go_sem, Nat.reduceAdd, Nat.reduceSub, Nat.reduceMul, Int.reduceToNat, Nat.reduceEqDiff, Nat.reduceBEq, Nat.reduceBneDiff, e, Nat.sub_zero, List.length_take]
      exact ⟨_, rfl, .own⟩
  · have h0 : n = 0 := by omega
    subst h0
    rw [fin (by rw [ht]; rfl)]
    conv => simp (maxSteps := 2000000) (disch := omega) only [go_sem, Nat.reduceAdd, Nat.reduceSub, Nat.reduceMul, Int.reduceToNat, Nat.reduceEqDiff, Nat.reduceBEq, Nat.reduceBneDiff, h, Nat.sub_zero, List.length_take]
    exact ⟨_, rfl, .one (.refl _)⟩
theorem rMade (s : Int) (L : List Int) (hL : L.length ≤ 1099511627776) :
    CallsTo prog 101 [.one (.raw (.int .i64 s)), .one (.ints .i64 L)] (.agg (bigC (if trimL L = [] then 0 else s) (trimL L))) := by
  refine CallsTo.run [] Go.Proofs.Try.func101 rfl rfl ?_; conv => simp (maxSteps := 2000000) (disch := omega) only [go_sem, Nat.reduceAdd, Nat.reduceSub, Nat.reduceMul, Int.reduceToNat, Nat.reduceEqDiff, Nat.reduceBEq, Nat.reduceBneDiff, Go.Proofs.Try.f101, List.replicate]
  refine callk (rTrim L hL) ?_
  conv => simp (maxSteps := 2000000) (disch := omega) only [go_sem, Nat.reduceAdd, Nat.reduceSub, Nat.reduceMul, Int.reduceToNat, Nat.reduceEqDiff, Nat.reduceBEq, Nat.reduceBneDiff]
  refine condd (fun h => ?_) (fun h => ?_)
  · have h0 : trimL L = [] := by have : (trimL L).length = 0 := by omega
                                 simpa using this
    conv => simp (maxSteps := 2000000) (disch := omega) only [go_sem, Nat.reduceAdd, Nat.reduceSub, Nat.reduceMul, Int.reduceToNat, Nat.reduceEqDiff, Nat.reduceBEq, Nat.reduceBneDiff]
    refine ⟨_, rfl, ?_⟩
    rw [h0]
    exact .one (.agg (.cons (.refl _) (.cons (.zcInts _) .nil)))
  · have h0 : trimL L ≠ [] := fun e => h (by rw [e]; rfl)
    conv => simp (maxSteps := 2000000) (disch := omega) only [go_sem, Nat.reduceAdd, Nat.reduceSub, Nat.reduceMul, Int.reduceToNat, Nat.reduceEqDiff, Nat.reduceBEq, Nat.reduceBneDiff]
    refine ⟨_, rfl, ?_⟩
    try rw [if_neg h0]
    exact .one (.refl _)
theorem rMadeZ (s z : Int) (hz : (dig z.natAbs).length ≤ 1073741824) (h : (s = 1 ∧ 0 ≤ z) ∨ (s = -1 ∧ z ≤ 0) ∨ z = 0) :
    CallsTo prog 101 [.one (.raw (.int .i64 s)), .one (.ints .i64 (dig z.natAbs))] (.agg [.raw (.int .i64 (sg z)), .ints .i64 (dig z.natAbs)]) := by
  have h' := rMade s (dig z.natAbs) (by omega)
  unfold bigC at h'
  rw [zC_of h] at h'
  exact h'
end Go.Slot.T

/- Contracts of package kitbagref04: less, plus, minus. -/
namespace Go.Slot.T
open Go Go.RowKit Go.Slot
open Go.Proofs.Try (prog)
set_option maxRecDepth 10000
set_option maxHeartbeats 4000000

theorem num_split' (l : List Int) (i : Nat) : num l = num (l.take i) + 1048576 ^ i * num (l.drop i) := by
  rcases Nat.lt_or_ge l.length i with h | h
  · rw [List.drop_eq_nil_of_le (by omega), take_ge (by omega)]; simp [num]
  · have := num_split l i
    rwa [List.length_take, Nat.min_eq_left h] at this
theorem num_take_lt {l : List Int} (h : digits l) (i : Nat) : num (l.take i) < 1048576 ^ i :=
  Int.lt_of_lt_of_le (num_lt (h.take i)) (pow_mono' (by simp; omega))
theorem num_top' {a b : List Int} (ha : digits a) (hb : digits b) (i : Nat) (h : num (a.drop (i + 1)) = num (b.drop (i + 1))) (hlt : a.getD i 0 < b.getD i 0) : num a < num b := by
  rw [num_split' a i, num_split' b i, num_drop a, num_drop b, h]
  have h1 := num_take_lt ha i
  have h2 := num_nonneg (hb.take i)
  have hp := pow_pos' i
  generalize (1048576 : Int) ^ i = P at *
  generalize num (b.drop (i + 1)) = T
  have h3 : P * (a.getD i 0 + 1) ≤ P * b.getD i 0 := Int.mul_le_mul_of_nonneg_left (by omega) (by omega)
  rw [Int.mul_add, Int.mul_add]
  rw [Int.mul_add] at h3
  omega

theorem rLess (a b : List Int) (ha : digits a) (hb : digits b) (la : a.length ≤ 1099511627776) (lb : b.length ≤ 1099511627776) :
    CallsTo prog 106 [.one (.ints .i64 a), .one (.ints .i64 b)] (.one (.raw (.bool (decide (num a < num b))))) := by
  refine CallsTo.run [] Go.Proofs.Try.func106 rfl rfl ?_; conv => simp (maxSteps := 2000000) (disch := omega) only [go_sem, Nat.reduceAdd, Nat.reduceSub, Nat.reduceMul, Int.reduceToNat, Nat.reduceEqDiff, Nat.reduceBEq, Nat.reduceBneDiff, Go.Proofs.Try.f106, List.replicate]
  refine loopo [0, 1, 4] (fun n : Nat => [(5, .one (.raw (.int .i64 ((n : Int) - 1))))])
    (fun n => n ≤ max a.length b.length ∧ num (a.drop n) = num (b.drop n)) (fun n => n) (max a.length b.length)
    ⟨Nat.le_refl _, by rw [List.drop_eq_nil_of_le (by omega), List.drop_eq_nil_of_le (by omega)]⟩ ?_ ?_
  · conv => simp (maxSteps := 2000000) (disch := omega) only [go_sem, Nat.reduceAdd, Nat.reduceSub, Nat.reduceMul, Int.reduceToNat, Nat.reduceEqDiff, Nat.reduceBEq, Nat.reduceBneDiff]
    rw [show (max (a.length : Int) b.length) = ((max a.length b.length : Nat) : Int) by omega]
    exact StLe.weaken (by repeat' first | exact .nil | refine .cons (by first | exact .refl _ | exact .any _) ?_) rfl
  rintro n ⟨hn, he⟩
  conv => simp (maxSteps := 2000000) (disch := omega) only [go_sem, Nat.reduceAdd, Nat.reduceSub, Nat.reduceMul, Int.reduceToNat, Nat.reduceEqDiff, Nat.reduceBEq, Nat.reduceBneDiff]
  refine condd (fun h => ?_) (fun h => ?_)
  · obtain ⟨i, rfl⟩ : ∃ i, n = i + 1 := ⟨n - 1, by omega⟩
    have ei : ((i + 1 : Nat) : Int) - 1 = (i : Nat) := by omega
    conv => simp (maxSteps := 2000000) (disch := omega) only [go_sem, Nat.reduceAdd, Nat.reduceSub, Nat.reduceMul, Int.reduceToNat, Nat.reduceEqDiff, Nat.reduceBEq, Nat.reduceBneDiff, ei]
    refine callk (rDigit a i la (by omega)) ?_
    conv => simp (maxSteps := 2000000) (disch := omega) only [go_sem, Nat.reduceAdd, Nat.reduceSub, Nat.reduceMul, Int.reduceToNat, Nat.reduceEqDiff, Nat.reduceBEq, Nat.reduceBneDiff, ei]
    refine callk (rDigit b i lb (by omega)) ?_
    conv => simp (maxSteps := 2000000) (disch := omega) only [go_sem, Nat.reduceAdd, Nat.reduceSub, Nat.reduceMul, Int.reduceToNat, Nat.reduceEqDiff, Nat.reduceBEq, Nat.reduceBneDiff, ei]
    refine condd (fun h2 => ?_) (fun h2 => ?_)
    · have h2 : a.getD i 0 ≠ b.getD i 0 := h2
      conv => simp (maxSteps := 2000000) (disch := omega) only [go_sem, Nat.reduceAdd, Nat.reduceSub, Nat.reduceMul, Int.reduceToNat, Nat.reduceEqDiff, Nat.reduceBEq, Nat.reduceBneDiff, ei]
      refine callk (rDigit a i la (by omega)) ?_
      conv => simp (maxSteps := 2000000) (disch := omega) only [go_sem, Nat.reduceAdd, Nat.reduceSub, Nat.reduceMul, Int.reduceToNat, Nat.reduceEqDiff, Nat.reduceBEq, Nat.reduceBneDiff, ei]
      refine callk (rDigit b i lb (by omega)) ?_
      conv => simp (maxSteps := 2000000) (disch := omega) only [go_sem, Nat.reduceAdd, Nat.reduceSub, Nat.reduceMul, Int.reduceToNat, Nat.reduceEqDiff, Nat.reduceBEq, Nat.reduceBneDiff, ei]
      refine ⟨_, rfl, ?_⟩
      have : decide (a.getD i 0 < b.getD i 0) = decide (num a < num b) := by
        apply decide_eq_decide.2
        rcases Int.lt_or_gt_of_ne h2 with h3 | h3
        · have := num_top' ha hb i he h3
          exact ⟨fun _ => this, fun _ => h3⟩
        · have := num_top' hb ha i he.symm h3
          exact ⟨fun _ => by omega, fun _ => by omega⟩
      rw [this]
      exact .one (.refl _)
    · have h2 : a.getD i 0 = b.getD i 0 := by omega
      conv => simp (maxSteps := 2000000) (disch := omega) only [go_sem, Nat.reduceAdd, Nat.reduceSub, Nat.reduceMul, Int.reduceToNat, Nat.reduceEqDiff, Nat.reduceBEq, Nat.reduceBneDiff, ei]
      exact ⟨i, ⟨by omega, by rw [num_drop a, num_drop b, he, h2]⟩, by omega, StLe.weaken (by repeat' first | exact .nil | refine .cons (by first | exact .refl _ | exact .any _) ?_) rfl⟩
  · have h0 : n = 0 := by omega
    subst h0
    have he : num a = num b := by simpa using he
    conv => simp (maxSteps := 2000000) (disch := omega) only [go_sem, Nat.reduceAdd, Nat.reduceSub, Nat.reduceMul, Int.reduceToNat, Nat.reduceEqDiff, Nat.reduceBEq, Nat.reduceBneDiff]
    exact ⟨_, rfl, by rw [decide_eq_false (by omega)]; exact .one (.refl _)⟩

theorem num_snoc (l : List Int) (x : Int) : num (l ++ [x]) = num l + 1048576 ^ l.length * x := by rw [num_append]; simp [num]
theorem rPlus (a b : List Int) (ha : digits a) (hb : digits b) (la : a.length ≤ 1073741824) (lb : b.length ≤ 1073741824) :
    CallsTo prog 103 [.one (.ints .i64 a), .one (.ints .i64 b)] (.one (.ints .i64 (dig (num a + num b).toNat))) := by
  refine CallsTo.run [(6, [.join])] Go.Proofs.Try.func103 rfl rfl ?_; conv => simp (maxSteps := 2000000) (disch := omega) only [go_sem, Nat.reduceAdd, Nat.reduceSub, Nat.reduceMul, Int.reduceToNat, Nat.reduceEqDiff, Nat.reduceBEq, Nat.reduceBneDiff, Go.Proofs.Try.f103, List.replicate]
  refine loopo [0, 1, 4] (fun x : Nat × List Int × Int => [(5, .one (.tok 38 (.ints .i64 x.2.1))), (6, .one (.raw (.int .i64 x.2.2))), (7, .one (.raw (.int .i64 x.1)))])
    (fun x => x.1 ≤ max a.length b.length + 1 ∧ x.2.1.length = x.1 ∧ digits x.2.1 ∧ (0 ≤ x.2.2 ∧ x.2.2 ≤ 1) ∧ (max a.length b.length < x.1 → x.2.2 = 0) ∧ num x.2.1 + 1048576 ^ x.1 * x.2.2 = num (a.take x.1) + num (b.take x.1))
    (fun x => max a.length b.length + 1 - x.1) (0, [], 0)
    ⟨Nat.zero_le _, rfl, digits.nil, by simp, by simp, by simp [num]⟩ ?_ ?_
  · refine StLe.trans (StLe.tokI 5 38 (.ints .i64 []) rfl rfl rfl) ?_
    conv => simp (maxSteps := 2000000) (disch := omega) only [go_sem, Nat.reduceAdd, Nat.reduceSub, Nat.reduceMul, Int.reduceToNat, Nat.reduceEqDiff, Nat.reduceBEq, Nat.reduceBneDiff]
    exact StLe.weaken (by repeat' first | exact .nil | refine .cons (by first | exact .refl _ | exact .any _) ?_) rfl
  rintro ⟨k, l, c⟩ ⟨hk, hl, hd, hc, hc0, hn⟩
  simp only at hk hl hd hc hc0 hn
  conv => simp (maxSteps := 2000000) (disch := omega) only [go_sem, Nat.reduceAdd, Nat.reduceSub, Nat.reduceMul, Int.reduceToNat, Nat.reduceEqDiff, Nat.reduceBEq, Nat.reduceBneDiff]
  refine joino [0, 1, 4, 5, 6, 7] (fun _ : Unit => []) (fun _ => k < a.length ∨ k < b.length ∨ 0 < c) ?_ ?_
  · conv => simp (maxSteps := 2000000) (disch := omega) only [go_sem, Nat.reduceAdd, Nat.reduceSub, Nat.reduceMul, Int.reduceToNat, Nat.reduceEqDiff, Nat.reduceBEq, Nat.reduceBneDiff]
    refine guardn (fun h1 => ?_) (fun h1 => ?_)
    · conv => simp (maxSteps := 2000000) (disch := omega) only [go_sem, Nat.reduceAdd, Nat.reduceSub, Nat.reduceMul, Int.reduceToNat, Nat.reduceEqDiff, Nat.reduceBEq, Nat.reduceBneDiff, h1]
      refine guardn (fun h2 => ?_) (fun h2 => ?_)
      · conv => simp (maxSteps := 2000000) (disch := omega) only [go_sem, Nat.reduceAdd, Nat.reduceSub, Nat.reduceMul, Int.reduceToNat, Nat.reduceEqDiff, Nat.reduceBEq, Nat.reduceBneDiff, h2]
        refine condd (fun h3 => ?_) (fun h3 => ?_)
        · conv => simp (maxSteps := 2000000) (disch := omega) only [go_sem, Nat.reduceAdd, Nat.reduceSub, Nat.reduceMul, Int.reduceToNat, Nat.reduceEqDiff, Nat.reduceBEq, Nat.reduceBneDiff]
          exact ⟨(), .inr (.inr h3), StLe.weaken (by repeat' first | exact .nil | refine .cons (by first | exact .refl _ | exact .any _) ?_) rfl⟩
        · have hc1 : c = 0 := by omega
          rw [take_ge (by omega), take_ge (by omega), hc1, Int.mul_zero, Int.add_zero] at hn
          conv => simp (maxSteps := 2000000) (disch := omega) only [go_sem, Nat.reduceAdd, Nat.reduceSub, Nat.reduceMul, Int.reduceToNat, Nat.reduceEqDiff, Nat.reduceBEq, Nat.reduceBneDiff]
          refine callk (rTrim l (by omega)) ?_
          conv => simp (maxSteps := 2000000) (disch := omega) only [go_sem, Nat.reduceAdd, Nat.reduceSub, Nat.reduceMul, Int.reduceToNat, Nat.reduceEqDiff, Nat.reduceBEq, Nat.reduceBneDiff]
          exact ⟨_, rfl, by rw [trimL_eq' hd hn]; exact .one (.refl _)⟩
      · have h2' := decide_eq_true h2
        conv => simp (maxSteps := 2000000) (disch := omega) only [go_sem, Nat.reduceAdd, Nat.reduceSub, Nat.reduceMul, Int.reduceToNat, Nat.reduceEqDiff, Nat.reduceBEq, Nat.reduceBneDiff, h2']
        exact ⟨(), .inr (.inl (by omega)), StLe.weaken (by repeat' first | exact .nil | refine .cons (by first | exact .refl _ | exact .any _) ?_) rfl⟩
    · have h1' := decide_eq_true h1
      conv => simp (maxSteps := 2000000) (disch := omega) only [go_sem, Nat.reduceAdd, Nat.reduceSub, Nat.reduceMul, Int.reduceToNat, Nat.reduceEqDiff, Nat.reduceBEq, Nat.reduceBneDiff, h1']
      exact ⟨(), .inl (by omega), StLe.weaken (by repeat' first | exact .nil | refine .cons (by first | exact .refl _ | exact .any _) ?_) rfl⟩
  rintro _ hgo
  have hak := ha.getD k
  have hbk := hb.getD k
  have hkm : k ≤ max a.length b.length := by
    rcases Nat.lt_or_ge (max a.length b.length) k with h | h
    · have := hc0 h; omega
    · exact h
  conv => simp (maxSteps := 2000000) (disch := omega) only [go_sem, Nat.reduceAdd, Nat.reduceSub, Nat.reduceMul, Int.reduceToNat, Nat.reduceEqDiff, Nat.reduceBEq, Nat.reduceBneDiff]
  refine callk (rDigit a k (by omega) (by omega)) ?_
  conv => simp (maxSteps := 2000000) (disch := omega) only [go_sem, Nat.reduceAdd, Nat.reduceSub, Nat.reduceMul, Int.reduceToNat, Nat.reduceEqDiff, Nat.reduceBEq, Nat.reduceBneDiff]
  refine callk (rDigit b k (by omega) (by omega)) ?_
  conv => simp (maxSteps := 2000000) (disch := omega) only [go_sem, Nat.reduceAdd, Nat.reduceSub, Nat.reduceMul, Int.reduceToNat, Nat.reduceEqDiff, Nat.reduceBEq, Nat.reduceBneDiff]
  generalize hs : a.getD k 0 + b.getD k 0 + c = s at *
  have hm : s.tmod 1048576 = s % 1048576 := Int.tmod_eq_emod_of_nonneg (by omega)
  have hq : s.tdiv 1048576 = s / 1048576 := Int.tdiv_eq_ediv_of_nonneg (by omega)
  conv => simp (maxSteps := 2000000) (disch := omega) only [go_sem, Nat.reduceAdd, Nat.reduceSub, Nat.reduceMul, Int.reduceToNat, Nat.reduceEqDiff, Nat.reduceBEq, Nat.reduceBneDiff, hm, hq]
  refine ⟨(k + 1, l ++ [s % 1048576], s / 1048576), ⟨by dsimp only; omega, by simp [hl], hd.append (digits.cons (by omega) digits.nil), by dsimp only; omega, fun h => ?_, ?_⟩, by dsimp only; omega, StLe.weaken (by repeat' first | exact .nil | refine .cons (by first | exact .refl _ | exact .any _) ?_) rfl⟩
  · dsimp only at h ⊢
    have e1 := getD_ge (l := a) (i := k) (by omega)
    have e2 := getD_ge (l := b) (i := k) (by omega)
    omega
  · dsimp only
    rw [num_snoc, hl, num_take_succ, num_take_succ, Int.pow_succ]
    have h := Int.emod_add_mul_ediv s 1048576
    generalize (1048576 : Int) ^ k = P at *
    generalize s % 1048576 = r at *
    generalize s / 1048576 = q at *
    grind

theorem rMinus (x y : Nat) (hxy : y ≤ x) (la : (dig x).length ≤ 1073741824) :
    CallsTo prog 104 [.one (.ints .i64 (dig x)), .one (.ints .i64 (dig y))] (.one (.ints .i64 (dig (x - y)))) := by
  have hlb : (dig y).length ≤ (dig x).length := dig_len_le hxy
  have hnx := num_dig x
  have hny := num_dig y
  have ha := dig_digits x
  have hb := dig_digits y
  have hfin : (num (dig x) - num (dig y)).toNat = x - y := by omega
  rw [← hfin]
  have hle : num (dig y) ≤ num (dig x) := by omega
  clear hfin hnx hny hxy
  generalize dig x = a at *
  generalize dig y = b at *
  refine CallsTo.run [(11, [.join])] Go.Proofs.Try.func104 rfl rfl ?_; conv => simp (maxSteps := 2000000) (disch := omega) only [go_sem, Nat.reduceAdd, Nat.reduceSub, Nat.reduceMul, Int.reduceToNat, Nat.reduceEqDiff, Nat.reduceBEq, Nat.reduceBneDiff, Go.Proofs.Try.f104, List.replicate]
  refine loopo [0, 1, 4] (fun x : Nat × List Int × Int => [(5, .one (.tok 32 (.ints .i64 x.2.1))), (6, .one (.raw (.int .i64 x.2.2))), (7, .one (.raw (.int .i64 x.1)))])
    (fun x => x.1 ≤ a.length ∧ x.2.1.length = x.1 ∧ digits x.2.1 ∧ (0 ≤ x.2.2 ∧ x.2.2 ≤ 1) ∧ num x.2.1 - 1048576 ^ x.1 * x.2.2 = num (a.take x.1) - num (b.take x.1))
    (fun x => a.length - x.1) (0, [], 0)
    ⟨Nat.zero_le _, rfl, digits.nil, by simp, by simp [num]⟩ ?_ ?_
  · refine StLe.trans (StLe.tokI 5 32 (.ints .i64 []) rfl rfl rfl) ?_
    conv => simp (maxSteps := 2000000) (disch := omega) only [go_sem, Nat.reduceAdd, Nat.reduceSub, Nat.reduceMul, Int.reduceToNat, Nat.reduceEqDiff, Nat.reduceBEq, Nat.reduceBneDiff]
    exact StLe.weaken (by repeat' first | exact .nil | refine .cons (by first | exact .refl _ | exact .any _) ?_) rfl
  rintro ⟨k, l, c⟩ ⟨hk, hl, hd, hc, hn⟩
  simp only at hk hl hd hc hn
  conv => simp (maxSteps := 2000000) (disch := omega) only [go_sem, Nat.reduceAdd, Nat.reduceSub, Nat.reduceMul, Int.reduceToNat, Nat.reduceEqDiff, Nat.reduceBEq, Nat.reduceBneDiff]
  refine condd (fun h => ?_) (fun h => ?_)
  · have hak := ha.getD k
    have hbk := hb.getD k
    conv => simp (maxSteps := 2000000) (disch := omega) only [go_sem, Nat.reduceAdd, Nat.reduceSub, Nat.reduceMul, Int.reduceToNat, Nat.reduceEqDiff, Nat.reduceBEq, Nat.reduceBneDiff]
    refine callk (rDigit b k (by omega) (by omega)) ?_
    conv => simp (maxSteps := 2000000) (disch := omega) only [go_sem, Nat.reduceAdd, Nat.reduceSub, Nat.reduceMul, Int.reduceToNat, Nat.reduceEqDiff, Nat.reduceBEq, Nat.reduceBneDiff]
    refine indk (by kernel_rfl) ?_
    conv => simp (maxSteps := 2000000) (disch := omega) only [go_sem, Nat.reduceAdd, Nat.reduceSub, Nat.reduceMul, Int.reduceToNat, Nat.reduceEqDiff, Nat.reduceBEq, Nat.reduceBneDiff]
    generalize hs : a.getD k 0 - b.getD k 0 - c = s at *
    refine joino [0, 1, 4, 5, 7] (fun _ : Unit => [(6, .one (.raw (.int .i64 (if s < 0 then 1 else 0)))), (8, .one (.raw (.int .i64 (if s < 0 then s + 1048576 else s))))]) (fun _ => True) ?_ ?_
    · conv => simp (maxSteps := 2000000) (disch := omega) only [go_sem, Nat.reduceAdd, Nat.reduceSub, Nat.reduceMul, Int.reduceToNat, Nat.reduceEqDiff, Nat.reduceBEq, Nat.reduceBneDiff]
      refine condd (fun h1 => ?_) (fun h1 => ?_)
      · conv => simp (maxSteps := 2000000) (disch := omega) only [go_sem, Nat.reduceAdd, Nat.reduceSub, Nat.reduceMul, Int.reduceToNat, Nat.reduceEqDiff, Nat.reduceBEq, Nat.reduceBneDiff]
        exact ⟨(), StLe.weaken (by repeat' first | exact .nil | refine .cons (by first | exact .refl _ | exact .any _) ?_) rfl⟩
      · conv => simp (maxSteps := 2000000) (disch := omega) only [go_sem, Nat.reduceAdd, Nat.reduceSub, Nat.reduceMul, Int.reduceToNat, Nat.reduceEqDiff, Nat.reduceBEq, Nat.reduceBneDiff]
        exact ⟨(), StLe.weaken (by repeat' first | exact .nil | refine .cons (by first | exact .refl _ | exact .any _) ?_) rfl⟩
    rintro _ _
    generalize hr : (if s < 0 then s + 1048576 else s) = r
    generalize hq : (if s < 0 then (1 : Int) else 0) = q
    have hrq : s = r - 1048576 * q ∧ 0 ≤ r ∧ r ≤ 1048575 ∧ 0 ≤ q ∧ q ≤ 1 := by
      subst hr hq
      split <;> omega
    clear hr hq
    conv => simp (maxSteps := 2000000) (disch := omega) only [go_sem, Nat.reduceAdd, Nat.reduceSub, Nat.reduceMul, Int.reduceToNat, Nat.reduceEqDiff, Nat.reduceBEq, Nat.reduceBneDiff]
    refine ⟨(k + 1, l ++ [r], q), ⟨by dsimp only; omega, by simp [hl], hd.append (digits.cons (by omega) digits.nil), by dsimp only; omega, ?_⟩, by dsimp only; omega, StLe.weaken (by repeat' first | exact .nil | refine .cons (by first | exact .refl _ | exact .any _) ?_) rfl⟩
    dsimp only
    rw [num_snoc, hl, num_take_succ, num_take_succ, Int.pow_succ]
    have h := hrq.1
    generalize (1048576 : Int) ^ k = P at *
    grind
  · have hka : k = a.length := by omega
    rw [hka, take_ge (Nat.le_refl _), take_ge hlb] at hn
    have hd0 := num_lt hd
    rw [hl, hka] at hd0
    have hc0 : c = 0 := by
      have := pow_pos' a.length
      rcases (show c = 0 ∨ c = 1 by omega) with e | e
      · exact e
      · rw [e] at hn; omega
    rw [hc0, Int.mul_zero, Int.sub_zero] at hn
    conv => simp (maxSteps := 2000000) (disch := omega) only [go_sem, Nat.reduceAdd, Nat.reduceSub, Nat.reduceMul, Int.reduceToNat, Nat.reduceEqDiff, Nat.reduceBEq, Nat.reduceBneDiff]
    refine callk (rTrim l (by omega)) ?_
    conv => simp (maxSteps := 2000000) (disch := omega) only [go_sem, Nat.reduceAdd, Nat.reduceSub, Nat.reduceMul, Int.reduceToNat, Nat.reduceEqDiff, Nat.reduceBEq, Nat.reduceBneDiff]
    exact ⟨_, rfl, by rw [trimL_eq' hd hn]; exact .one (.refl _)⟩
end Go.Slot.T
