import Derived.Test.YtieohkidmjglgaaGreatZ6
/- Contracts of package back: Floor. -/
namespace Go.Slot.T
open Go Go.RowKit Go.Slot
open Go.Proofs.Tryz (prog)
set_option maxRecDepth 10000
set_option maxHeartbeats 4000000

theorem cFloor1 (m : Fc) (h : m.sz ≤ 67108864) : CallsTo prog 44 [.agg m.C] (.one (.raw (.bool (!decide (m.ok ∧ 0 ≤ Fc.sign m))))) := by
  by_cases h1 : m.ok
  · rw [show (!decide (m.ok ∧ 0 ≤ Fc.sign m)) = decide (Fc.sign m < 0) by
      by_cases h2 : Fc.sign m < 0
      · rw [decide_eq_true h2, decide_eq_false (fun h => by omega)]; rfl
      · rw [decide_eq_false h2, decide_eq_true ⟨h1, by omega⟩]; rfl]
    refine CallsTo.run [] Go.Proofs.Tryz.func44 rfl rfl ?_; conv => simp (maxSteps := 2000000) (disch := omega) only [go_sem, Nat.reduceAdd, Nat.reduceSub, Nat.reduceMul, Int.reduceToNat, Nat.reduceEqDiff, Nat.reduceBEq, Nat.reduceBneDiff, Go.Proofs.Tryz.f44, List.replicate]
    refine callk (cRightT m (by omega) h1) ?_
    conv => simp (maxSteps := 2000000) (disch := omega) only [go_sem, Nat.reduceAdd, Nat.reduceSub, Nat.reduceMul, Int.reduceToNat, Nat.reduceEqDiff, Nat.reduceBEq, Nat.reduceBneDiff]
    refine callk (cSignF m h) ?_
    conv => simp (maxSteps := 2000000) (disch := omega) only [go_sem, Nat.reduceAdd, Nat.reduceSub, Nat.reduceMul, Int.reduceToNat, Nat.reduceEqDiff, Nat.reduceBEq, Nat.reduceBneDiff]
    exact ⟨_, rfl, .one (.refl _)⟩
  · rw [decide_eq_false (fun h => h1 h.1)]
    refine CallsTo.run [] Go.Proofs.Tryz.func44 rfl rfl ?_; conv => simp (maxSteps := 2000000) (disch := omega) only [go_sem, Nat.reduceAdd, Nat.reduceSub, Nat.reduceMul, Int.reduceToNat, Nat.reduceEqDiff, Nat.reduceBEq, Nat.reduceBneDiff, Go.Proofs.Tryz.f44, List.replicate]
    refine callk (cRightBad m (by omega) h1) ?_
    conv => simp (maxSteps := 2000000) (disch := omega) only [go_sem, Nat.reduceAdd, Nat.reduceSub, Nat.reduceMul, Int.reduceToNat, Nat.reduceEqDiff, Nat.reduceBEq, Nat.reduceBneDiff]
    exact ⟨_, rfl, .one (.refl _)⟩
theorem flo_cons {s u d : Fc} {ms : List Fc} {c : Fc} {cs : List Fc} {p : Sc} {ps : List Sc} : Bk.flo s (u :: d :: ms) (c :: cs) (p :: ps) = if Fc.sub u d = c then Bk.flo (Fc.add s (Fc.sub (Fc.mul u p.low) (Fc.mul d p.high))) ms cs ps else none := rfl
theorem cFloor (f : Af) (l : List Sc) (v : Fc) (ms : List Fc) (hs : small f l) (hv : v.sz ≤ 4096) (hm : ∀ m ∈ ms, m.sz ≤ 4096) (hml : ms.length ≤ 1048576) :
    CallsTo prog 18 [.agg f.C, .one (.sl 8 (l.map Sc.C)), .agg v.C, .one (.sl 4 (ms.map Fc.C))] (.one (.raw (.bool (Bk.floor f l v ms)))) := by
  have hr := cBright f l hs
  obtain ⟨h1, h2, h3, h4⟩ := hs
  have hw := cContainsFr 44 (fun m => !decide (m.ok ∧ 0 ≤ Fc.sign m)) ms (by omega) (fun i hi => cFloor1 _ (by have := getD_sz hm hi; omega))
  rw [Bk.okM_any] at hw
  by_cases g1 : Bk.ok f l
  · rw [decide_eq_true g1] at hr
    by_cases g2 : v.ok
    · by_cases g3 : (ms.length : Int) = 2 * (l.length : Int)
      · have g3' : ¬ ((ms.length : Int) ≠ 2 * (l.length : Int)) := fun h => h g3
        by_cases g4 : Bk.okM ms
        · rw [decide_eq_true g4] at hw
          have hlen := g1.1.1
          rw [show Bk.floor f l v ms = Bk.verdict v (Bk.flo f.c ms f.l l) from if_pos ⟨g1, g2, by omega, g4⟩]
          refine CallsTo.run [] Go.Proofs.Tryz.func18 rfl rfl ?_; conv => simp (maxSteps := 2000000) (disch := omega) only [go_sem, Nat.reduceAdd, Nat.reduceSub, Nat.reduceMul, Int.reduceToNat, Nat.reduceEqDiff, Nat.reduceBEq, Nat.reduceBneDiff, Go.Proofs.Tryz.f18, List.replicate]
          refine callk hr ?_
          conv => simp (maxSteps := 2000000) (disch := omega) only [go_sem, Nat.reduceAdd, Nat.reduceSub, Nat.reduceMul, Int.reduceToNat, Nat.reduceEqDiff, Nat.reduceBEq, Nat.reduceBneDiff]
          refine callk (cRightT v (by omega) g2) ?_
          conv => simp (maxSteps := 2000000) (disch := omega) only [go_sem, Nat.reduceAdd, Nat.reduceSub, Nat.reduceMul, Int.reduceToNat, Nat.reduceEqDiff, Nat.reduceBEq, Nat.reduceBneDiff, g3']
          refine callk hw ?_
          conv => simp (maxSteps := 2000000) (disch := omega) only [go_sem, Nat.reduceAdd, Nat.reduceSub, Nat.reduceMul, Int.reduceToNat, Nat.reduceEqDiff, Nat.reduceBEq, Nat.reduceBneDiff]
          refine loopo [1, 3, 4, 6, 8, 45, 46] (fun x : Nat × Fc => [(10, .box x.2.C), (47, .one (.raw (.int .i64 x.1)))])
            (fun x => x.1 ≤ l.length ∧ x.2.sz ≤ 4096 + x.1 * 16386 ∧ Bk.flo f.c ms f.l l = Bk.flo x.2 (ms.drop (2 * x.1)) (f.l.drop x.1) (l.drop x.1)) (fun x => l.length - x.1) (0, f.c) ⟨Nat.zero_le _, by have := h3.1; dsimp only; omega, rfl⟩ ?_ ?_
          · conv => simp (maxSteps := 2000000) (disch := omega) only [go_sem, Nat.reduceAdd, Nat.reduceSub, Nat.reduceMul, Int.reduceToNat, Nat.reduceEqDiff, Nat.reduceBEq, Nat.reduceBneDiff]
            exact StLe.weaken (by repeat' first | exact .nil | refine .cons (by first | exact .refl _ | exact .any _) ?_) rfl
          rintro ⟨i, s⟩ ⟨hi, hss, he⟩
          simp only at hi hss he
          conv => simp (maxSteps := 2000000) (disch := omega) only [go_sem, Nat.reduceAdd, Nat.reduceSub, Nat.reduceMul, Int.reduceToNat, Nat.reduceEqDiff, Nat.reduceBEq, Nat.reduceBneDiff]
          refine condd (fun h => ?_) (fun h => ?_)
          · have hi1 : i < f.l.length := by omega
            have hi2 : i < l.length := by omega
            have hi3 : 2 * i < ms.length := by omega
            have hi4 : 2 * i + 1 < ms.length := by omega
            have b1 := getD_sz h3.2 hi1
            have b2 := Sc.low_sz (getS_sz h4 hi2)
            have b3 := getD_sz hm hi3
            have b4 := getD_sz hm hi4
            have e3 : (2 * (i : Int)).toNat = 2 * i := by omega
            have e4 : (2 * (i : Int) + 1).toNat = 2 * i + 1 := by omega
            rw [drop_cons Fc.zero hi3, drop_cons Fc.zero hi4, drop_cons Fc.zero hi1, drop_cons Sc.zero hi2, flo_cons] at he
            have s1 := Fc.sz_sub (ms.getD (2 * i) Fc.zero) (ms.getD (2 * i + 1) Fc.zero)
            have s2 := Fc.sz_mul (ms.getD (2 * i) Fc.zero) (l.getD i Sc.zero).low
            have s3 := Fc.sz_mul (ms.getD (2 * i + 1) Fc.zero) (l.getD i Sc.zero).high
            have s4 := Fc.sz_sub (Fc.mul (ms.getD (2 * i) Fc.zero) (l.getD i Sc.zero).low) (Fc.mul (ms.getD (2 * i + 1) Fc.zero) (l.getD i Sc.zero).high)
            have s5 := Fc.sz_add s (Fc.sub (Fc.mul (ms.getD (2 * i) Fc.zero) (l.getD i Sc.zero).low) (Fc.mul (ms.getD (2 * i + 1) Fc.zero) (l.getD i Sc.zero).high))
            have s6 : i * 16386 ≤ 1024 * 16386 := Nat.mul_le_mul_right _ (by omega)
            conv => simp (maxSteps := 2000000) (disch := omega) only [go_sem, Nat.reduceAdd, Nat.reduceSub, Nat.reduceMul, Int.reduceToNat, Nat.reduceEqDiff, Nat.reduceBEq, Nat.reduceBneDiff, e3, e4]
            refine indk (by kernel_rfl) ?_
            conv => simp (maxSteps := 2000000) (disch := omega) only [go_sem, Nat.reduceAdd, Nat.reduceSub, Nat.reduceMul, Int.reduceToNat, Nat.reduceEqDiff, Nat.reduceBEq, Nat.reduceBneDiff, e3, e4]
            refine callk (cSubF (ms.getD (2 * i) Fc.zero) (ms.getD (2 * i + 1) Fc.zero) (by omega) (by omega)) ?_
            conv => simp (maxSteps := 2000000) (disch := omega) only [go_sem, Nat.reduceAdd, Nat.reduceSub, Nat.reduceMul, Int.reduceToNat, Nat.reduceEqDiff, Nat.reduceBEq, Nat.reduceBneDiff]
            refine callk (cSameF (Fc.sub (ms.getD (2 * i) Fc.zero) (ms.getD (2 * i + 1) Fc.zero)) (f.l.getD i Fc.zero) (by omega) (by omega)) ?_
            conv => simp (maxSteps := 2000000) (disch := omega) only [go_sem, Nat.reduceAdd, Nat.reduceSub, Nat.reduceMul, Int.reduceToNat, Nat.reduceEqDiff, Nat.reduceBEq, Nat.reduceBneDiff]
            refine indk (by kernel_rfl) ?_
            conv => simp (maxSteps := 2000000) (disch := omega) only [go_sem, Nat.reduceAdd, Nat.reduceSub, Nat.reduceMul, Int.reduceToNat, Nat.reduceEqDiff, Nat.reduceBEq, Nat.reduceBneDiff]
            by_cases h6 : Fc.sub (ms.getD (2 * i) Fc.zero) (ms.getD (2 * i + 1) Fc.zero) = f.l.getD i Fc.zero
            · rw [if_pos h6] at he
              refine condk (fun h => ?_) (fun _ => ?_)
              · rw [decide_eq_true h6] at h; cases h
              conv => simp (maxSteps := 2000000) (disch := omega) only [go_sem, Nat.reduceAdd, Nat.reduceSub, Nat.reduceMul, Int.reduceToNat, Nat.reduceEqDiff, Nat.reduceBEq, Nat.reduceBneDiff]
              refine callk (cMulF (ms.getD (2 * i) Fc.zero) (l.getD i Sc.zero).low (by omega) (by omega)) ?_
              conv => simp (maxSteps := 2000000) (disch := omega) only [go_sem, Nat.reduceAdd, Nat.reduceSub, Nat.reduceMul, Int.reduceToNat, Nat.reduceEqDiff, Nat.reduceBEq, Nat.reduceBneDiff]
              refine callk (cMulF (ms.getD (2 * i + 1) Fc.zero) (l.getD i Sc.zero).high (by omega) (by omega)) ?_
              conv => simp (maxSteps := 2000000) (disch := omega) only [go_sem, Nat.reduceAdd, Nat.reduceSub, Nat.reduceMul, Int.reduceToNat, Nat.reduceEqDiff, Nat.reduceBEq, Nat.reduceBneDiff]
              refine callk (cSubF (Fc.mul (ms.getD (2 * i) Fc.zero) (l.getD i Sc.zero).low) (Fc.mul (ms.getD (2 * i + 1) Fc.zero) (l.getD i Sc.zero).high) (by omega) (by omega)) ?_
              conv => simp (maxSteps := 2000000) (disch := omega) only [go_sem, Nat.reduceAdd, Nat.reduceSub, Nat.reduceMul, Int.reduceToNat, Nat.reduceEqDiff, Nat.reduceBEq, Nat.reduceBneDiff]
              refine callk (cAddF s (Fc.sub (Fc.mul (ms.getD (2 * i) Fc.zero) (l.getD i Sc.zero).low) (Fc.mul (ms.getD (2 * i + 1) Fc.zero) (l.getD i Sc.zero).high)) (by omega) (by omega)) ?_
              conv => simp (maxSteps := 2000000) (disch := omega) only [go_sem, Nat.reduceAdd, Nat.reduceSub, Nat.reduceMul, Int.reduceToNat, Nat.reduceEqDiff, Nat.reduceBEq, Nat.reduceBneDiff]
              exact ⟨(i + 1, Fc.add s (Fc.sub (Fc.mul (ms.getD (2 * i) Fc.zero) (l.getD i Sc.zero).low) (Fc.mul (ms.getD (2 * i + 1) Fc.zero) (l.getD i Sc.zero).high))), ⟨by dsimp only; omega, by dsimp only; omega, he⟩, by dsimp only; omega, StLe.weaken (by repeat' first | exact .nil | refine .cons (by first | exact .refl _ | exact .any _) ?_) rfl⟩
            · rw [if_neg h6] at he
              refine condk (fun _ => ?_) (fun h => ?_)
              · conv => simp (maxSteps := 2000000) (disch := omega) only [go_sem, Nat.reduceAdd, Nat.reduceSub, Nat.reduceMul, Int.reduceToNat, Nat.reduceEqDiff, Nat.reduceBEq, Nat.reduceBneDiff]
                exact ⟨_, rfl, by rw [he]; exact .one (.refl _)⟩
              · rw [decide_eq_false h6] at h; cases h
          · have hi' : i = l.length := by omega
            have hi6 : i * 16386 ≤ 1024 * 16386 := Nat.mul_le_mul_right _ (by omega)
            rw [hi', List.drop_length] at he
            have he : Bk.flo f.c ms f.l l = some s := by
              rw [he, List.drop_eq_nil_of_le (by omega)]
              rfl
            rw [he]
            conv => simp (maxSteps := 2000000) (disch := omega) only [go_sem, Nat.reduceAdd, Nat.reduceSub, Nat.reduceMul, Int.reduceToNat, Nat.reduceEqDiff, Nat.reduceBEq, Nat.reduceBneDiff]
            refine callk (cCmpF s v (by omega) (by omega)) ?_
            conv => simp (maxSteps := 2000000) (disch := omega) only [go_sem, Nat.reduceAdd, Nat.reduceSub, Nat.reduceMul, Int.reduceToNat, Nat.reduceEqDiff, Nat.reduceBEq, Nat.reduceBneDiff]
            exact ⟨_, rfl, .one (.refl _)⟩
        · rw [decide_eq_false g4] at hw
          rw [show Bk.floor f l v ms = false from if_neg (fun h => g4 h.2.2.2)]
          refine CallsTo.run [] Go.Proofs.Tryz.func18 rfl rfl ?_; conv => simp (maxSteps := 2000000) (disch := omega) only [go_sem, Nat.reduceAdd, Nat.reduceSub, Nat.reduceMul, Int.reduceToNat, Nat.reduceEqDiff, Nat.reduceBEq, Nat.reduceBneDiff, Go.Proofs.Tryz.f18, List.replicate]
          refine callk hr ?_
          conv => simp (maxSteps := 2000000) (disch := omega) only [go_sem, Nat.reduceAdd, Nat.reduceSub, Nat.reduceMul, Int.reduceToNat, Nat.reduceEqDiff, Nat.reduceBEq, Nat.reduceBneDiff]
          refine callk (cRightT v (by omega) g2) ?_
          conv => simp (maxSteps := 2000000) (disch := omega) only [go_sem, Nat.reduceAdd, Nat.reduceSub, Nat.reduceMul, Int.reduceToNat, Nat.reduceEqDiff, Nat.reduceBEq, Nat.reduceBneDiff, g3']
          refine callk hw ?_
          conv => simp (maxSteps := 2000000) (disch := omega) only [go_sem, Nat.reduceAdd, Nat.reduceSub, Nat.reduceMul, Int.reduceToNat, Nat.reduceEqDiff, Nat.reduceBEq, Nat.reduceBneDiff]
          exact ⟨_, rfl, .one (.refl _)⟩
      · have g3d := decide_eq_true (show (ms.length : Int) ≠ 2 * (l.length : Int) from g3)
        rw [show Bk.floor f l v ms = false from if_neg (fun h => g3 (by have := h.2.2.1; omega))]
        refine CallsTo.run [] Go.Proofs.Tryz.func18 rfl rfl ?_; conv => simp (maxSteps := 2000000) (disch := omega) only [go_sem, Nat.reduceAdd, Nat.reduceSub, Nat.reduceMul, Int.reduceToNat, Nat.reduceEqDiff, Nat.reduceBEq, Nat.reduceBneDiff, Go.Proofs.Tryz.f18, List.replicate]
        refine callk hr ?_
        conv => simp (maxSteps := 2000000) (disch := omega) only [go_sem, Nat.reduceAdd, Nat.reduceSub, Nat.reduceMul, Int.reduceToNat, Nat.reduceEqDiff, Nat.reduceBEq, Nat.reduceBneDiff]
        refine callk (cRightT v (by omega) g2) ?_
        conv => simp (maxSteps := 2000000) (disch := omega) only [go_sem, Nat.reduceAdd, Nat.reduceSub, Nat.reduceMul, Int.reduceToNat, Nat.reduceEqDiff, Nat.reduceBEq, Nat.reduceBneDiff, g3d]
        exact ⟨_, rfl, .one (.refl _)⟩
    · rw [show Bk.floor f l v ms = false from if_neg (fun h => g2 h.2.1)]
      refine CallsTo.run [] Go.Proofs.Tryz.func18 rfl rfl ?_; conv => simp (maxSteps := 2000000) (disch := omega) only [go_sem, Nat.reduceAdd, Nat.reduceSub, Nat.reduceMul, Int.reduceToNat, Nat.reduceEqDiff, Nat.reduceBEq, Nat.reduceBneDiff, Go.Proofs.Tryz.f18, List.replicate]
      refine callk hr ?_
      conv => simp (maxSteps := 2000000) (disch := omega) only [go_sem, Nat.reduceAdd, Nat.reduceSub, Nat.reduceMul, Int.reduceToNat, Nat.reduceEqDiff, Nat.reduceBEq, Nat.reduceBneDiff]
      refine callk (cRightBad v (by omega) g2) ?_
      conv => simp (maxSteps := 2000000) (disch := omega) only [go_sem, Nat.reduceAdd, Nat.reduceSub, Nat.reduceMul, Int.reduceToNat, Nat.reduceEqDiff, Nat.reduceBEq, Nat.reduceBneDiff]
      exact ⟨_, rfl, .one (.refl _)⟩
  · rw [decide_eq_false g1] at hr
    rw [show Bk.floor f l v ms = false from if_neg (fun h => g1 h.1)]
    refine CallsTo.run [] Go.Proofs.Tryz.func18 rfl rfl ?_; conv => simp (maxSteps := 2000000) (disch := omega) only [go_sem, Nat.reduceAdd, Nat.reduceSub, Nat.reduceMul, Int.reduceToNat, Nat.reduceEqDiff, Nat.reduceBEq, Nat.reduceBneDiff, Go.Proofs.Tryz.f18, List.replicate]
    refine callk hr ?_
    conv => simp (maxSteps := 2000000) (disch := omega) only [go_sem, Nat.reduceAdd, Nat.reduceSub, Nat.reduceMul, Int.reduceToNat, Nat.reduceEqDiff, Nat.reduceBEq, Nat.reduceBneDiff]
    exact ⟨_, rfl, .one (.refl _)⟩
end Go.Slot.T

/- Contracts of package kitbagref04: digit, trim, made, Right, Neg. -/
namespace Go.Slot.T
open Go Go.RowKit Go.Slot
open Go.Proofs.Tryz (prog)
set_option maxRecDepth 10000
set_option maxHeartbeats 4000000

theorem rDigit (L : List Int) (i : Nat) (_hL : L.length ≤ 1099511627776) (hi : (i : Int) ≤ 1099511627776) :
    CallsTo prog 163 [.one (.ints .i64 L), .one (.raw (.int .i64 i))] (.one (.raw (.int .i64 (L.getD i 0)))) := by
  refine CallsTo.run [] Go.Proofs.Tryz.func163 rfl rfl ?_; conv => simp (maxSteps := 2000000) (disch := omega) only [go_sem, Nat.reduceAdd, Nat.reduceSub, Nat.reduceMul, Int.reduceToNat, Nat.reduceEqDiff, Nat.reduceBEq, Nat.reduceBneDiff, Go.Proofs.Tryz.f163, List.replicate]
  refine condd (fun h => ?_) (fun h => ?_)
  · conv => simp (maxSteps := 2000000) (disch := omega) only [go_sem, Nat.reduceAdd, Nat.reduceSub, Nat.reduceMul, Int.reduceToNat, Nat.reduceEqDiff, Nat.reduceBEq, Nat.reduceBneDiff]
    exact ⟨_, rfl, .one (.refl _)⟩
  · conv => simp (maxSteps := 2000000) (disch := omega) only [go_sem, Nat.reduceAdd, Nat.reduceSub, Nat.reduceMul, Int.reduceToNat, Nat.reduceEqDiff, Nat.reduceBEq, Nat.reduceBneDiff]
    exact ⟨_, rfl, by rw [getD_ge (by omega)]; exact .one (.refl _)⟩

theorem rTrim (L : List Int) (hL : L.length ≤ 1099511627776) : CallsTo prog 162 [.one (.ints .i64 L)] (.one (.ints .i64 (trimL L))) := by
  refine CallsTo.run [] Go.Proofs.Tryz.func162 rfl rfl ?_; conv => simp (maxSteps := 2000000) (disch := omega) only [go_sem, Nat.reduceAdd, Nat.reduceSub, Nat.reduceMul, Int.reduceToNat, Nat.reduceEqDiff, Nat.reduceBEq, Nat.reduceBneDiff, Go.Proofs.Tryz.f162, List.replicate]
  refine loopo [0, 2] (fun n : Nat => [(3, .one (.raw (.int .i64 n)))])
    (fun n => n ≤ L.length ∧ trimN L L.length = trimN L n) (fun n => n) L.length ⟨Nat.le_refl _, rfl⟩ ?_ ?_
  · conv => simp (maxSteps := 2000000) (disch := omega) only [go_sem, Nat.reduceAdd, Nat.reduceSub, Nat.reduceMul, Int.reduceToNat, Nat.reduceEqDiff, Nat.reduceBEq, Nat.reduceBneDiff]
    exact StLe.weaken (by repeat' first | exact .nil | refine .cons (by first | exact .refl _ | exact .any _) ?_) rfl
  rintro n ⟨hn, ht⟩
  conv => simp (maxSteps := 2000000) (disch := omega) only [go_sem, Nat.reduceAdd, Nat.reduceSub, Nat.reduceMul, Int.reduceToNat, Nat.reduceEqDiff, Nat.reduceBEq, Nat.reduceBneDiff]
  have fin : trimN L L.length = n → trimL L = L.take n := fun h => by unfold trimL; rw [h]
  refine guardd (fun h => ?_) (fun h => ?_)
  · obtain ⟨m, rfl⟩ : ∃ m, n = m + 1 := ⟨n - 1, by omega⟩
    have e : ((m + 1 : Nat) : Int) - 1 = (m : Nat) := by omega
    have h' := decide_eq_true h
    conv => simp (maxSteps := 2000000) (disch := omega) only [go_sem, Nat.reduceAdd, Nat.reduceSub, Nat.reduceMul, Int.reduceToNat, Nat.reduceEqDiff, Nat.reduceBEq, Nat.reduceBneDiff, h', e]
    refine condd (fun h2 => ?_) (fun h2 => ?_)
    · conv => simp (maxSteps := 2000000) (disch := omega) only [go_sem, Nat.reduceAdd, Nat.reduceSub, Nat.reduceMul, Int.reduceToNat, Nat.reduceEqDiff, Nat.reduceBEq, Nat.reduceBneDiff, e]
      exact ⟨m, ⟨by omega, by rw [ht]; simp only [trimN]; rw [if_pos h2]⟩, by omega, StLe.weaken (by repeat' first | exact .nil | refine .cons (by first | exact .refl _ | exact .any _) ?_) rfl⟩
    · have hfin : trimN L L.length = m + 1 := by rw [ht]; simp only [trimN]; rw [if_neg h2]
      rw [fin hfin]
      conv => simp (maxSteps := 2000000) (disch := omega) only [go_sem, Nat.reduceAdd, Nat.reduceSub, Nat.reduceMul, Int.reduceToNat, Nat.reduceEqDiff, Nat.reduceBEq, Nat.reduceBneDiff, e, Nat.sub_zero, List.length_take]
      exact ⟨_, rfl, .own⟩
  · have h0 : n = 0 := by omega
    subst h0
    rw [fin (by rw [ht]; rfl)]
    conv => simp (maxSteps := 2000000) (disch := omega) only [go_sem, Nat.reduceAdd, Nat.reduceSub, Nat.reduceMul, Int.reduceToNat, Nat.reduceEqDiff, Nat.reduceBEq, Nat.reduceBneDiff, h, Nat.sub_zero, List.length_take]
    exact ⟨_, rfl, .one (.refl _)⟩
theorem rMade (s : Int) (L : List Int) (hL : L.length ≤ 1099511627776) :
    CallsTo prog 120 [.one (.raw (.int .i64 s)), .one (.ints .i64 L)] (.agg (bigC (if trimL L = [] then 0 else s) (trimL L))) := by
  refine CallsTo.run [] Go.Proofs.Tryz.func120 rfl rfl ?_; conv => simp (maxSteps := 2000000) (disch := omega) only [go_sem, Nat.reduceAdd, Nat.reduceSub, Nat.reduceMul, Int.reduceToNat, Nat.reduceEqDiff, Nat.reduceBEq, Nat.reduceBneDiff, Go.Proofs.Tryz.f120, List.replicate]
  refine callk (rTrim L hL) ?_
  conv => simp (maxSteps := 2000000) (disch := omega) only [go_sem, Nat.reduceAdd, Nat.reduceSub, Nat.reduceMul, Int.reduceToNat, Nat.reduceEqDiff, Nat.reduceBEq, Nat.reduceBneDiff]
  refine condd (fun h => ?_) (fun h => ?_)
  · have h0 : trimL L = [] := by have : (trimL L).length = 0 := by omega
                                 simpa using this
    conv => simp (maxSteps := 2000000) (disch := omega) only [go_sem, Nat.reduceAdd, Nat.reduceSub, Nat.reduceMul, Int.reduceToNat, Nat.reduceEqDiff, Nat.reduceBEq, Nat.reduceBneDiff]
    refine ⟨_, rfl, ?_⟩
    rw [h0]
    exact .one (.agg (.cons (.refl _) (.cons (.zcInts _) .nil)))
  · have h0 : trimL L ≠ [] := fun e => h (by rw [e]; rfl)
    conv => simp (maxSteps := 2000000) (disch := omega) only [go_sem, Nat.reduceAdd, Nat.reduceSub, Nat.reduceMul, Int.reduceToNat, Nat.reduceEqDiff, Nat.reduceBEq, Nat.reduceBneDiff]
    refine ⟨_, rfl, ?_⟩
    try rw [if_neg h0]
    exact .one (.refl _)
theorem rMadeZ (s z : Int) (hz : (dig z.natAbs).length ≤ 1073741824) (h : (s = 1 ∧ 0 ≤ z) ∨ (s = -1 ∧ z ≤ 0) ∨ z = 0) :
    CallsTo prog 120 [.one (.raw (.int .i64 s)), .one (.ints .i64 (dig z.natAbs))] (.agg [.raw (.int .i64 (sg z)), .ints .i64 (dig z.natAbs)]) := by
  have h' := rMade s (dig z.natAbs) (by omega)
  unfold bigC at h'
  rw [zC_of h] at h'
  exact h'
end Go.Slot.T

/- Contracts of package kitbagref04: less, plus, minus. -/
namespace Go.Slot.T
open Go Go.RowKit Go.Slot
open Go.Proofs.Tryz (prog)
set_option maxRecDepth 10000
set_option maxHeartbeats 4000000

theorem num_split' (l : List Int) (i : Nat) : num l = num (l.take i) + 1048576 ^ i * num (l.drop i) := by
  rcases Nat.lt_or_ge l.length i with h | h
  · rw [List.drop_eq_nil_of_le (by omega), take_ge (by omega)]; simp [num]
  · have := num_split l i
    rwa [List.length_take, Nat.min_eq_left h] at this
theorem num_take_lt {l : List Int} (h : digits l) (i : Nat) : num (l.take i) < 1048576 ^ i :=
  Int.lt_of_lt_of_le (num_lt (h.take i)) (pow_mono' (by simp; omega))
theorem num_top' {a b : List Int} (ha : digits a) (hb : digits b) (i : Nat) (h : num (a.drop (i + 1)) = num (b.drop (i + 1))) (hlt : a.getD i 0 < b.getD i 0) : num a < num b := by
  rw [num_split' a i, num_split' b i, num_drop a, num_drop b, h]
  have h1 := num_take_lt ha i
  have h2 := num_nonneg (hb.take i)
  have hp := pow_pos' i
  generalize (1048576 : Int) ^ i = P at *
  generalize num (b.drop (i + 1)) = T
  have h3 : P * (a.getD i 0 + 1) ≤ P * b.getD i 0 := Int.mul_le_mul_of_nonneg_left (by omega) (by omega)
  rw [Int.mul_add, Int.mul_add]
  rw [Int.mul_add] at h3
  omega

theorem rLess (a b : List Int) (ha : digits a) (hb : digits b) (la : a.length ≤ 1099511627776) (lb : b.length ≤ 1099511627776) :
    CallsTo prog 123 [.one (.ints .i64 a), .one (.ints .i64 b)] (.one (.raw (.bool (decide (num a < num b))))) := by
  refine CallsTo.run [] Go.Proofs.Tryz.func123 rfl rfl ?_; conv => simp (maxSteps := 2000000) (disch := omega) only [go_sem, Nat.reduceAdd, Nat.reduceSub, Nat.reduceMul, Int.reduceToNat, Nat.reduceEqDiff, Nat.reduceBEq, Nat.reduceBneDiff, Go.Proofs.Tryz.f123, List.replicate]
  refine loopo [0, 1, 4] (fun n : Nat => [(5, .one (.raw (.int .i64 ((n : Int) - 1))))])
    (fun n => n ≤ max a.length b.length ∧ num (a.drop n) = num (b.drop n)) (fun n => n) (max a.length b.length)
    ⟨Nat.le_refl _, by rw [List.drop_eq_nil_of_le (by omega), List.drop_eq_nil_of_le (by omega)]⟩ ?_ ?_
  · conv => simp (maxSteps := 2000000) (disch := omega) only [go_sem, Nat.reduceAdd, Nat.reduceSub, Nat.reduceMul, Int.reduceToNat, Nat.reduceEqDiff, Nat.reduceBEq, Nat.reduceBneDiff]
    rw [show (max (a.length : Int) b.length) = ((max a.length b.length : Nat) : Int) by omega]
    exact StLe.weaken (by repeat' first | exact .nil | refine .cons (by first | exact .refl _ | exact .any _) ?_) rfl
  rintro n ⟨hn, he⟩
  conv => simp (maxSteps := 2000000) (disch := omega) only [go_sem, Nat.reduceAdd, Nat.reduceSub, Nat.reduceMul, Int.reduceToNat, Nat.reduceEqDiff, Nat.reduceBEq, Nat.reduceBneDiff]
  refine condd (fun h => ?_) (fun h => ?_)
  · obtain ⟨i, rfl⟩ : ∃ i, n = i + 1 := ⟨n - 1, by omega⟩
    have ei : ((i + 1 : Nat) : Int) - 1 = (i : Nat) := by omega
    conv => simp (maxSteps := 2000000) (disch := omega) only [go_sem, Nat.reduceAdd, Nat.reduceSub, Nat.reduceMul, Int.reduceToNat, Nat.reduceEqDiff, Nat.reduceBEq, Nat.reduceBneDiff, ei]
    refine callk (rDigit a i la (by omega)) ?_
    conv => simp (maxSteps := 2000000) (disch := omega) only [go_sem, Nat.reduceAdd, Nat.reduceSub, Nat.reduceMul, Int.reduceToNat, Nat.reduceEqDiff, Nat.reduceBEq, Nat.reduceBneDiff, ei]
    refine callk (rDigit b i lb (by omega)) ?_
    conv => simp (maxSteps := 2000000) (disch := omega) only [go_sem, Nat.reduceAdd, Nat.reduceSub, Nat.reduceMul, Int.reduceToNat, Nat.reduceEqDiff, Nat.reduceBEq, Nat.reduceBneDiff, ei]
    refine condd (fun h2 => ?_) (fun h2 => ?_)
    · have h2 : a.getD i 0 ≠ b.getD i 0 := h2
      conv => simp (maxSteps := 2000000) (disch := omega) only [go_sem, Nat.reduceAdd, Nat.reduceSub, Nat.reduceMul, Int.reduceToNat, Nat.reduceEqDiff, Nat.reduceBEq, Nat.reduceBneDiff, ei]
      refine callk (rDigit a i la (by omega)) ?_
      conv => simp (maxSteps := 2000000) (disch := omega) only [go_sem, Nat.reduceAdd, Nat.reduceSub, Nat.reduceMul, Int.reduceToNat, Nat.reduceEqDiff, Nat.reduceBEq, Nat.reduceBneDiff, ei]
      refine callk (rDigit b i lb (by omega)) ?_
      conv => simp (maxSteps := 2000000) (disch := omega) only [go_sem, Nat.reduceAdd, Nat.reduceSub, Nat.reduceMul, Int.reduceToNat, Nat.reduceEqDiff, Nat.reduceBEq, Nat.reduceBneDiff, ei]
      refine ⟨_, rfl, ?_⟩
      have : decide (a.getD i 0 < b.getD i 0) = decide (num a < num b) := by
        apply decide_eq_decide.2
        rcases Int.lt_or_gt_of_ne h2 with h3 | h3
        · have := num_top' ha hb i he h3
          exact ⟨fun _ => this, fun _ => h3⟩
        · have := num_top' hb ha i he.symm h3
          exact ⟨fun _ => by omega, fun _ => by omega⟩
      rw [this]
      exact .one (.refl _)
    · have h2 : a.getD i 0 = b.getD i 0 := by omega
      conv => simp (maxSteps := 2000000) (disch := omega) only [go_sem, Nat.reduceAdd, Nat.reduceSub, Nat.reduceMul, Int.reduceToNat, Nat.reduceEqDiff, Nat.reduceBEq, Nat.reduceBneDiff, ei]
      exact ⟨i, ⟨by omega, by rw [num_drop a, num_drop b, he, h2]⟩, by omega, StLe.weaken (by repeat' first | exact .nil | refine .cons (by first | exact .refl _ | exact .any _) ?_) rfl⟩
  · have h0 : n = 0 := by omega
    subst h0
    have he : num a = num b := by simpa using he
    conv => simp (maxSteps := 2000000) (disch := omega) only [go_sem, Nat.reduceAdd, Nat.reduceSub, Nat.reduceMul, Int.reduceToNat, Nat.reduceEqDiff, Nat.reduceBEq, Nat.reduceBneDiff]
    exact ⟨_, rfl, by rw [decide_eq_false (by omega)]; exact .one (.refl _)⟩

theorem num_snoc (l : List Int) (x : Int) : num (l ++ [x]) = num l + 1048576 ^ l.length * x := by rw [num_append]; simp [num]
theorem rPlus (a b : List Int) (ha : digits a) (hb : digits b) (la : a.length ≤ 1073741824) (lb : b.length ≤ 1073741824) :
    CallsTo prog 134 [.one (.ints .i64 a), .one (.ints .i64 b)] (.one (.ints .i64 (dig (num a + num b).toNat))) := by
  refine CallsTo.run [(6, [.join])] Go.Proofs.Tryz.func134 rfl rfl ?_; conv => simp (maxSteps := 2000000) (disch := omega) only [go_sem, Nat.reduceAdd, Nat.reduceSub, Nat.reduceMul, Int.reduceToNat, Nat.reduceEqDiff, Nat.reduceBEq, Nat.reduceBneDiff, Go.Proofs.Tryz.f134, List.replicate]
  refine loopo [0, 1, 4] (fun x : Nat × List Int × Int => [(5, .one (.tok 38 (.ints .i64 x.2.1))), (6, .one (.raw (.int .i64 x.2.2))), (7, .one (.raw (.int .i64 x.1)))])
    (fun x => x.1 ≤ max a.length b.length + 1 ∧ x.2.1.length = x.1 ∧ digits x.2.1 ∧ (0 ≤ x.2.2 ∧ x.2.2 ≤ 1) ∧ (max a.length b.length < x.1 → x.2.2 = 0) ∧ num x.2.1 + 1048576 ^ x.1 * x.2.2 = num (a.take x.1) + num (b.take x.1))
    (fun x => max a.length b.length + 1 - x.1) (0, [], 0)
    ⟨Nat.zero_le _, rfl, digits.nil, by simp, by simp, by simp [num]⟩ ?_ ?_
  · refine StLe.trans (StLe.tokI 5 38 (.ints .i64 []) rfl rfl rfl) ?_
    conv => simp (maxSteps := 2000000) (disch := omega) only [go_sem, Nat.reduceAdd, Nat.reduceSub, Nat.reduceMul, Int.reduceToNat, Nat.reduceEqDiff, Nat.reduceBEq, Nat.reduceBneDiff]
    exact StLe.weaken (by repeat' first | exact .nil | refine .cons (by first | exact .refl _ | exact .any _) ?_) rfl
  rintro ⟨k, l, c⟩ ⟨hk, hl, hd, hc, hc0, hn⟩
  simp only at hk hl hd hc hc0 hn
  conv => simp (maxSteps := 2000000) (disch := omega) only [go_sem, Nat.reduceAdd, Nat.reduceSub, Nat.reduceMul, Int.reduceToNat, Nat.reduceEqDiff, Nat.reduceBEq, Nat.reduceBneDiff]
  refine joino [0, 1, 4, 5, 6, 7] (fun _ : Unit => []) (fun _ => k < a.length ∨ k < b.length ∨ 0 < c) ?_ ?_
  · conv => simp (maxSteps := 2000000) (disch := omega) only [go_sem, Nat.reduceAdd, Nat.reduceSub, Nat.reduceMul, Int.reduceToNat, Nat.reduceEqDiff, Nat.reduceBEq, Nat.reduceBneDiff]
    refine guardn (fun h1 => ?_) (fun h1 => ?_)
    · conv => simp (maxSteps := 2000000) (disch := omega) only [go_sem, Nat.reduceAdd, Nat.reduceSub, Nat.reduceMul, Int.reduceToNat, Nat.reduceEqDiff, Nat.reduceBEq, Nat.reduceBneDiff, h1]
      refine guardn (fun h2 => ?_) (fun h2 => ?_)
      · conv => simp (maxSteps := 2000000) (disch := omega) only [go_sem, Nat.reduceAdd, Nat.reduceSub, Nat.reduceMul, Int.reduceToNat, Nat.reduceEqDiff, Nat.reduceBEq, Nat.reduceBneDiff, h2]
        refine condd (fun h3 => ?_) (fun h3 => ?_)
        · conv => simp (maxSteps := 2000000) (disch := omega) only [go_sem, Nat.reduceAdd, Nat.reduceSub, Nat.reduceMul, Int.reduceToNat, Nat.reduceEqDiff, Nat.reduceBEq, Nat.reduceBneDiff]
          exact ⟨(), .inr (.inr h3), StLe.weaken (by repeat' first | exact .nil | refine .cons (by first | exact .refl _ | exact .any _) ?_) rfl⟩
        · have hc1 : c = 0 := by omega
          rw [take_ge (by omega), take_ge (by omega), hc1, Int.mul_zero, Int.add_zero] at hn
          conv => simp (maxSteps := 2000000) (disch := omega) only [go_sem, Nat.reduceAdd, Nat.reduceSub, Nat.reduceMul, Int.reduceToNat, Nat.reduceEqDiff, Nat.reduceBEq, Nat.reduceBneDiff]
          refine callk (rTrim l (by omega)) ?_
          conv => simp (maxSteps := 2000000) (disch := omega) only [go_sem, Nat.reduceAdd, Nat.reduceSub, Nat.reduceMul, Int.reduceToNat, Nat.reduceEqDiff, Nat.reduceBEq, Nat.reduceBneDiff]
          exact ⟨_, rfl, by rw [trimL_eq' hd hn]; exact .one (.refl _)⟩
      · have h2' := decide_eq_true h2
        conv => simp (maxSteps := 2000000) (disch := omega) only [go_sem, Nat.reduceAdd, Nat.reduceSub, Nat.reduceMul, Int.reduceToNat, Nat.reduceEqDiff, Nat.reduceBEq, Nat.reduceBneDiff, h2']
        exact ⟨(), .inr (.inl (by omega)), StLe.weaken (by repeat' first | exact .nil | refine .cons (by first | exact .refl _ | exact .any _) ?_) rfl⟩
    · have h1' := decide_eq_true h1
      conv => simp (maxSteps := 2000000) (disch := omega) only [go_sem, Nat.reduceAdd, Nat.reduceSub, Nat.reduceMul, Int.reduceToNat, Nat.reduceEqDiff, Nat.reduceBEq, Nat.reduceBneDiff, h1']
      exact ⟨(), .inl (by omega), StLe.weaken (by repeat' first | exact .nil | refine .cons (by first | exact .refl _ | exact .any _) ?_) rfl⟩
  rintro _ hgo
  have hak := ha.getD k
  have hbk := hb.getD k
  have hkm : k ≤ max a.length b.length := by
    rcases Nat.lt_or_ge (max a.length b.length) k with h | h
    · have := hc0 h; omega
    · exact h
  conv => simp (maxSteps := 2000000) (disch := omega) only [go_sem, Nat.reduceAdd, Nat.reduceSub, Nat.reduceMul, Int.reduceToNat, Nat.reduceEqDiff, Nat.reduceBEq, Nat.reduceBneDiff]
  refine callk (rDigit a k (by omega) (by omega)) ?_
  conv => simp (maxSteps := 2000000) (disch := omega) only [go_sem, Nat.reduceAdd, Nat.reduceSub, Nat.reduceMul, Int.reduceToNat, Nat.reduceEqDiff, Nat.reduceBEq, Nat.reduceBneDiff]
  refine callk (rDigit b k (by omega) (by omega)) ?_
  conv => simp (maxSteps := 2000000) (disch := omega) only [go_sem, Nat.reduceAdd, Nat.reduceSub, Nat.reduceMul, Int.reduceToNat, Nat.reduceEqDiff, Nat.reduceBEq, Nat.reduceBneDiff]
  generalize hs : a.getD k 0 + b.getD k 0 + c = s at *
  have hm : s.tmod 1048576 = s % 1048576 := Int.tmod_eq_emod_of_nonneg (by omega)
  have hq : s.tdiv 1048576 = s / 1048576 := Int.tdiv_eq_ediv_of_nonneg (by omega)
  conv => simp (maxSteps := 2000000) (disch := omega) only [go_sem, Nat.reduceAdd, Nat.reduceSub, Nat.reduceMul, Int.reduceToNat, Nat.reduceEqDiff, Nat.reduceBEq, Nat.reduceBneDiff, hm, hq]
  refine ⟨(k + 1, l ++ [s % 1048576], s / 1048576), ⟨by dsimp only; omega, by simp [hl], hd.append (digits.cons (by omega) digits.nil), by dsimp only; omega, fun h => ?_, ?_⟩, by dsimp only; omega, StLe.weaken (by repeat' first | exact .nil | refine .cons (by first | exact .refl _ | exact .any _) ?_) rfl⟩
  · dsimp only at h ⊢
    have e1 := getD_ge (l := a) (i := k) (by omega)
    have e2 := getD_ge (l := b) (i := k) (by omega)
    omega
  · dsimp only
    rw [num_snoc, hl, num_take_succ, num_take_succ, Int.pow_succ]
    have h := Int.emod_add_mul_ediv s 1048576
    generalize (1048576 : Int) ^ k = P at *
    generalize s % 1048576 = r at *
    generalize s / 1048576 = q at *
    grind

theorem rMinus (x y : Nat) (hxy : y ≤ x) (la : (dig x).length ≤ 1073741824) :
    CallsTo prog 135 [.one (.ints .i64 (dig x)), .one (.ints .i64 (dig y))] (.one (.ints .i64 (dig (x - y)))) := by
  have hlb : (dig y).length ≤ (dig x).length := dig_len_le hxy
  have hnx := num_dig x
  have hny := num_dig y
  have ha := dig_digits x
  have hb := dig_digits y
  have hfin : (num (dig x) - num (dig y)).toNat = x - y := by omega
  rw [← hfin]
  have hle : num (dig y) ≤ num (dig x) := by omega
  clear hfin hnx hny hxy
  generalize dig x = a at *
  generalize dig y = b at *
  refine CallsTo.run [(11, [.join])] Go.Proofs.Tryz.func135 rfl rfl ?_; conv => simp (maxSteps := 2000000) (disch := omega) only [go_sem, Nat.reduceAdd, Nat.reduceSub, Nat.reduceMul, Int.reduceToNat, Nat.reduceEqDiff, Nat.reduceBEq, Nat.reduceBneDiff, Go.Proofs.Tryz.f135, List.replicate]
  refine loopo [0, 1, 4] (fun x : Nat × List Int × Int => [(5, .one (.tok 32 (.ints .i64 x.2.1))), (6, .one (.raw (.int .i64 x.2.2))), (7, .one (.raw (.int .i64 x.1)))])
    (fun x => x.1 ≤ a.length ∧ x.2.1.length = x.1 ∧ digits x.2.1 ∧ (0 ≤ x.2.2 ∧ x.2.2 ≤ 1) ∧ num x.2.1 - 1048576 ^ x.1 * x.2.2 = num (a.take x.1) - num (b.take x.1))
    (fun x => a.length - x.1) (0, [], 0)
    ⟨Nat.zero_le _, rfl, digits.nil, by simp, by simp [num]⟩ ?_ ?_
  · refine StLe.trans (StLe.tokI 5 32 (.ints .i64 []) rfl rfl rfl) ?_
    conv => simp (maxSteps := 2000000) (disch := omega) only [go_sem, Nat.reduceAdd, Nat.reduceSub, Nat.reduceMul, Int.reduceToNat, Nat.reduceEqDiff, Nat.reduceBEq, Nat.reduceBneDiff]
    exact StLe.weaken (by repeat' first | exact .nil | refine .cons (by first | exact .refl _ | exact .any _) ?_) rfl
  rintro ⟨k, l, c⟩ ⟨hk, hl, hd, hc, hn⟩
  simp only at hk hl hd hc hn
  conv => simp (maxSteps := 2000000) (disch := omega) only [go_sem, Nat.reduceAdd, Nat.reduceSub, Nat.reduceMul, Int.reduceToNat, Nat.reduceEqDiff, Nat.reduceBEq, Nat.reduceBneDiff]
  refine condd (fun h => ?_) (fun h => ?_)
  · have hak := ha.getD k
    have hbk := hb.getD k
    conv => simp (maxSteps := 2000000) (disch := omega) only [go_sem, Nat.reduceAdd, Nat.reduceSub, Nat.reduceMul, Int.reduceToNat, Nat.reduceEqDiff, Nat.reduceBEq, Nat.reduceBneDiff]
    refine callk (rDigit b k (by omega) (by omega)) ?_
    conv => simp (maxSteps := 2000000) (disch := omega) only [go_sem, Nat.reduceAdd, Nat.reduceSub, Nat.reduceMul, Int.reduceToNat, Nat.reduceEqDiff, Nat.reduceBEq, Nat.reduceBneDiff]
    refine indk (by kernel_rfl) ?_
    conv => simp (maxSteps := 2000000) (disch := omega) only [go_sem, Nat.reduceAdd, Nat.reduceSub, Nat.reduceMul, Int.reduceToNat, Nat.reduceEqDiff, Nat.reduceBEq, Nat.reduceBneDiff]
    generalize hs : a.getD k 0 - b.getD k 0 - c = s at *
    refine joino [0, 1, 4, 5, 7] (fun _ : Unit => [(6, .one (.raw (.int .i64 (if s < 0 then 1 else 0)))), (8, .one (.raw (.int .i64 (if s < 0 then s + 1048576 else s))))]) (fun _ => True) ?_ ?_
    · conv => simp (maxSteps := 2000000) (disch := omega) only [go_sem, Nat.reduceAdd, Nat.reduceSub, Nat.reduceMul, Int.reduceToNat, Nat.reduceEqDiff, Nat.reduceBEq, Nat.reduceBneDiff]
      refine condd (fun h1 => ?_) (fun h1 => ?_)
      · conv => simp (maxSteps := 2000000) (disch := omega) only [go_sem, Nat.reduceAdd, Nat.reduceSub, Nat.reduceMul, Int.reduceToNat, Nat.reduceEqDiff, Nat.reduceBEq, Nat.reduceBneDiff]
        exact ⟨(), StLe.weaken (by repeat' first | exact .nil | refine .cons (by first | exact .refl _ | exact .any _) ?_) rfl⟩
      · conv => simp (maxSteps := 2000000) (disch := omega) only [go_sem, Nat.reduceAdd, Nat.reduceSub, Nat.reduceMul, Int.reduceToNat, Nat.reduceEqDiff, Nat.reduceBEq, Nat.reduceBneDiff]
        exact ⟨(), StLe.weaken (by repeat' first | exact .nil | refine .cons (by first | exact .refl _ | exact .any _) ?_) rfl⟩
    rintro _ _
    generalize hr : (if s < 0 then s + 1048576 else s) = r
    generalize hq : (if s < 0 then (1 : Int) else 0) = q
    have hrq : s = r - 1048576 * q ∧ 0 ≤ r ∧ r ≤ 1048575 ∧ 0 ≤ q ∧ q ≤ 1 := by
      subst hr hq
      split <;> omega
    clear hr hq
    conv => simp (maxSteps := 2000000) (disch := omega) only [go_sem, Nat.reduceAdd, Nat.reduceSub, Nat.reduceMul, Int.reduceToNat, Nat.reduceEqDiff, Nat.reduceBEq, Nat.reduceBneDiff]
    refine ⟨(k + 1, l ++ [r], q), ⟨by dsimp only; omega, by simp [hl], hd.append (digits.cons (by omega) digits.nil), by dsimp only; omega, ?_⟩, by dsimp only; omega, StLe.weaken (by repeat' first | exact .nil | refine .cons (by first | exact .refl _ | exact .any _) ?_) rfl⟩
    dsimp only
    rw [num_snoc, hl, num_take_succ, num_take_succ, Int.pow_succ]
    have h := hrq.1
    generalize (1048576 : Int) ^ k = P at *
    grind
  · have hka : k = a.length := by omega
    rw [hka, take_ge (Nat.le_refl _), take_ge hlb] at hn
    have hd0 := num_lt hd
    rw [hl, hka] at hd0
    have hc0 : c = 0 := by
      have := pow_pos' a.length
      rcases (show c = 0 ∨ c = 1 by omega) with e | e
      · exact e
      · rw [e] at hn; omega
    rw [hc0, Int.mul_zero, Int.sub_zero] at hn
    conv => simp (maxSteps := 2000000) (disch := omega) only [go_sem, Nat.reduceAdd, Nat.reduceSub, Nat.reduceMul, Int.reduceToNat, Nat.reduceEqDiff, Nat.reduceBEq, Nat.reduceBneDiff]
    refine callk (rTrim l (by omega)) ?_
    conv => simp (maxSteps := 2000000) (disch := omega) only [go_sem, Nat.reduceAdd, Nat.reduceSub, Nat.reduceMul, Int.reduceToNat, Nat.reduceEqDiff, Nat.reduceBEq, Nat.reduceBneDiff]
    exact ⟨_, rfl, by rw [trimL_eq' hd hn]; exact .one (.refl _)⟩
end Go.Slot.T

/- Contracts of package kitbagref04: times, over. -/
namespace Go.Slot.T
open Go Go.RowKit Go.Slot
open Go.Proofs.Tryz (prog)
set_option maxRecDepth 10000
set_option maxHeartbeats 4000000

theorem rTimes (a b : List Int) (ha : digits a) (hb : digits b) (la : a.length ≤ 1073741824) (lb : b.length ≤ 1073741824) :
    CallsTo prog 121 [.one (.ints .i64 a), .one (.ints .i64 b)] (.one (.ints .i64 (dig (num a * num b).toNat))) := by
  refine CallsTo.run [(9, [.join]), (12, [.frz 15])] Go.Proofs.Tryz.func121 rfl rfl ?_; conv => simp (maxSteps := 2000000) (disch := omega) only [go_sem, Nat.reduceAdd, Nat.reduceSub, Nat.reduceMul, Int.reduceToNat, Nat.reduceEqDiff, Nat.reduceBEq, Nat.reduceBneDiff, Go.Proofs.Tryz.f121, List.replicate]
  refine loopo [0, 1, 4] (fun x : Nat × List Int => [(5, .asl 15), (6, .one (.raw (.int .i64 x.1))), (15, .arr [] (.ints .i64 x.2) none)])
    (fun x => x.1 ≤ a.length ∧ x.2.length = a.length + b.length ∧ digits x.2 ∧ zeroFrom x.2 (x.1 + b.length) ∧ num x.2 = num (a.take x.1) * num b)
    (fun x => a.length - x.1) (0, List.replicate ((a.length : Int) + b.length).toNat 0)
    ⟨Nat.zero_le _, by simp; omega, digits.rep _, (zeroFrom.rep _).mono (Nat.zero_le _), by simp [num, num_rep]⟩ ?_ ?_
  · conv => simp (maxSteps := 2000000) (disch := omega) only [go_sem, Nat.reduceAdd, Nat.reduceSub, Nat.reduceMul, Int.reduceToNat, Nat.reduceEqDiff, Nat.reduceBEq, Nat.reduceBneDiff]
    exact StLe.weaken (by repeat' first | exact .nil | refine .cons (by first | exact .refl _ | exact .any _) ?_) rfl
  rintro ⟨i, o⟩ ⟨hi, ho, hdo, hz, hn⟩
  simp only at hi ho hdo hz hn
  conv => simp (maxSteps := 2000000) (disch := omega) only [go_sem, Nat.reduceAdd, Nat.reduceSub, Nat.reduceMul, Int.reduceToNat, Nat.reduceEqDiff, Nat.reduceBEq, Nat.reduceBneDiff]
  refine condd (fun h => ?_) (fun h => ?_)
  · conv => simp (maxSteps := 2000000) (disch := omega) only [go_sem, Nat.reduceAdd, Nat.reduceSub, Nat.reduceMul, Int.reduceToNat, Nat.reduceEqDiff, Nat.reduceBEq, Nat.reduceBneDiff]
    have hai := ha.getD i
    refine loopo [0, 1, 4, 5, 6] (fun x : Nat × List Int × Int => [(7, .one (.raw (.int .i64 x.2.2))), (8, .one (.raw (.int .i64 x.1))), (15, .arr [] (.ints .i64 x.2.1) none)])
      (fun x => x.1 ≤ b.length + 1 ∧ x.2.1.length = a.length + b.length ∧ digits x.2.1 ∧ zeroFrom x.2.1 (i + max x.1 b.length) ∧ (0 ≤ x.2.2 ∧ x.2.2 ≤ 1048575) ∧ (b.length < x.1 → x.2.2 = 0) ∧
        num x.2.1 + 1048576 ^ (i + x.1) * x.2.2 = num (a.take i) * num b + 1048576 ^ i * (a.getD i 0 * num (b.take x.1)))
      (fun x => b.length + 1 - x.1) (0, o, 0)
      ⟨Nat.zero_le _, ho, hdo, hz.mono (by simp), by simp, by simp, by simp [num, hn]⟩ ?_ ?_
    · conv => simp (maxSteps := 2000000) (disch := omega) only [go_sem, Nat.reduceAdd, Nat.reduceSub, Nat.reduceMul, Int.reduceToNat, Nat.reduceEqDiff, Nat.reduceBEq, Nat.reduceBneDiff]
      exact StLe.weaken (by repeat' first | exact .nil | refine .cons (by first | exact .refl _ | exact .any _) ?_) rfl
    rintro ⟨k, o', c⟩ ⟨hk, ho', hdo', hz', hc, hc0, hn'⟩
    simp only at hk ho' hdo' hz' hc hc0 hn'
    conv => simp (maxSteps := 2000000) (disch := omega) only [go_sem, Nat.reduceAdd, Nat.reduceSub, Nat.reduceMul, Int.reduceToNat, Nat.reduceEqDiff, Nat.reduceBEq, Nat.reduceBneDiff]
    refine joino [0, 1, 4, 5, 6, 7, 8, 15] (fun _ : Unit => []) (fun _ => k < b.length ∨ 0 < c) ?_ ?_
    · conv => simp (maxSteps := 2000000) (disch := omega) only [go_sem, Nat.reduceAdd, Nat.reduceSub, Nat.reduceMul, Int.reduceToNat, Nat.reduceEqDiff, Nat.reduceBEq, Nat.reduceBneDiff]
      refine guardn (fun h1 => ?_) (fun h1 => ?_)
      · conv => simp (maxSteps := 2000000) (disch := omega) only [go_sem, Nat.reduceAdd, Nat.reduceSub, Nat.reduceMul, Int.reduceToNat, Nat.reduceEqDiff, Nat.reduceBEq, Nat.reduceBneDiff, h1]
        refine condd (fun h3 => ?_) (fun h3 => ?_)
        · conv => simp (maxSteps := 2000000) (disch := omega) only [go_sem, Nat.reduceAdd, Nat.reduceSub, Nat.reduceMul, Int.reduceToNat, Nat.reduceEqDiff, Nat.reduceBEq, Nat.reduceBneDiff]
          exact ⟨(), .inr h3, StLe.weaken (by repeat' first | exact .nil | refine .cons (by first | exact .refl _ | exact .any _) ?_) rfl⟩
        · have hc1 : c = 0 := by omega
          rw [take_ge (l := b) (i := k) (by omega), hc1, Int.mul_zero, Int.add_zero] at hn'
          conv => simp (maxSteps := 2000000) (disch := omega) only [go_sem, Nat.reduceAdd, Nat.reduceSub, Nat.reduceMul, Int.reduceToNat, Nat.reduceEqDiff, Nat.reduceBEq, Nat.reduceBneDiff]
          refine ⟨(i + 1, o'), ⟨by dsimp only; omega, ho', hdo', ?_, ?_⟩, by dsimp only; omega, StLe.weaken (by repeat' first | exact .nil | refine .cons (by first | exact .refl _ | exact .any _) ?_) rfl⟩
          · dsimp only
            exact hz'.mono (by omega)
          · dsimp only
            rw [hn', num_take_succ]
            grind
      · have h1' := decide_eq_true h1
        conv => simp (maxSteps := 2000000) (disch := omega) only [go_sem, Nat.reduceAdd, Nat.reduceSub, Nat.reduceMul, Int.reduceToNat, Nat.reduceEqDiff, Nat.reduceBEq, Nat.reduceBneDiff, h1']
        exact ⟨(), .inl (by omega), StLe.weaken (by repeat' first | exact .nil | refine .cons (by first | exact .refl _ | exact .any _) ?_) rfl⟩
    rintro _ hgo
    have hkb : k ≤ b.length := by
      rcases Nat.lt_or_ge b.length k with h | h
      · have := hc0 h; omega
      · exact h
    have hbk := hb.getD k
    have hok := hdo'.getD (i + k)
    have hprod : 0 ≤ a.getD i 0 * b.getD k 0 ∧ a.getD i 0 * b.getD k 0 ≤ 1048575 * 1048575 := ⟨Int.mul_nonneg hai.1 hbk.1, Int.mul_le_mul hai.2 hbk.2 hbk.1 (by decide)⟩
    have eik : ((i : Int) + k).toNat = i + k := by omega
    have ho0 : b.length ≤ k → o'.getD (i + k) 0 = 0 ∧ b.getD k 0 = 0 := fun h => ⟨hz' _ (by omega), getD_ge h⟩
    conv => simp (maxSteps := 2000000) (disch := omega) only [go_sem, Nat.reduceAdd, Nat.reduceSub, Nat.reduceMul, Int.reduceToNat, Nat.reduceEqDiff, Nat.reduceBEq, Nat.reduceBneDiff, eik]
    refine callk (rDigit b k (by omega) (by omega)) ?_
    conv => simp (maxSteps := 2000000) (disch := omega) only [go_sem, Nat.reduceAdd, Nat.reduceSub, Nat.reduceMul, Int.reduceToNat, Nat.reduceEqDiff, Nat.reduceBEq, Nat.reduceBneDiff, eik]
    refine indk (by kernel_rfl) ?_
    conv => simp (maxSteps := 2000000) (disch := omega) only [go_sem, Nat.reduceAdd, Nat.reduceSub, Nat.reduceMul, Int.reduceToNat, Nat.reduceEqDiff, Nat.reduceBEq, Nat.reduceBneDiff, eik]
    have hc0' : b.length ≤ k → (o'.getD (i + k) 0 + a.getD i 0 * b.getD k 0 + c) / 1048576 = 0 := fun h => by
      obtain ⟨e1, e2⟩ := ho0 h
      rw [e1, e2]; omega
    generalize hs : o'.getD (i + k) 0 + a.getD i 0 * b.getD k 0 + c = s at *
    have hm : s.tmod 1048576 = s % 1048576 := Int.tmod_eq_emod_of_nonneg (by omega)
    have hq : s.tdiv 1048576 = s / 1048576 := Int.tdiv_eq_ediv_of_nonneg (by omega)
    have h2 := carry_set (o := o') (i := i + k) (by omega) s
    conv => simp (maxSteps := 2000000) (disch := omega) only [go_sem, Nat.reduceAdd, Nat.reduceSub, Nat.reduceMul, Int.reduceToNat, Nat.reduceEqDiff, Nat.reduceBEq, Nat.reduceBneDiff, hm, hq, eik]
    refine ⟨(k + 1, o'.set (i + k) (s % 1048576), s / 1048576),
      ⟨by dsimp only; omega, by simpa using ho', hdo'.set _ (by omega), ?_, by dsimp only; omega, fun h => hc0' (by dsimp only at h; omega), ?_⟩, by dsimp only; omega, ?_⟩
    · dsimp only
      rcases Nat.lt_or_ge k b.length with h | h
      · rw [show max (k + 1) b.length = max k b.length by omega]
        exact hz'.set_lt _ (by omega)
      · rw [show i + max (k + 1) b.length = i + max k b.length + 1 by omega, show i + k = i + max k b.length by omega]
        exact hz'.set _
    · dsimp only
      rw [num_take_succ, show i + (k + 1) = i + k + 1 by omega, h2, ← hs, Int.pow_add]
      rw [Int.pow_add] at hn'
      grind
    · exact StLe.weaken (by repeat' first | exact .nil | refine .cons (by first | exact .refl _ | exact .any _) ?_) rfl
  · have hia : i = a.length := by omega
    subst hia
    rw [List.take_length] at hn
    conv => simp (maxSteps := 2000000) (disch := omega) only [go_sem, Nat.reduceAdd, Nat.reduceSub, Nat.reduceMul, Int.reduceToNat, Nat.reduceEqDiff, Nat.reduceBEq, Nat.reduceBneDiff]
    refine callk (rTrim o (by omega)) ?_
    conv => simp (maxSteps := 2000000) (disch := omega) only [go_sem, Nat.reduceAdd, Nat.reduceSub, Nat.reduceMul, Int.reduceToNat, Nat.reduceEqDiff, Nat.reduceBEq, Nat.reduceBneDiff]
    exact ⟨_, rfl, by rw [trimL_eq' hdo hn]; exact .one (.refl _)⟩
theorem trimL_one {x : Int} (h : 0 ≤ x ∧ x ≤ 1048575) : trimL [x] = dig x.toNat := trimL_eq' (digits.cons h digits.nil) (by simp [num])
theorem rOver (x y : Nat) (hy : y ≠ 0) (la : (dig x).length ≤ 536870912) (lb : (dig y).length ≤ 536870912) :
    CallsTo prog 132 [.one (.ints .i64 (dig x)), .one (.ints .i64 (dig y))] (.tup [.one (.ints .i64 (dig (x / y))), .one (.ints .i64 (dig (x % y)))]) := by
  have hnx := num_dig x
  have ha := dig_digits x
  have hny := num_dig y
  have hb := dig_digits y
  generalize dig x = a at *
  refine CallsTo.run [(6, [.lit]), (16, [.frz 14])] Go.Proofs.Tryz.func132 rfl rfl ?_; conv => simp (maxSteps := 2000000) (disch := omega) only [go_sem, Nat.reduceAdd, Nat.reduceSub, Nat.reduceMul, Int.reduceToNat, Nat.reduceEqDiff, Nat.reduceBEq, Nat.reduceBneDiff, Go.Proofs.Tryz.f132, List.replicate]
  refine loopo [0, 1] (fun z : Nat × List Int × Nat => [(6, .asl 14), (7, .one (.ints .i64 (dig z.2.2))), (8, .one (.raw (.int .i64 ((z.1 : Int) - 1)))), (14, .arr [] (.ints .i64 z.2.1) none)])
    (fun z => z.1 ≤ a.length ∧ z.2.1.length = a.length ∧ digits z.2.1 ∧ z.2.2 < y ∧ num (a.drop z.1) = y * num (z.2.1.drop z.1) + z.2.2) (fun z => z.1) (a.length, List.replicate (a.length : Int).toNat 0, 0)
    ⟨Nat.le_refl _, by simp, digits.rep _, Nat.pos_of_ne_zero hy, by simp [num]⟩ ?_ ?_
  · conv => simp (maxSteps := 2000000) (disch := omega) only [go_sem, Nat.reduceAdd, Nat.reduceSub, Nat.reduceMul, Int.reduceToNat, Nat.reduceEqDiff, Nat.reduceBEq, Nat.reduceBneDiff, dig_zero]
    exact StLe.weaken (by repeat' first | exact .nil | refine .cons (by first | exact .refl _ | exact .any _ | exact .one (.nilInts _)) ?_) rfl
  rintro ⟨n, q, R⟩ ⟨hn, hq, hdq, hR, he⟩
  simp only at hn hq hdq hR he
  have hlR : (dig R).length ≤ 536870912 := Nat.le_trans (dig_len_le (by omega)) lb
  conv => simp (maxSteps := 2000000) (disch := omega) only [go_sem, Nat.reduceAdd, Nat.reduceSub, Nat.reduceMul, Int.reduceToNat, Nat.reduceEqDiff, Nat.reduceBEq, Nat.reduceBneDiff]
  refine condd (fun h => ?_) (fun h => ?_)
  · obtain ⟨i, rfl⟩ : ∃ i, n = i + 1 := ⟨n - 1, by omega⟩
    have ei : ((i + 1 : Nat) : Int) - 1 = (i : Nat) := by omega
    have hai := ha.getD i
    obtain ⟨S, hS⟩ : ∃ S : Nat, (S : Int) = a.getD i 0 + 1048576 * R := ⟨(a.getD i 0 + 1048576 * R).toNat, by omega⟩
    have hSl : trimL (a.getD i 0 :: dig R) = dig S := by
      have := trimL_eq' (L := a.getD i 0 :: dig R) (n := S) (digits.cons hai (dig_digits R)) (by simp only [num, num_dig]; omega)
      rwa [Int.toNat_natCast] at this
    have hlS : (dig S).length ≤ 536870913 := by
      rw [← hSl]
      refine Nat.le_trans (trimL_le _) ?_
      simp only [List.length_cons]; omega
    have hSy : (S : Int) < 1048576 * y := by omega
    conv => simp (maxSteps := 2000000) (disch := omega) only [go_sem, Nat.reduceAdd, Nat.reduceSub, Nat.reduceMul, Int.reduceToNat, Nat.reduceEqDiff, Nat.reduceBEq, Nat.reduceBneDiff, ei]
    refine callk (rTrim (a.getD i 0 :: dig R) (by simp only [List.length_cons]; omega)) ?_
    rw [hSl]
    conv => simp (maxSteps := 2000000) (disch := omega) only [go_sem, Nat.reduceAdd, Nat.reduceSub, Nat.reduceMul, Int.reduceToNat, Nat.reduceEqDiff, Nat.reduceBEq, Nat.reduceBneDiff, ei]
    refine loopo [0, 1, 6, 7, 8] (fun z : Int × Int => [(9, .one (.raw (.int .i64 z.1))), (10, .one (.raw (.int .i64 z.2)))])
      (fun z => 0 ≤ z.1 ∧ z.1 < z.2 ∧ z.2 ≤ 1048576 ∧ z.1 * y ≤ S ∧ S < z.2 * y) (fun z => (z.2 - z.1).toNat) (0, 1048576) ⟨by simp, by decide, by simp, by simp, by simp; omega⟩ ?_ ?_
    · conv => simp (maxSteps := 2000000) (disch := omega) only [go_sem, Nat.reduceAdd, Nat.reduceSub, Nat.reduceMul, Int.reduceToNat, Nat.reduceEqDiff, Nat.reduceBEq, Nat.reduceBneDiff]
      exact StLe.weaken (by repeat' first | exact .nil | refine .cons (by first | exact .refl _ | exact .any _) ?_) rfl
    rintro ⟨lo, hi⟩ ⟨h0, h1, h2, h3, h4⟩
    simp only at h0 h1 h2 h3 h4
    conv => simp (maxSteps := 2000000) (disch := omega) only [go_sem, Nat.reduceAdd, Nat.reduceSub, Nat.reduceMul, Int.reduceToNat, Nat.reduceEqDiff, Nat.reduceBEq, Nat.reduceBneDiff]
    refine condd (fun h5 => ?_) (fun h5 => ?_)
    · have hm2 : (lo + hi).tdiv 2 = (lo + hi) / 2 := Int.tdiv_eq_ediv_of_nonneg (by omega)
      conv => simp (maxSteps := 2000000) (disch := omega) only [go_sem, Nat.reduceAdd, Nat.reduceSub, Nat.reduceMul, Int.reduceToNat, Nat.reduceEqDiff, Nat.reduceBEq, Nat.reduceBneDiff, hm2]
      generalize hmid : (lo + hi) / 2 = mid at *
      obtain ⟨m, hm⟩ : ∃ m : Nat, (m : Int) = mid := ⟨mid.toNat, by omega⟩
      have hT : (num (dig y) * num [mid]).toNat = y * m := by rw [hny]; simp only [num]; rw [← hm, Int.mul_zero, Int.add_zero, ← Int.natCast_mul]; rfl
      have hlT : (dig (y * m)).length ≤ 1073741824 := by
        have := dig_len_mul y m
        have : (dig m).length ≤ 4 := dig_small (by omega)
        omega
      refine callk (rTimes (dig y) [mid] hb (digits.cons (by omega) digits.nil) (by omega) (by simp)) ?_
      rw [hT]
      conv => simp (maxSteps := 2000000) (disch := omega) only [go_sem, Nat.reduceAdd, Nat.reduceSub, Nat.reduceMul, Int.reduceToNat, Nat.reduceEqDiff, Nat.reduceBEq, Nat.reduceBneDiff]
      refine callk (rLess (dig S) (dig (y * m)) (dig_digits _) (dig_digits _) (by omega) (by omega)) ?_
      rw [num_dig, num_dig]
      have hym : ((y * m : Nat) : Int) = mid * y := by rw [Int.natCast_mul, hm, Int.mul_comm]
      rw [hym]
      conv => simp (maxSteps := 2000000) (disch := omega) only [go_sem, Nat.reduceAdd, Nat.reduceSub, Nat.reduceMul, Int.reduceToNat, Nat.reduceEqDiff, Nat.reduceBEq, Nat.reduceBneDiff]
      refine condd (fun h6 => ?_) (fun h6 => ?_)
      · conv => simp (maxSteps := 2000000) (disch := omega) only [go_sem, Nat.reduceAdd, Nat.reduceSub, Nat.reduceMul, Int.reduceToNat, Nat.reduceEqDiff, Nat.reduceBEq, Nat.reduceBneDiff]
        exact ⟨(lo, mid), ⟨h0, by dsimp only; omega, by dsimp only; omega, h3, h6⟩, by dsimp only; omega, StLe.weaken (by repeat' first | exact .nil | refine .cons (by first | exact .refl _ | exact .any _) ?_) rfl⟩
      · conv => simp (maxSteps := 2000000) (disch := omega) only [go_sem, Nat.reduceAdd, Nat.reduceSub, Nat.reduceMul, Int.reduceToNat, Nat.reduceEqDiff, Nat.reduceBEq, Nat.reduceBneDiff]
        exact ⟨(mid, hi), ⟨by dsimp only; omega, by dsimp only; omega, h2, by dsimp only; omega, h4⟩, by dsimp only; omega, StLe.weaken (by repeat' first | exact .nil | refine .cons (by first | exact .refl _ | exact .any _) ?_) rfl⟩
    · have hlo : hi = lo + 1 := by omega
      subst hlo
      obtain ⟨l, hl⟩ : ∃ l : Nat, (l : Int) = lo := ⟨lo.toNat, by omega⟩
      have hlo1 : lo.toNat = l := by omega
      have hT : (num (dig y) * num (dig l)).toNat = y * l := by rw [hny, num_dig, ← Int.natCast_mul]; rfl
      have hyl : ((y * l : Nat) : Int) = lo * y := by rw [Int.natCast_mul, hl, Int.mul_comm]
      have hll : (dig l).length ≤ 4 := dig_small (by omega)
      rw [Int.add_mul, Int.one_mul] at h4
      conv => simp (maxSteps := 2000000) (disch := omega) only [go_sem, Nat.reduceAdd, Nat.reduceSub, Nat.reduceMul, Int.reduceToNat, Nat.reduceEqDiff, Nat.reduceBEq, Nat.reduceBneDiff, ei]
      refine callk (rTrim [lo] (by simp)) ?_
      rw [trimL_one (by omega), hlo1]
      conv => simp (maxSteps := 2000000) (disch := omega) only [go_sem, Nat.reduceAdd, Nat.reduceSub, Nat.reduceMul, Int.reduceToNat, Nat.reduceEqDiff, Nat.reduceBEq, Nat.reduceBneDiff, ei]
      refine callk (rTimes (dig y) (dig l) hb (dig_digits _) (by omega) (by omega)) ?_
      rw [hT]
      conv => simp (maxSteps := 2000000) (disch := omega) only [go_sem, Nat.reduceAdd, Nat.reduceSub, Nat.reduceMul, Int.reduceToNat, Nat.reduceEqDiff, Nat.reduceBEq, Nat.reduceBneDiff, ei]
      refine callk (rMinus S (y * l) (by omega) (by omega)) ?_
      conv => simp (maxSteps := 2000000) (disch := omega) only [go_sem, Nat.reduceAdd, Nat.reduceSub, Nat.reduceMul, Int.reduceToNat, Nat.reduceEqDiff, Nat.reduceBEq, Nat.reduceBneDiff, ei]
      refine ⟨(i, q.set i lo, S - y * l), ⟨by dsimp only; omega, by simpa using hq, hdq.set _ (by omega), by dsimp only; omega, ?_⟩, by dsimp only; omega, StLe.weaken (by repeat' first | exact .nil | refine .cons (by first | exact .refl _ | exact .any _) ?_) rfl⟩
      dsimp only
      rw [drop_set_self _ (by omega), num_drop, he]
      simp only [num]
      rw [Int.natCast_sub (by omega), hyl, hS]
      grind
  · have h0 : n = 0 := by omega
    subst h0
    simp only [List.drop_zero] at he
    rw [hnx] at he
    have hq0 := num_nonneg hdq
    obtain ⟨Q, hQ⟩ : ∃ Q : Nat, (Q : Int) = num q := ⟨(num q).toNat, by omega⟩
    rw [← hQ] at he
    have hxx : x = y * Q + R := by rw [← Int.natCast_mul] at he; omega
    have e1 : x / y = Q := by rw [hxx, Nat.mul_add_div (by omega), Nat.div_eq_of_lt hR]; omega
    have e2 : x % y = R := by rw [hxx, Nat.mul_add_mod, Nat.mod_eq_of_lt hR]
    have e3 : trimL q = dig Q := by have := trimL_eq' hdq hQ.symm; rwa [Int.toNat_natCast] at this
    rw [e1, e2]
    conv => simp (maxSteps := 2000000) (disch := omega) only [go_sem, Nat.reduceAdd, Nat.reduceSub, Nat.reduceMul, Int.reduceToNat, Nat.reduceEqDiff, Nat.reduceBEq, Nat.reduceBneDiff]
    refine callk (rTrim q (by omega)) ?_
    rw [e3]
    conv => simp (maxSteps := 2000000) (disch := omega) only [go_sem, Nat.reduceAdd, Nat.reduceSub, Nat.reduceMul, Int.reduceToNat, Nat.reduceEqDiff, Nat.reduceBEq, Nat.reduceBneDiff]
    exact ⟨_, rfl, .tup (.cons (.refl _) (.cons (.refl _) .nil))⟩
end Go.Slot.T

/- Contracts of package kitbagref04: Right, Neg, Div, Gcd, Of. -/
namespace Go.Slot.T
open Go Go.RowKit Go.Slot
open Go.Proofs.Tryz (prog)
set_option maxRecDepth 10000
set_option maxHeartbeats 4000000

theorem rRight (s : Int) (L : List Int) (hL : L.length ≤ 1099511627776) : CallsTo prog 91 [.agg [.raw (.int .i64 s), .ints .i64 L]] (.one (.raw (.bool (decide (BigRight s L))))) := by
  obtain ⟨r, hr⟩ : ∃ r, r = decide (BigRight s L) := ⟨_, rfl⟩
  rw [← hr]
  have bad : ¬ BigRight s L → false = r := fun h => by rw [hr, decide_eq_false h]
  refine CallsTo.run [] Go.Proofs.Tryz.func91 rfl rfl ?_; conv => simp (maxSteps := 2000000) (disch := omega) only [go_sem, Nat.reduceAdd, Nat.reduceSub, Nat.reduceMul, Int.reduceToNat, Nat.reduceEqDiff, Nat.reduceBEq, Nat.reduceBneDiff, Go.Proofs.Tryz.f91, List.replicate]
  refine loopo [] (fun i : Nat => [(3, .one (.raw (.int .i64 i)))])
    (fun i => i ≤ L.length ∧ digits (L.take i)) (fun i => L.length - i) 0 ⟨Nat.zero_le _, by simp [digits]⟩ ?_ ?_
  · conv => simp (maxSteps := 2000000) (disch := omega) only [go_sem, Nat.reduceAdd, Nat.reduceSub, Nat.reduceMul, Int.reduceToNat, Nat.reduceEqDiff, Nat.reduceBEq, Nat.reduceBneDiff]
    exact StLe.weaken (by repeat' first | exact .nil | refine .cons (by first | exact .refl _ | exact .any _) ?_) rfl
  rintro i ⟨hi, hd⟩
  conv => simp (maxSteps := 2000000) (disch := omega) only [go_sem, Nat.reduceAdd, Nat.reduceSub, Nat.reduceMul, Int.reduceToNat, Nat.reduceEqDiff, Nat.reduceBEq, Nat.reduceBneDiff]
  refine condd (fun h => ?_) (fun h => ?_)
  · have hi' : i < L.length := by omega
    have hget : L.getD i 0 = L[i] := by simp [hi']
    have hmem : L[i] ∈ L := List.getElem_mem hi'
    have hbad : ¬ (0 ≤ L.getD i 0 ∧ L.getD i 0 ≤ 1048575) → false = r := fun hn => bad (fun hr => hn (by rw [hget]; exact hr.1 _ hmem))
    conv => simp (maxSteps := 2000000) (disch := omega) only [go_sem, Nat.reduceAdd, Nat.reduceSub, Nat.reduceMul, Int.reduceToNat, Nat.reduceEqDiff, Nat.reduceBEq, Nat.reduceBneDiff]
    refine guardn (fun h1 => ?_) (fun h1 => ?_)
    · conv => simp (maxSteps := 2000000) (disch := omega) only [go_sem, Nat.reduceAdd, Nat.reduceSub, Nat.reduceMul, Int.reduceToNat, Nat.reduceEqDiff, Nat.reduceBEq, Nat.reduceBneDiff, h1]
      refine condd (fun h2 => ?_) (fun h2 => ?_)
      · conv => simp (maxSteps := 2000000) (disch := omega) only [go_sem, Nat.reduceAdd, Nat.reduceSub, Nat.reduceMul, Int.reduceToNat, Nat.reduceEqDiff, Nat.reduceBEq, Nat.reduceBneDiff]
        exact ⟨_, rfl, by rw [hbad (by omega)]; exact .one (.refl _)⟩
      · conv => simp (maxSteps := 2000000) (disch := omega) only [go_sem, Nat.reduceAdd, Nat.reduceSub, Nat.reduceMul, Int.reduceToNat, Nat.reduceEqDiff, Nat.reduceBEq, Nat.reduceBneDiff]
        refine ⟨i + 1, ⟨by omega, ?_⟩, by omega, StLe.weaken (by repeat' first | exact .nil | refine .cons (by first | exact .refl _ | exact .any _) ?_) rfl⟩
        intro x hx
        rw [List.take_add_one, List.mem_append] at hx
        rcases hx with hx | hx
        · exact hd x hx
        · simp [hi'] at hx
          subst hx
          rw [← hget]; omega
    · have h1' := decide_eq_true h1
      conv => simp (maxSteps := 2000000) (disch := omega) only [go_sem, Nat.reduceAdd, Nat.reduceSub, Nat.reduceMul, Int.reduceToNat, Nat.reduceEqDiff, Nat.reduceBEq, Nat.reduceBneDiff, h1']
      exact ⟨_, rfl, by rw [hbad (by omega)]; exact .one (.refl _)⟩
  · have hi' : i = L.length := by omega
    have hdig : digits L := by rw [hi', List.take_length] at hd; exact hd
    conv => simp (maxSteps := 2000000) (disch := omega) only [go_sem, Nat.reduceAdd, Nat.reduceSub, Nat.reduceMul, Int.reduceToNat, Nat.reduceEqDiff, Nat.reduceBEq, Nat.reduceBneDiff]
    refine guardn (fun h1 => ?_) (fun h1 => ?_)
    · conv => simp (maxSteps := 2000000) (disch := omega) only [go_sem, Nat.reduceAdd, Nat.reduceSub, Nat.reduceMul, Int.reduceToNat, Nat.reduceEqDiff, Nat.reduceBEq, Nat.reduceBneDiff, h1]
      refine guardn (fun h2 => ?_) (fun h2 => ?_)
      · by_cases h3 : (L.length : Int) = 0
        · have hnil : L = [] := by have : L.length = 0 := by omega
                                   simpa using this
          have h3' := decide_eq_true h3
          by_cases h4 : s = 0
          · have h4' := decide_eq_true h4
            have e : true = r := by rw [hr, decide_eq_true (show BigRight s L from ⟨hdig, .inl ⟨hnil, h4⟩⟩)]
            conv => simp (maxSteps := 2000000) (disch := omega) only [go_sem, Nat.reduceAdd, Nat.reduceSub, Nat.reduceMul, Int.reduceToNat, Nat.reduceEqDiff, Nat.reduceBEq, Nat.reduceBneDiff, h2, h3', h4']
            exact ⟨_, rfl, by rw [e]; exact .one (.refl _)⟩
          · have h4' := decide_eq_false h4
            conv => simp (maxSteps := 2000000) (disch := omega) only [go_sem, Nat.reduceAdd, Nat.reduceSub, Nat.reduceMul, Int.reduceToNat, Nat.reduceEqDiff, Nat.reduceBEq, Nat.reduceBneDiff, h2, h3', h4']
            exact ⟨_, rfl, by rw [bad (fun hb => by rcases hb.2 with h | h; exact h4 h.2; exact h.1 hnil)]; exact .one (.refl _)⟩
        · have h3' := decide_eq_false h3
          have hne : L ≠ [] := fun e => h3 (by rw [e]; rfl)
          have hpos : 0 < L.length := List.length_pos_iff.2 hne
          by_cases h4 : s = 0
          · have h4' := decide_eq_true h4
            conv => simp (maxSteps := 2000000) (disch := omega) only [go_sem, Nat.reduceAdd, Nat.reduceSub, Nat.reduceMul, Int.reduceToNat, Nat.reduceEqDiff, Nat.reduceBEq, Nat.reduceBneDiff, h2, h3', h4']
            exact ⟨_, rfl, by rw [bad (fun hb => by rcases hb.2 with h | h; exact hne h.1; omega)]; exact .one (.refl _)⟩
          · have h4' := decide_eq_false h4
            have hlast : decide (L.getD (L.length - 1) 0 ≠ 0) = r := by
              rw [hr]
              apply decide_eq_decide.2
              simp only [BigRight]
              constructor
              · exact fun h4 => ⟨hdig, .inr ⟨hne, by omega, h4⟩⟩
              · rintro ⟨_, ⟨h4, _⟩ | ⟨_, _, h4⟩⟩
                · exact absurd h4 hne
                · exact h4
            have e : ((L.length : Int) - 1).toNat = L.length - 1 := by omega
            conv => simp (maxSteps := 2000000) (disch := omega) only [go_sem, Nat.reduceAdd, Nat.reduceSub, Nat.reduceMul, Int.reduceToNat, Nat.reduceEqDiff, Nat.reduceBEq, Nat.reduceBneDiff, h2, h3', h4', e]
            exact ⟨_, rfl, by rw [hlast]; exact .one (.refl _)⟩
      · have h2' := decide_eq_true h2
        conv => simp (maxSteps := 2000000) (disch := omega) only [go_sem, Nat.reduceAdd, Nat.reduceSub, Nat.reduceMul, Int.reduceToNat, Nat.reduceEqDiff, Nat.reduceBEq, Nat.reduceBneDiff, h2']
        exact ⟨_, rfl, by rw [bad (fun hb => by rcases hb.2 with h | h <;> omega)]; exact .one (.refl _)⟩
    · have h1' := decide_eq_true h1
      conv => simp (maxSteps := 2000000) (disch := omega) only [go_sem, Nat.reduceAdd, Nat.reduceSub, Nat.reduceMul, Int.reduceToNat, Nat.reduceEqDiff, Nat.reduceBEq, Nat.reduceBneDiff, h1']
      exact ⟨_, rfl, by rw [bad (fun hb => by rcases hb.2 with h | h <;> omega)]; exact .one (.refl _)⟩
theorem rRightZ (z : Int) (hz : okZ z) : CallsTo prog 91 [.agg [.raw (.int .i64 (sg z)), .ints .i64 (dig z.natAbs)]] (.one (.raw (.bool true))) := by
  have h := rRight (sg z) (dig z.natAbs) (by omega)
  rw [decide_eq_true (bigRight_z z)] at h
  exact h
theorem rNegZ (x : Int) (hx : okZ x) :
    CallsTo prog 124 [.agg [.raw (.int .i64 (sg x)), .ints .i64 (dig x.natAbs)]] (.agg [.raw (.int .i64 (sg (-x))), .ints .i64 (dig (-x).natAbs)]) := by
  have sx := sg_cases x
  have e : (-x).natAbs = x.natAbs := by omega
  have hs := rMadeZ (0 - sg x) (-x) (by rw [e]; omega) (by omega)
  rw [e] at hs ⊢
  refine CallsTo.run [] Go.Proofs.Tryz.func124 rfl rfl ?_; conv => simp (maxSteps := 2000000) (disch := omega) only [go_sem, Nat.reduceAdd, Nat.reduceSub, Nat.reduceMul, Int.reduceToNat, Nat.reduceEqDiff, Nat.reduceBEq, Nat.reduceBneDiff, Go.Proofs.Tryz.f124, List.replicate]
  refine callk (rRightZ x hx) ?_
  conv => simp (maxSteps := 2000000) (disch := omega) only [go_sem, Nat.reduceAdd, Nat.reduceSub, Nat.reduceMul, Int.reduceToNat, Nat.reduceEqDiff, Nat.reduceBEq, Nat.reduceBneDiff]
  refine callk hs ?_
  conv => simp (maxSteps := 2000000) (disch := omega) only [go_sem, Nat.reduceAdd, Nat.reduceSub, Nat.reduceMul, Int.reduceToNat, Nat.reduceEqDiff, Nat.reduceBEq, Nat.reduceBneDiff]
  exact ⟨_, rfl, .one (.refl _)⟩
theorem rGcdZ (x y : Int) (hx : okZ x) (hy : okZ y) :
    CallsTo prog 92 [.agg [.raw (.int .i64 (sg x)), .ints .i64 (dig x.natAbs)], .agg [.raw (.int .i64 (sg y)), .ints .i64 (dig y.natAbs)]]
      (.tup [.agg [.raw (.int .i64 (sg (Int.gcd x y : Int))), .ints .i64 (dig (Int.gcd x y : Int).natAbs)], .one (.raw (.int .i64 0))]) := by
  refine CallsTo.run [] Go.Proofs.Tryz.func92 rfl rfl ?_; conv => simp (maxSteps := 2000000) (disch := omega) only [go_sem, Nat.reduceAdd, Nat.reduceSub, Nat.reduceMul, Int.reduceToNat, Nat.reduceEqDiff, Nat.reduceBEq, Nat.reduceBneDiff, Go.Proofs.Tryz.f92, List.replicate]
  refine callk (rRightZ x hx) ?_
  conv => simp (maxSteps := 2000000) (disch := omega) only [go_sem, Nat.reduceAdd, Nat.reduceSub, Nat.reduceMul, Int.reduceToNat, Nat.reduceEqDiff, Nat.reduceBEq, Nat.reduceBneDiff]
  refine callk (rRightZ y hy) ?_
  conv => simp (maxSteps := 2000000) (disch := omega) only [go_sem, Nat.reduceAdd, Nat.reduceSub, Nat.reduceMul, Int.reduceToNat, Nat.reduceEqDiff, Nat.reduceBEq, Nat.reduceBneDiff]
  refine loopo [5] (fun p : Nat × Nat => [(6, .one (.ints .i64 (dig p.1))), (7, .one (.ints .i64 (dig p.2)))])
    (fun p => Nat.gcd p.1 p.2 = Int.gcd x y ∧ (dig p.1).length ≤ 268435456 ∧ (dig p.2).length ≤ 268435456) (fun p => p.2) (x.natAbs, y.natAbs) ⟨rfl, hx, hy⟩ ?_ ?_
  · conv => simp (maxSteps := 2000000) (disch := omega) only [go_sem, Nat.reduceAdd, Nat.reduceSub, Nat.reduceMul, Int.reduceToNat, Nat.reduceEqDiff, Nat.reduceBEq, Nat.reduceBneDiff]
    exact StLe.weaken (by repeat' first | exact .nil | refine .cons (by first | exact .refl _ | exact .any _) ?_) rfl
  rintro ⟨m, n⟩ ⟨hg, hm, hn⟩
  simp only at hg hm hn
  conv => simp (maxSteps := 2000000) (disch := omega) only [go_sem, Nat.reduceAdd, Nat.reduceSub, Nat.reduceMul, Int.reduceToNat, Nat.reduceEqDiff, Nat.reduceBEq, Nat.reduceBneDiff]
  refine condd (fun h => ?_) (fun h => ?_)
  · have hn0 : n ≠ 0 := fun e => by rw [e, dig_zero] at h; simp at h
    conv => simp (maxSteps := 2000000) (disch := omega) only [go_sem, Nat.reduceAdd, Nat.reduceSub, Nat.reduceMul, Int.reduceToNat, Nat.reduceEqDiff, Nat.reduceBEq, Nat.reduceBneDiff]
    refine callk (rOver m n hn0 (by omega) (by omega)) ?_
    conv => simp (maxSteps := 2000000) (disch := omega) only [go_sem, Nat.reduceAdd, Nat.reduceSub, Nat.reduceMul, Int.reduceToNat, Nat.reduceEqDiff, Nat.reduceBEq, Nat.reduceBneDiff]
    refine ⟨(n, m % n), ⟨?_, hn, Nat.le_trans (dig_len_le (Nat.mod_le _ _)) hm⟩, Nat.mod_lt _ (by omega), StLe.weaken (by repeat' first | exact .nil | refine .cons (by first | exact .refl _ | exact .any _) ?_) rfl⟩
    dsimp only
    rw [← hg, Nat.gcd_comm n, ← Nat.gcd_rec, Nat.gcd_comm]
  · have hn0 : n = 0 := dig_nil.1 (List.eq_nil_of_length_eq_zero (by omega))
    subst hn0
    rw [Nat.gcd_zero_right] at hg
    have e : (Int.gcd x y : Int).natAbs = m := by rw [← hg]; rfl
    have hs := rMadeZ 1 (Int.gcd x y : Int) (by rw [e]; omega) (.inl ⟨rfl, by omega⟩)
    rw [e] at hs ⊢
    conv => simp (maxSteps := 2000000) (disch := omega) only [go_sem, Nat.reduceAdd, Nat.reduceSub, Nat.reduceMul, Int.reduceToNat, Nat.reduceEqDiff, Nat.reduceBEq, Nat.reduceBneDiff]
    refine callk hs ?_
    conv => simp (maxSteps := 2000000) (disch := omega) only [go_sem, Nat.reduceAdd, Nat.reduceSub, Nat.reduceMul, Int.reduceToNat, Nat.reduceEqDiff, Nat.reduceBEq, Nat.reduceBneDiff]
    exact ⟨_, rfl, .tup (.cons (.refl _) (.cons (.refl _) .nil))⟩
theorem rDivZ (x y : Int) (hx : okZ x) (hy : okZ y) (hy0 : 0 < y) :
    CallsTo prog 133 [.agg [.raw (.int .i64 (sg x)), .ints .i64 (dig x.natAbs)], .agg [.raw (.int .i64 (sg y)), .ints .i64 (dig y.natAbs)]]
      (.tup [.agg [.raw (.int .i64 (sg (x / y))), .ints .i64 (dig (x / y).natAbs)], .agg [.raw (.int .i64 (sg (x % y))), .ints .i64 (dig (x % y).natAbs)], .one (.raw (.int .i64 0))]) := by
  have sx := sg_cases x
  have sy := sg_pos hy0
  have hn := Nat.div_add_mod x.natAbs y.natAbs
  have hr := Nat.mod_lt x.natAbs (show 0 < y.natAbs by omega)
  have hqx := Nat.div_le_self x.natAbs y.natAbs
  have hrx := Nat.mod_le x.natAbs y.natAbs
  have hlq := dig_len_le hqx
  have hlr := dig_len_le hrx
  have hcd := rOver x.natAbs y.natAbs (by omega) (by omega) (by omega)
  generalize hQ : x.natAbs / y.natAbs = Q at *
  generalize hR : x.natAbs % y.natAbs = R at *
  have hyQ : ((y.natAbs * Q : Nat) : Int) = y * Q := by rw [Int.natCast_mul]; congr 1; omega
  have eR := num_dig R
  have eQ := num_dig Q
  have ey := num_abs y
  have hlQ1 := dig_len_add Q 1
  have h1l : (dig 1).length = 1 := by rw [dig_pos (by decide), dig_zero]; rfl
  refine CallsTo.run [] Go.Proofs.Tryz.func133 rfl rfl ?_; conv => simp (maxSteps := 2000000) (disch := omega) only [go_sem, Nat.reduceAdd, Nat.reduceSub, Nat.reduceMul, Int.reduceToNat, Nat.reduceEqDiff, Nat.reduceBEq, Nat.reduceBneDiff, Go.Proofs.Tryz.f133, List.replicate]
  refine callk (rRightZ x hx) ?_
  conv => simp (maxSteps := 2000000) (disch := omega) only [go_sem, Nat.reduceAdd, Nat.reduceSub, Nat.reduceMul, Int.reduceToNat, Nat.reduceEqDiff, Nat.reduceBEq, Nat.reduceBneDiff]
  refine callk (rRightZ y hy) ?_
  conv => simp (maxSteps := 2000000) (disch := omega) only [go_sem, Nat.reduceAdd, Nat.reduceSub, Nat.reduceMul, Int.reduceToNat, Nat.reduceEqDiff, Nat.reduceBEq, Nat.reduceBneDiff]
  refine condd (fun h => absurd h (by omega)) (fun _ => ?_)
  conv => simp (maxSteps := 2000000) (disch := omega) only [go_sem, Nat.reduceAdd, Nat.reduceSub, Nat.reduceMul, Int.reduceToNat, Nat.reduceEqDiff, Nat.reduceBEq, Nat.reduceBneDiff]
  refine callk hcd ?_
  have done : ∀ (s : Int), s = sg x → (0 ≤ x ∨ R = 0) → ((s = 1 ∧ 0 ≤ x / y) ∨ (s = -1 ∧ x / y ≤ 0) ∨ x / y = 0) ∧ ((sg x = 1 ∧ 0 ≤ x % y) ∨ (sg x = -1 ∧ x % y ≤ 0) ∨ x % y = 0) ∧ (x / y).natAbs = Q ∧ (x % y).natAbs = R := fun s hs h => by
    rcases h with h | h
    · obtain ⟨k1, k2⟩ := ediv_of (x := x) (y := y) (q := (Q : Int)) (r := (R : Int)) (by omega) (by omega) (by omega)
      have hQ0 : x = 0 → Q = 0 ∧ R = 0 := fun e => by subst e; simp at hqx hrx; exact ⟨hqx, hrx⟩
      rw [k1, k2, hs]
      refine ⟨?_, ?_, by omega, by omega⟩ <;> omega
    · rcases Int.lt_or_le x 0 with h0 | h0
      · obtain ⟨k1, k2⟩ := ediv_of (x := x) (y := y) (q := -(Q : Int)) (r := 0) (by
          have : y * -(Q : Int) = -(y * Q) := by grind
          omega) (by omega) (by omega)
        rw [k1, k2, hs]
        refine ⟨?_, ?_, by omega, by omega⟩ <;> omega
      · obtain ⟨k1, k2⟩ := ediv_of (x := x) (y := y) (q := (Q : Int)) (r := (R : Int)) (by omega) (by omega) (by omega)
        have hQ0 : x = 0 → Q = 0 ∧ R = 0 := fun e => by subst e; simp at hqx hrx; exact ⟨hqx, hrx⟩
        rw [k1, k2, hs]
        refine ⟨?_, ?_, by omega, by omega⟩ <;> omega
  have plain : (0 ≤ x ∨ R = 0) → CallsTo prog 120 [.one (.raw (.int .i64 (sg x))), .one (.ints .i64 (dig Q))] (.agg [.raw (.int .i64 (sg (x / y))), .ints .i64 (dig (x / y).natAbs)]) ∧
      CallsTo prog 120 [.one (.raw (.int .i64 (sg x))), .one (.ints .i64 (dig R))] (.agg [.raw (.int .i64 (sg (x % y))), .ints .i64 (dig (x % y).natAbs)]) := fun h => by
    obtain ⟨d1, d2, m1, m2⟩ := done _ rfl h
    have hs1 := rMadeZ (sg x) (x / y) (by rw [m1]; omega) d1
    have hs2 := rMadeZ (sg x) (x % y) (by rw [m2]; omega) d2
    rw [m1] at hs1 ⊢; rw [m2] at hs2 ⊢
    exact ⟨hs1, hs2⟩
  conv => simp (maxSteps := 2000000) (disch := omega) only [go_sem, Nat.reduceAdd, Nat.reduceSub, Nat.reduceMul, Int.reduceToNat, Nat.reduceEqDiff, Nat.reduceBEq, Nat.reduceBneDiff, sy, Int.mul_one]
  refine guardn (fun h1 => ?_) (fun h1 => ?_)
  · have hx0 : x < 0 := by omega
    conv => simp (maxSteps := 2000000) (disch := omega) only [go_sem, Nat.reduceAdd, Nat.reduceSub, Nat.reduceMul, Int.reduceToNat, Nat.reduceEqDiff, Nat.reduceBEq, Nat.reduceBneDiff, h1, sy, Int.mul_one]
    refine condd (fun h2 => ?_) (fun h2 => ?_)
    · have hR0 : R = 0 := dig_nil.1 (List.eq_nil_of_length_eq_zero (by omega))
      obtain ⟨hs1, hs2⟩ := plain (.inr hR0)
      conv => simp (maxSteps := 2000000) (disch := omega) only [go_sem, Nat.reduceAdd, Nat.reduceSub, Nat.reduceMul, Int.reduceToNat, Nat.reduceEqDiff, Nat.reduceBEq, Nat.reduceBneDiff, sy, Int.mul_one]
      refine callk hs1 ?_
      conv => simp (maxSteps := 2000000) (disch := omega) only [go_sem, Nat.reduceAdd, Nat.reduceSub, Nat.reduceMul, Int.reduceToNat, Nat.reduceEqDiff, Nat.reduceBEq, Nat.reduceBneDiff]
      refine callk hs2 ?_
      conv => simp (maxSteps := 2000000) (disch := omega) only [go_sem, Nat.reduceAdd, Nat.reduceSub, Nat.reduceMul, Int.reduceToNat, Nat.reduceEqDiff, Nat.reduceBEq, Nat.reduceBneDiff]
      refine indk (by kernel_rfl) ?_
      conv => simp (maxSteps := 2000000) (disch := omega) only [go_sem, Nat.reduceAdd, Nat.reduceSub, Nat.reduceMul, Int.reduceToNat, Nat.reduceEqDiff, Nat.reduceBEq, Nat.reduceBneDiff]
      exact ⟨_, rfl, .tup (.cons (.refl _) (.cons (.refl _) (.cons (.refl _) .nil)))⟩
    · have hR0 : R ≠ 0 := fun e => by rw [e, dig_zero] at h2; simp at h2
      obtain ⟨k1, k2⟩ := ediv_of (x := x) (y := y) (q := -((Q : Int) + 1)) (r := y - R) (by
        have : y * -((Q : Int) + 1) = -(y * Q) - y := by grind
        omega) (by omega) (by omega)
      have m1 : (x / y).natAbs = Q + 1 := by rw [k1]; omega
      have m2 : (x % y).natAbs = y.natAbs - R := by rw [k2]; omega
      have m3 : (num (dig Q) + num [1]).toNat = Q + 1 := by rw [eQ]; simp [num]
      have hA := rPlus (dig Q) [1] (dig_digits _) (digits.cons (by decide) digits.nil) (by omega) (by simp)
      rw [m3, ← m1] at hA
      have hS := rMinus y.natAbs R (by omega) (by omega)
      rw [← m2] at hS
      have hs1 := rMadeZ (-1) (x / y) (by rw [m1]; omega) (by rw [k1]; omega)
      have hs2 := rMadeZ 1 (x % y) (by rw [m2]; have := dig_len_le (show y.natAbs - R ≤ y.natAbs by omega); omega) (by rw [k2]; omega)
      conv => simp (maxSteps := 2000000) (disch := omega) only [go_sem, Nat.reduceAdd, Nat.reduceSub, Nat.reduceMul, Int.reduceToNat, Nat.reduceEqDiff, Nat.reduceBEq, Nat.reduceBneDiff, sy, Int.mul_one]
      refine callk hA ?_
      conv => simp (maxSteps := 2000000) (disch := omega) only [go_sem, Nat.reduceAdd, Nat.reduceSub, Nat.reduceMul, Int.reduceToNat, Nat.reduceEqDiff, Nat.reduceBEq, Nat.reduceBneDiff]
      refine callk hs1 ?_
      conv => simp (maxSteps := 2000000) (disch := omega) only [go_sem, Nat.reduceAdd, Nat.reduceSub, Nat.reduceMul, Int.reduceToNat, Nat.reduceEqDiff, Nat.reduceBEq, Nat.reduceBneDiff, sy]
      refine callk hS ?_
      conv => simp (maxSteps := 2000000) (disch := omega) only [go_sem, Nat.reduceAdd, Nat.reduceSub, Nat.reduceMul, Int.reduceToNat, Nat.reduceEqDiff, Nat.reduceBEq, Nat.reduceBneDiff]
      refine callk hs2 ?_
      conv => simp (maxSteps := 2000000) (disch := omega) only [go_sem, Nat.reduceAdd, Nat.reduceSub, Nat.reduceMul, Int.reduceToNat, Nat.reduceEqDiff, Nat.reduceBEq, Nat.reduceBneDiff]
      refine indk (by kernel_rfl) ?_
      conv => simp (maxSteps := 2000000) (disch := omega) only [go_sem, Nat.reduceAdd, Nat.reduceSub, Nat.reduceMul, Int.reduceToNat, Nat.reduceEqDiff, Nat.reduceBEq, Nat.reduceBneDiff]
      exact ⟨_, rfl, .tup (.cons (.refl _) (.cons (.refl _) (.cons (.refl _) .nil)))⟩
  · have h1' := decide_eq_true h1
    obtain ⟨hs1, hs2⟩ := plain (.inl (by omega))
    conv => simp (maxSteps := 2000000) (disch := omega) only [go_sem, Nat.reduceAdd, Nat.reduceSub, Nat.reduceMul, Int.reduceToNat, Nat.reduceEqDiff, Nat.reduceBEq, Nat.reduceBneDiff, h1', sy, Int.mul_one]
    refine callk hs1 ?_
    conv => simp (maxSteps := 2000000) (disch := omega) only [go_sem, Nat.reduceAdd, Nat.reduceSub, Nat.reduceMul, Int.reduceToNat, Nat.reduceEqDiff, Nat.reduceBEq, Nat.reduceBneDiff]
    refine callk hs2 ?_
    conv => simp (maxSteps := 2000000) (disch := omega) only [go_sem, Nat.reduceAdd, Nat.reduceSub, Nat.reduceMul, Int.reduceToNat, Nat.reduceEqDiff, Nat.reduceBEq, Nat.reduceBneDiff]
    refine indk (by kernel_rfl) ?_
    conv => simp (maxSteps := 2000000) (disch := omega) only [go_sem, Nat.reduceAdd, Nat.reduceSub, Nat.reduceMul, Int.reduceToNat, Nat.reduceEqDiff, Nat.reduceBEq, Nat.reduceBneDiff]
    exact ⟨_, rfl, .tup (.cons (.refl _) (.cons (.refl _) (.cons (.refl _) .nil)))⟩
theorem rOf (n : Int) (hn : inI n) : CallsTo prog 93 [.one (.raw (.int .i64 n))] (.agg [.raw (.int .i64 (sg n)), .ints .i64 (dig n.natAbs)]) := by
  unfold inI at hn
  refine CallsTo.run [(6, [.join]), (11, [.join])] Go.Proofs.Tryz.func93 rfl rfl ?_; conv => simp (maxSteps := 2000000) (disch := omega) only [go_sem, Nat.reduceAdd, Nat.reduceSub, Nat.reduceMul, Int.reduceToNat, Nat.reduceEqDiff, Nat.reduceBEq, Nat.reduceBneDiff, Go.Proofs.Tryz.f93, List.replicate]
  refine condd (fun h0 => ?_) (fun h0 => ?_)
  · subst h0
    conv => simp (maxSteps := 2000000) (disch := omega) only [go_sem, Nat.reduceAdd, Nat.reduceSub, Nat.reduceMul, Int.reduceToNat, Nat.reduceEqDiff, Nat.reduceBEq, Nat.reduceBneDiff]
    exact ⟨_, rfl, by rw [show (0 : Int).natAbs = 0 from rfl, dig_zero]; exact .one (.agg (.cons (.refl _) (.cons (.zcInts _) .nil)))⟩
  conv => simp (maxSteps := 2000000) (disch := omega) only [go_sem, Nat.reduceAdd, Nat.reduceSub, Nat.reduceMul, Int.reduceToNat, Nat.reduceEqDiff, Nat.reduceBEq, Nat.reduceBneDiff]
  refine joino [0] (fun s : Int => [(3, .one (.raw (.int .i64 s)))]) (fun s => (s = 1 ∧ 0 ≤ n) ∨ (s = -1 ∧ n < 0)) ?_ ?_
  · conv => simp (maxSteps := 2000000) (disch := omega) only [go_sem, Nat.reduceAdd, Nat.reduceSub, Nat.reduceMul, Int.reduceToNat, Nat.reduceEqDiff, Nat.reduceBEq, Nat.reduceBneDiff]
    refine condd (fun h => ?_) (fun h => ?_)
    · conv => simp (maxSteps := 2000000) (disch := omega) only [go_sem, Nat.reduceAdd, Nat.reduceSub, Nat.reduceMul, Int.reduceToNat, Nat.reduceEqDiff, Nat.reduceBEq, Nat.reduceBneDiff]
      exact ⟨-1, .inr ⟨rfl, h⟩, StLe.weaken (by repeat' first | exact .nil | refine .cons (by first | exact .refl _ | exact .any _) ?_) rfl⟩
    · conv => simp (maxSteps := 2000000) (disch := omega) only [go_sem, Nat.reduceAdd, Nat.reduceSub, Nat.reduceMul, Int.reduceToNat, Nat.reduceEqDiff, Nat.reduceBEq, Nat.reduceBneDiff]
      exact ⟨1, .inl ⟨rfl, by omega⟩, StLe.weaken (by repeat' first | exact .nil | refine .cons (by first | exact .refl _ | exact .any _) ?_) rfl⟩
  rintro s hs
  have hsN : n = s * (n.natAbs : Int) := by rcases hs with ⟨rfl, h⟩ | ⟨rfl, h⟩ <;> omega
  have hN : (n.natAbs : Int) ≤ 9223372036854775808 := by omega
  have hss : s = 1 ∨ s = -1 := by rcases hs with h | h; exact .inl h.1; exact .inr h.1
  have hmod : ∀ u : Int, 0 ≤ u → (s * u).tmod 1048576 = s * (u % 1048576) ∧ (s * u).tdiv 1048576 = s * (u / 1048576) := fun u hu => by
    rcases hss with rfl | rfl
    · rw [Int.one_mul, Int.one_mul, Int.one_mul]
      exact ⟨Int.tmod_eq_emod_of_nonneg hu, Int.tdiv_eq_ediv_of_nonneg hu⟩
    · rw [Int.neg_mul, Int.neg_mul, Int.neg_mul, Int.one_mul, Int.one_mul, Int.one_mul, Int.neg_tmod, Int.neg_tdiv]
      exact ⟨by rw [Int.tmod_eq_emod_of_nonneg hu], by rw [Int.tdiv_eq_ediv_of_nonneg hu]⟩
  conv => simp (maxSteps := 2000000) (disch := omega) only [go_sem, Nat.reduceAdd, Nat.reduceSub, Nat.reduceMul, Int.reduceToNat, Nat.reduceEqDiff, Nat.reduceBEq, Nat.reduceBneDiff]
  refine loopo [3] (fun x : Nat × List Int × Int => [(0, .one (.raw (.int .i64 (s * x.2.2)))), (4, .one (.tok 22 (.ints .i64 x.2.1)))])
    (fun x => x.2.1.length = x.1 ∧ x.1 ≤ 4 ∧ digits x.2.1 ∧ 0 ≤ x.2.2 ∧ num x.2.1 + 1048576 ^ x.1 * x.2.2 = n.natAbs) (fun x => x.2.2.toNat) (0, [], n.natAbs)
    ⟨rfl, Nat.zero_le _, digits.nil, by simp, by simp [num]⟩ ?_ ?_
  · refine StLe.trans (StLe.tokI 4 22 (.ints .i64 []) rfl rfl rfl) ?_
    conv => simp (maxSteps := 2000000) (disch := omega) only [go_sem, Nat.reduceAdd, Nat.reduceSub, Nat.reduceMul, Int.reduceToNat, Nat.reduceEqDiff, Nat.reduceBEq, Nat.reduceBneDiff]
    rw [← hsN]
    exact StLe.weaken (by repeat' first | exact .nil | refine .cons (by first | exact .refl _ | exact .any _) ?_) rfl
  rintro ⟨k, l, u⟩ ⟨hl, hk, hd, hu, he⟩
  simp only at hl hk hd hu he
  have hl0 := num_nonneg hd
  have hp := pow_pos' k
  have huN : u ≤ n.natAbs := by
    have := Int.mul_le_mul_of_nonneg_right (show (1 : Int) ≤ 1048576 ^ k by omega) hu
    omega
  conv => simp (maxSteps := 2000000) (disch := omega) only [go_sem, Nat.reduceAdd, Nat.reduceSub, Nat.reduceMul, Int.reduceToNat, Nat.reduceEqDiff, Nat.reduceBEq, Nat.reduceBneDiff]
  refine condd (fun h => ?_) (fun h => ?_)
  · have hu0 : u ≠ 0 := fun e => h (by rw [e, Int.mul_zero])
    have hk3 : k ≤ 3 := by
      rcases Nat.lt_or_ge k 4 with h4 | h4
      · omega
      · have h1 := pow_mono' h4
        have h2 := Int.mul_le_mul_of_nonneg_left (show (1 : Int) ≤ u by omega) (Int.le_of_lt hp)
        have h3 : (1048576 : Int) ^ 4 = 1208925819614629174706176 := by decide
        omega
    obtain ⟨e1, e2⟩ := hmod u hu
    have hm : 0 ≤ u % 1048576 ∧ u % 1048576 ≤ 1048575 := by omega
    have hq : 0 ≤ u / 1048576 ∧ u / 1048576 ≤ 9223372036854775807 := by omega
    have hsm : -9223372036854775808 ≤ s * (u / 1048576) ∧ s * (u / 1048576) ≤ 9223372036854775807 := by rcases hss with rfl | rfl <;> omega
    have hsr : -1048575 ≤ s * (u % 1048576) ∧ s * (u % 1048576) ≤ 1048575 := by rcases hss with rfl | rfl <;> omega
    conv => simp (maxSteps := 2000000) (disch := omega) only [go_sem, Nat.reduceAdd, Nat.reduceSub, Nat.reduceMul, Int.reduceToNat, Nat.reduceEqDiff, Nat.reduceBEq, Nat.reduceBneDiff, e1]
    refine joino [0, 3, 4] (fun _ : Unit => [(5, .one (.raw (.int .i64 (u % 1048576))))]) (fun _ => True) ?_ ?_
    · conv => simp (maxSteps := 2000000) (disch := omega) only [go_sem, Nat.reduceAdd, Nat.reduceSub, Nat.reduceMul, Int.reduceToNat, Nat.reduceEqDiff, Nat.reduceBEq, Nat.reduceBneDiff]
      refine condd (fun h2 => ?_) (fun h2 => ?_)
      · conv => simp (maxSteps := 2000000) (disch := omega) only [go_sem, Nat.reduceAdd, Nat.reduceSub, Nat.reduceMul, Int.reduceToNat, Nat.reduceEqDiff, Nat.reduceBEq, Nat.reduceBneDiff]
        rw [show 0 - s * (u % 1048576) = u % 1048576 by rcases hss with rfl | rfl <;> omega]
        exact ⟨(), StLe.weaken (by repeat' first | exact .nil | refine .cons (by first | exact .refl _ | exact .any _) ?_) rfl⟩
      · conv => simp (maxSteps := 2000000) (disch := omega) only [go_sem, Nat.reduceAdd, Nat.reduceSub, Nat.reduceMul, Int.reduceToNat, Nat.reduceEqDiff, Nat.reduceBEq, Nat.reduceBneDiff]
        rw [show s * (u % 1048576) = u % 1048576 by rcases hss with rfl | rfl <;> omega]
        exact ⟨(), StLe.weaken (by repeat' first | exact .nil | refine .cons (by first | exact .refl _ | exact .any _) ?_) rfl⟩
    rintro _ _
    conv => simp (maxSteps := 2000000) (disch := omega) only [go_sem, Nat.reduceAdd, Nat.reduceSub, Nat.reduceMul, Int.reduceToNat, Nat.reduceEqDiff, Nat.reduceBEq, Nat.reduceBneDiff, e2]
    refine ⟨(k + 1, l ++ [u % 1048576], u / 1048576), ⟨by simp [hl], by dsimp only; omega, hd.append (digits.cons (by omega) digits.nil), by dsimp only; omega, ?_⟩, by dsimp only; omega, StLe.weaken (by repeat' first | exact .nil | refine .cons (by first | exact .refl _ | exact .any _) ?_) rfl⟩
    dsimp only
    rw [num_snoc, hl, Int.pow_succ]
    have h := Int.emod_add_mul_ediv u 1048576
    generalize (1048576 : Int) ^ k = P at *
    generalize u % 1048576 = r at *
    generalize u / 1048576 = q at *
    grind
  · have hu0 : u = 0 := by rcases hss with rfl | rfl <;> omega
    rw [hu0, Int.mul_zero, Int.add_zero] at he
    have e := trimL_eq' hd he
    rw [Int.toNat_natCast] at e
    have hsg := rMade s l (by omega)
    unfold bigC at hsg
    rw [e, ← trimL_dig, zC_of (by omega)] at hsg
    unfold zC at hsg
    conv => simp (maxSteps := 2000000) (disch := omega) only [go_sem, Nat.reduceAdd, Nat.reduceSub, Nat.reduceMul, Int.reduceToNat, Nat.reduceEqDiff, Nat.reduceBEq, Nat.reduceBneDiff]
    refine callk hsg ?_
    conv => simp (maxSteps := 2000000) (disch := omega) only [go_sem, Nat.reduceAdd, Nat.reduceSub, Nat.reduceMul, Int.reduceToNat, Nat.reduceEqDiff, Nat.reduceBEq, Nat.reduceBneDiff]
    exact ⟨_, rfl, .one (.refl _)⟩
end Go.Slot.T

/- Contracts of the small references: kitbagref05 (New, Int, Same, Few), kitbagref10, kitbagref46 (Few, Same). -/
namespace Go.Slot.T
open Go Go.RowKit Go.Slot
open Go.Proofs.Tryz (prog)
set_option maxRecDepth 10000
set_option maxHeartbeats 4000000

theorem rNewQ (z : Int) (d : Nat) (hz : okZ z) (hd : d ≠ 0) (hl : (dig d).length ≤ 268435456) :
    CallsTo prog 95 [.agg [.raw (.int .i64 (sg z)), .ints .i64 (dig z.natAbs)], .agg [.raw (.int .i64 1), .ints .i64 (dig d)]]
      (.tup [.agg (Fc.of (mkRat z d)).C, .one (.raw (.int .i64 0))]) := by
  obtain ⟨p1, p2, p3⟩ := mkRat_parts z hd
  have hden := sg_den (mkRat z d)
  rw [p2] at hden
  have hden2 : (mkRat z d).den = ((d : Int) / (Int.gcd z d : Int)).natAbs := by omega
  have hgl : okZ (Int.gcd z d : Int) := by
    have : (Int.gcd z d : Int).natAbs ≤ d := by
      have : Int.gcd z d ∣ d := by have := Int.gcd_dvd_natAbs_right z d; simpa using this
      exact Nat.le_of_dvd (Nat.pos_of_ne_zero hd) this
    exact Nat.le_trans (dig_len_le this) hl
  have hr := rRightZ (d : Int) hl
  have hg := rGcdZ z d hz hl
  have hd1 := rDivZ z (Int.gcd z d : Int) hz hgl p3
  have hd2 := rDivZ d (Int.gcd z d : Int) hl hgl p3
  rw [sg_nat hd] at hr hg hd2
  rw [hden] at hd2
  rw [show ((d : Nat) : Int).natAbs = d from rfl] at hr hg hd2
  have hfin : (Fc.of (mkRat z d)).C = [.raw (.int .i64 (sg (z / (Int.gcd z d : Int)))), .ints .i64 (dig (z / (Int.gcd z d : Int)).natAbs), .raw (.int .i64 1), .ints .i64 (dig ((d : Int) / (Int.gcd z d : Int)).natAbs)] := by
    rw [← p1, ← hden2]; rfl
  rw [hfin]
  generalize (Int.gcd z d : Int) = g at *
  refine CallsTo.run [] Go.Proofs.Tryz.func95 rfl rfl ?_; conv => simp (maxSteps := 2000000) (disch := omega) only [go_sem, Nat.reduceAdd, Nat.reduceSub, Nat.reduceMul, Int.reduceToNat, Nat.reduceEqDiff, Nat.reduceBEq, Nat.reduceBneDiff, Go.Proofs.Tryz.f95, List.replicate]
  refine callk (rRightZ z hz) ?_
  conv => simp (maxSteps := 2000000) (disch := omega) only [go_sem, Nat.reduceAdd, Nat.reduceSub, Nat.reduceMul, Int.reduceToNat, Nat.reduceEqDiff, Nat.reduceBEq, Nat.reduceBneDiff]
  refine callk hr ?_
  conv => simp (maxSteps := 2000000) (disch := omega) only [go_sem, Nat.reduceAdd, Nat.reduceSub, Nat.reduceMul, Int.reduceToNat, Nat.reduceEqDiff, Nat.reduceBEq, Nat.reduceBneDiff]
  refine condd (fun h => absurd h (by decide)) (fun _ => ?_)
  conv => simp (maxSteps := 2000000) (disch := omega) only [go_sem, Nat.reduceAdd, Nat.reduceSub, Nat.reduceMul, Int.reduceToNat, Nat.reduceEqDiff, Nat.reduceBEq, Nat.reduceBneDiff]
  refine condd (fun h => absurd h (by decide)) (fun _ => ?_)
  conv => simp (maxSteps := 2000000) (disch := omega) only [go_sem, Nat.reduceAdd, Nat.reduceSub, Nat.reduceMul, Int.reduceToNat, Nat.reduceEqDiff, Nat.reduceBEq, Nat.reduceBneDiff]
  refine callk hg ?_
  conv => simp (maxSteps := 2000000) (disch := omega) only [go_sem, Nat.reduceAdd, Nat.reduceSub, Nat.reduceMul, Int.reduceToNat, Nat.reduceEqDiff, Nat.reduceBEq, Nat.reduceBneDiff]
  refine callk hd1 ?_
  conv => simp (maxSteps := 2000000) (disch := omega) only [go_sem, Nat.reduceAdd, Nat.reduceSub, Nat.reduceMul, Int.reduceToNat, Nat.reduceEqDiff, Nat.reduceBEq, Nat.reduceBneDiff]
  refine callk hd2 ?_
  conv => simp (maxSteps := 2000000) (disch := omega) only [go_sem, Nat.reduceAdd, Nat.reduceSub, Nat.reduceMul, Int.reduceToNat, Nat.reduceEqDiff, Nat.reduceBEq, Nat.reduceBneDiff]
  exact ⟨_, rfl, .tup (.cons (.refl _) (.cons (.refl _) .nil))⟩
theorem mkRat_one (n : Int) : mkRat n 1 = (n : Rat) := by
  refine Rat.ext ?_ ?_
  · rw [Rat.num_mkRat, if_neg (by decide)]; simp
  · rw [Rat.den_mkRat, if_neg (by decide)]; simp
theorem inI_ok {n : Int} (h : inI n) : okZ n := by
  have : (dig n.natAbs).length ≤ 4 := dig_small (by unfold inI at h; omega)
  unfold okZ; omega
theorem rIntF (n : Int) (hn : inI n) : CallsTo prog 21 [.one (.raw (.int .i64 n))] (.agg (Fc.of (n : Rat)).C) := by
  have h1 := rOf 1 (by decide)
  rw [show sg 1 = 1 from rfl] at h1
  have hN := rNewQ n 1 (inI_ok hn) (by decide) (by have := dig_small (n := 1) (by decide); omega)
  rw [mkRat_one] at hN
  have hof : CallsTo prog 57 [.one (.raw (.int .i64 n)), .one (.raw (.int .i64 1))] (.tup [.agg (Fc.of (n : Rat)).C, .one (.raw (.int .i64 0))]) := by
    refine CallsTo.run [] Go.Proofs.Tryz.func57 rfl rfl ?_; conv => simp (maxSteps := 2000000) (disch := omega) only [go_sem, Nat.reduceAdd, Nat.reduceSub, Nat.reduceMul, Int.reduceToNat, Nat.reduceEqDiff, Nat.reduceBEq, Nat.reduceBneDiff, Go.Proofs.Tryz.f57, List.replicate]
    refine callk (rOf n hn) ?_
    conv => simp (maxSteps := 2000000) (disch := omega) only [go_sem, Nat.reduceAdd, Nat.reduceSub, Nat.reduceMul, Int.reduceToNat, Nat.reduceEqDiff, Nat.reduceBEq, Nat.reduceBneDiff]
    refine callk h1 ?_
    conv => simp (maxSteps := 2000000) (disch := omega) only [go_sem, Nat.reduceAdd, Nat.reduceSub, Nat.reduceMul, Int.reduceToNat, Nat.reduceEqDiff, Nat.reduceBEq, Nat.reduceBneDiff]
    refine callk hN ?_
    conv => simp (maxSteps := 2000000) (disch := omega) only [go_sem, Nat.reduceAdd, Nat.reduceSub, Nat.reduceMul, Int.reduceToNat, Nat.reduceEqDiff, Nat.reduceBEq, Nat.reduceBneDiff]
    exact ⟨_, rfl, .tup (.cons (.refl _) (.cons (.refl _) .nil))⟩
  refine CallsTo.run [] Go.Proofs.Tryz.func21 rfl rfl ?_; conv => simp (maxSteps := 2000000) (disch := omega) only [go_sem, Nat.reduceAdd, Nat.reduceSub, Nat.reduceMul, Int.reduceToNat, Nat.reduceEqDiff, Nat.reduceBEq, Nat.reduceBneDiff, Go.Proofs.Tryz.f21, List.replicate]
  refine callk hof ?_
  conv => simp (maxSteps := 2000000) (disch := omega) only [go_sem, Nat.reduceAdd, Nat.reduceSub, Nat.reduceMul, Int.reduceToNat, Nat.reduceEqDiff, Nat.reduceBEq, Nat.reduceBneDiff]
  exact ⟨_, rfl, .one (.refl _)⟩
theorem rFew (f : Fc) (n : Int) (_h1 : f.L.length ≤ 1099511627776) (_h2 : f.M.length ≤ 1099511627776) :
    CallsTo prog 7 [.agg f.C, .one (.raw (.int .i64 n))] (.one (.raw (.bool (decide ((f.sz : Int) ≤ n))))) := by
  have e : ((f.sz : Nat) : Int) = max (f.L.length : Int) f.M.length := by unfold Fc.sz; omega
  refine CallsTo.run [] Go.Proofs.Tryz.func7 rfl rfl ?_; conv => simp (maxSteps := 2000000) (disch := omega) only [go_sem, Nat.reduceAdd, Nat.reduceSub, Nat.reduceMul, Int.reduceToNat, Nat.reduceEqDiff, Nat.reduceBEq, Nat.reduceBneDiff, Go.Proofs.Tryz.f7, List.replicate]
  refine guardd (fun h => ?_) (fun h => ?_)
  · have h' := decide_eq_true h
    conv => simp (maxSteps := 2000000) (disch := omega) only [go_sem, Nat.reduceAdd, Nat.reduceSub, Nat.reduceMul, Int.reduceToNat, Nat.reduceEqDiff, Nat.reduceBEq, Nat.reduceBneDiff, h']
    exact ⟨_, rfl, by rw [show decide ((f.sz : Int) ≤ n) = decide ((f.M.length : Int) ≤ n) from decide_eq_decide.2 (by omega)]; exact .one (.refl _)⟩
  · have h' := decide_eq_false h
    conv => simp (maxSteps := 2000000) (disch := omega) only [go_sem, Nat.reduceAdd, Nat.reduceSub, Nat.reduceMul, Int.reduceToNat, Nat.reduceEqDiff, Nat.reduceBEq, Nat.reduceBneDiff, h']
    exact ⟨_, rfl, by rw [decide_eq_false (by omega)]; exact .one (.refl _)⟩
theorem rFew4 (f : Fc) (h1 : f.L.length ≤ 1099511627776) (h2 : f.M.length ≤ 1099511627776) :
    CallsTo prog 7 [.agg f.C, .one (.raw (.int .i64 4))] (.one (.raw (.bool (decide (f.sz ≤ 4))))) := by
  have := rFew f 4 h1 h2
  rwa [decide_eq_decide.2 (show (f.sz : Int) ≤ 4 ↔ f.sz ≤ 4 by omega)] at this
theorem rSameBig (s : Int) (L : List Int) (s' : Int) (M : List Int) (lL : L.length ≤ 1073741824) (_lM : M.length ≤ 1073741824) :
    CallsTo prog 43 [.agg [.raw (.int .i64 s), .ints .i64 L], .agg [.raw (.int .i64 s'), .ints .i64 M]] (.one (.raw (.bool (decide (s = s' ∧ L = M))))) := by
  obtain ⟨r, hr⟩ : ∃ r, r = decide (s = s' ∧ L = M) := ⟨_, rfl⟩
  rw [← hr]
  have bad : ¬ (s = s' ∧ L = M) → false = r := fun h => by rw [hr, decide_eq_false h]
  by_cases h1 : s = s'
  · subst h1
    by_cases h2 : (L.length : Int) = M.length
    · have hl : L.length = M.length := by omega
      have h2' : ¬ ((L.length : Int) ≠ M.length) := fun h => h h2
      refine CallsTo.run [] Go.Proofs.Tryz.func43 rfl rfl ?_; conv => simp (maxSteps := 2000000) (disch := omega) only [go_sem, Nat.reduceAdd, Nat.reduceSub, Nat.reduceMul, Int.reduceToNat, Nat.reduceEqDiff, Nat.reduceBEq, Nat.reduceBneDiff, Go.Proofs.Tryz.f43, List.replicate]
      refine condd (fun h => absurd h h2') (fun _ => ?_)
      conv => simp (maxSteps := 2000000) (disch := omega) only [go_sem, Nat.reduceAdd, Nat.reduceSub, Nat.reduceMul, Int.reduceToNat, Nat.reduceEqDiff, Nat.reduceBEq, Nat.reduceBneDiff]
      refine loopo [] (fun i : Nat => [(5, .one (.raw (.int .i64 i)))]) (fun i => i ≤ L.length ∧ L.take i = M.take i) (fun i => L.length - i) 0 ⟨Nat.zero_le _, rfl⟩ ?_ ?_
      · conv => simp (maxSteps := 2000000) (disch := omega) only [go_sem, Nat.reduceAdd, Nat.reduceSub, Nat.reduceMul, Int.reduceToNat, Nat.reduceEqDiff, Nat.reduceBEq, Nat.reduceBneDiff]
        exact StLe.weaken (by repeat' first | exact .nil | refine .cons (by first | exact .refl _ | exact .any _) ?_) rfl
      rintro i ⟨hi, he⟩
      conv => simp (maxSteps := 2000000) (disch := omega) only [go_sem, Nat.reduceAdd, Nat.reduceSub, Nat.reduceMul, Int.reduceToNat, Nat.reduceEqDiff, Nat.reduceBEq, Nat.reduceBneDiff]
      refine condd (fun h1 => ?_) (fun h1 => ?_)
      · have hg : ∀ (l : List Int), i < l.length → l.take (i + 1) = l.take i ++ [l.getD i 0] := fun l h => take_snoc 0 h
        conv => simp (maxSteps := 2000000) (disch := omega) only [go_sem, Nat.reduceAdd, Nat.reduceSub, Nat.reduceMul, Int.reduceToNat, Nat.reduceEqDiff, Nat.reduceBEq, Nat.reduceBneDiff]
        refine indk (by kernel_rfl) ?_
        conv => simp (maxSteps := 2000000) (disch := omega) only [go_sem, Nat.reduceAdd, Nat.reduceSub, Nat.reduceMul, Int.reduceToNat, Nat.reduceEqDiff, Nat.reduceBEq, Nat.reduceBneDiff]
        refine condd (fun h2 => ?_) (fun h2 => ?_)
        · conv => simp (maxSteps := 2000000) (disch := omega) only [go_sem, Nat.reduceAdd, Nat.reduceSub, Nat.reduceMul, Int.reduceToNat, Nat.reduceEqDiff, Nat.reduceBEq, Nat.reduceBneDiff]
          exact ⟨_, rfl, by rw [bad (fun e => h2 (by rw [e.2]))]; exact .one (.refl _)⟩
        · have h2 : L.getD i 0 = M.getD i 0 := by omega
          conv => simp (maxSteps := 2000000) (disch := omega) only [go_sem, Nat.reduceAdd, Nat.reduceSub, Nat.reduceMul, Int.reduceToNat, Nat.reduceEqDiff, Nat.reduceBEq, Nat.reduceBneDiff]
          refine ⟨i + 1, ⟨by omega, ?_⟩, by omega, StLe.weaken (by repeat' first | exact .nil | refine .cons (by first | exact .refl _ | exact .any _) ?_) rfl⟩
          rw [hg L (by omega), hg M (by omega), he, h2]
      · have hi : i = L.length := by omega
        subst hi
        rw [List.take_length, hl, List.take_length] at he
        have e : true = r := by rw [hr, decide_eq_true ⟨rfl, he⟩]
        conv => simp (maxSteps := 2000000) (disch := omega) only [go_sem, Nat.reduceAdd, Nat.reduceSub, Nat.reduceMul, Int.reduceToNat, Nat.reduceEqDiff, Nat.reduceBEq, Nat.reduceBneDiff]
        exact ⟨_, rfl, by rw [e]; exact .one (.refl _)⟩
    · have h2 : (L.length : Int) ≠ M.length := h2
      refine CallsTo.run [] Go.Proofs.Tryz.func43 rfl rfl ?_; conv => simp (maxSteps := 2000000) (disch := omega) only [go_sem, Nat.reduceAdd, Nat.reduceSub, Nat.reduceMul, Int.reduceToNat, Nat.reduceEqDiff, Nat.reduceBEq, Nat.reduceBneDiff, Go.Proofs.Tryz.f43, List.replicate]
      refine condd (fun _ => ?_) (fun h => absurd h2 h)
      conv => simp (maxSteps := 2000000) (disch := omega) only [go_sem, Nat.reduceAdd, Nat.reduceSub, Nat.reduceMul, Int.reduceToNat, Nat.reduceEqDiff, Nat.reduceBEq, Nat.reduceBneDiff]
      exact ⟨_, rfl, by rw [bad (fun e => h2 (by rw [e.2]))]; exact .one (.refl _)⟩
  · have h1' := decide_eq_true (show s ≠ s' from h1)
    refine CallsTo.run [] Go.Proofs.Tryz.func43 rfl rfl ?_; conv => simp (maxSteps := 2000000) (disch := omega) only [go_sem, Nat.reduceAdd, Nat.reduceSub, Nat.reduceMul, Int.reduceToNat, Nat.reduceEqDiff, Nat.reduceBEq, Nat.reduceBneDiff, Go.Proofs.Tryz.f43, List.replicate]
    refine guardn (fun h => absurd h1 h) (fun h => ?_)
    conv => simp (maxSteps := 2000000) (disch := omega) only [go_sem, Nat.reduceAdd, Nat.reduceSub, Nat.reduceMul, Int.reduceToNat, Nat.reduceEqDiff, Nat.reduceBEq, Nat.reduceBneDiff, h1']
    exact ⟨_, rfl, by rw [bad (fun e => h1 e.1)]; exact .one (.refl _)⟩
theorem rSameF (a b : Fc) (ha : a.sz ≤ 67108864) (hb : b.sz ≤ 67108864) : CallsTo prog 16 [.agg a.C, .agg b.C] (.one (.raw (.bool (decide (a = b))))) := by
  have la := szL ha
  have lb := szL hb
  obtain ⟨r, hr⟩ : ∃ r, r = decide (a = b) := ⟨_, rfl⟩
  rw [← hr]
  by_cases h : a.s = b.s ∧ a.L = b.L
  · have h1 := rSameBig a.s a.L b.s b.L (by omega) (by omega)
    rw [decide_eq_true h] at h1
    have h2 := rSameBig a.t a.M b.t b.M (by omega) (by omega)
    have e : decide (a.t = b.t ∧ a.M = b.M) = r := by
      rw [hr]
      apply decide_eq_decide.2
      constructor
      · intro h'; cases a; cases b; simp at h h'; simp [h, h']
      · intro h'; rw [h']; exact ⟨rfl, rfl⟩
    rw [e] at h2
    refine CallsTo.run [] Go.Proofs.Tryz.func16 rfl rfl ?_; conv => simp (maxSteps := 2000000) (disch := omega) only [go_sem, Nat.reduceAdd, Nat.reduceSub, Nat.reduceMul, Int.reduceToNat, Nat.reduceEqDiff, Nat.reduceBEq, Nat.reduceBneDiff, Go.Proofs.Tryz.f16, List.replicate]
    refine callk h1 ?_
    conv => simp (maxSteps := 2000000) (disch := omega) only [go_sem, Nat.reduceAdd, Nat.reduceSub, Nat.reduceMul, Int.reduceToNat, Nat.reduceEqDiff, Nat.reduceBEq, Nat.reduceBneDiff]
    refine callk h2 ?_
    conv => simp (maxSteps := 2000000) (disch := omega) only [go_sem, Nat.reduceAdd, Nat.reduceSub, Nat.reduceMul, Int.reduceToNat, Nat.reduceEqDiff, Nat.reduceBEq, Nat.reduceBneDiff]
    exact ⟨_, rfl, .one (.refl _)⟩
  · have h1 := rSameBig a.s a.L b.s b.L (by omega) (by omega)
    rw [decide_eq_false h] at h1
    have e : r = false := by rw [hr, decide_eq_false (fun e => h (by rw [e]; exact ⟨rfl, rfl⟩))]
    subst e
    refine CallsTo.run [] Go.Proofs.Tryz.func16 rfl rfl ?_; conv => simp (maxSteps := 2000000) (disch := omega) only [go_sem, Nat.reduceAdd, Nat.reduceSub, Nat.reduceMul, Int.reduceToNat, Nat.reduceEqDiff, Nat.reduceBEq, Nat.reduceBneDiff, Go.Proofs.Tryz.f16, List.replicate]
    refine callk h1 ?_
    conv => simp (maxSteps := 2000000) (disch := omega) only [go_sem, Nat.reduceAdd, Nat.reduceSub, Nat.reduceMul, Int.reduceToNat, Nat.reduceEqDiff, Nat.reduceBEq, Nat.reduceBneDiff]
    exact ⟨_, rfl, .one (.refl _)⟩
theorem r10Same (a b : Sc) (ha : a.sz ≤ 67108864) (hb : b.sz ≤ 67108864) : CallsTo prog 15 [.agg a.C, .agg b.C] (.one (.raw (.bool (decide (a = b))))) := by
  have ⟨h1, h2⟩ := Sc.low_sz ha
  have ⟨h3, h4⟩ := Sc.low_sz hb
  have c1 := rSameF a.low b.low h1 h3
  have c2 := rSameF a.high b.high h2 h4
  by_cases h : a.low = b.low
  · rw [decide_eq_true h] at c1
    rw [show decide (a = b) = decide (a.high = b.high) from decide_eq_decide.2 ⟨fun e => by rw [e], fun e => by cases a; cases b; simp at h e; rw [h, e]⟩]
    refine CallsTo.run [] Go.Proofs.Tryz.func15 rfl rfl ?_; conv => simp (maxSteps := 2000000) (disch := omega) only [go_sem, Nat.reduceAdd, Nat.reduceSub, Nat.reduceMul, Int.reduceToNat, Nat.reduceEqDiff, Nat.reduceBEq, Nat.reduceBneDiff, Go.Proofs.Tryz.f15, List.replicate]
    refine callk c1 ?_
    conv => simp (maxSteps := 2000000) (disch := omega) only [go_sem, Nat.reduceAdd, Nat.reduceSub, Nat.reduceMul, Int.reduceToNat, Nat.reduceEqDiff, Nat.reduceBEq, Nat.reduceBneDiff]
    refine callk c2 ?_
    conv => simp (maxSteps := 2000000) (disch := omega) only [go_sem, Nat.reduceAdd, Nat.reduceSub, Nat.reduceMul, Int.reduceToNat, Nat.reduceEqDiff, Nat.reduceBEq, Nat.reduceBneDiff]
    exact ⟨_, rfl, .one (.refl _)⟩
  · rw [decide_eq_false h] at c1
    rw [decide_eq_false (fun e => h (by rw [e]))]
    refine CallsTo.run [] Go.Proofs.Tryz.func15 rfl rfl ?_; conv => simp (maxSteps := 2000000) (disch := omega) only [go_sem, Nat.reduceAdd, Nat.reduceSub, Nat.reduceMul, Int.reduceToNat, Nat.reduceEqDiff, Nat.reduceBEq, Nat.reduceBneDiff, Go.Proofs.Tryz.f15, List.replicate]
    refine callk c1 ?_
    conv => simp (maxSteps := 2000000) (disch := omega) only [go_sem, Nat.reduceAdd, Nat.reduceSub, Nat.reduceMul, Int.reduceToNat, Nat.reduceEqDiff, Nat.reduceBEq, Nat.reduceBneDiff]
    exact ⟨_, rfl, .one (.refl _)⟩
theorem r10Few (s : Sc) (h : s.sz ≤ 67108864) : CallsTo prog 28 [.agg s.C, .one (.raw (.int .i64 4))] (.one (.raw (.bool (decide (s.sz ≤ 4))))) := by
  have ⟨h1, h2⟩ := Sc.low_sz h
  have l1 := szL h1
  have l2 := szL h2
  have c1 := rFew4 s.low (by omega) (by omega)
  have c2 := rFew4 s.high (by omega) (by omega)
  have e : s.sz = max s.low.sz s.high.sz := rfl
  by_cases h : s.low.sz ≤ 4
  · rw [decide_eq_true h] at c1
    rw [show decide (s.sz ≤ 4) = decide (s.high.sz ≤ 4) from decide_eq_decide.2 (by omega)]
    refine CallsTo.run [] Go.Proofs.Tryz.func28 rfl rfl ?_; conv => simp (maxSteps := 2000000) (disch := omega) only [go_sem, Nat.reduceAdd, Nat.reduceSub, Nat.reduceMul, Int.reduceToNat, Nat.reduceEqDiff, Nat.reduceBEq, Nat.reduceBneDiff, Go.Proofs.Tryz.f28, List.replicate]
    refine callk c1 ?_
    conv => simp (maxSteps := 2000000) (disch := omega) only [go_sem, Nat.reduceAdd, Nat.reduceSub, Nat.reduceMul, Int.reduceToNat, Nat.reduceEqDiff, Nat.reduceBEq, Nat.reduceBneDiff]
    refine callk c2 ?_
    conv => simp (maxSteps := 2000000) (disch := omega) only [go_sem, Nat.reduceAdd, Nat.reduceSub, Nat.reduceMul, Int.reduceToNat, Nat.reduceEqDiff, Nat.reduceBEq, Nat.reduceBneDiff]
    exact ⟨_, rfl, .one (.refl _)⟩
  · rw [decide_eq_false h] at c1
    rw [decide_eq_false (show ¬ s.sz ≤ 4 by omega)]
    refine CallsTo.run [] Go.Proofs.Tryz.func28 rfl rfl ?_; conv => simp (maxSteps := 2000000) (disch := omega) only [go_sem, Nat.reduceAdd, Nat.reduceSub, Nat.reduceMul, Int.reduceToNat, Nat.reduceEqDiff, Nat.reduceBEq, Nat.reduceBneDiff, Go.Proofs.Tryz.f28, List.replicate]
    refine callk c1 ?_
    conv => simp (maxSteps := 2000000) (disch := omega) only [go_sem, Nat.reduceAdd, Nat.reduceSub, Nat.reduceMul, Int.reduceToNat, Nat.reduceEqDiff, Nat.reduceBEq, Nat.reduceBneDiff]
    exact ⟨_, rfl, .one (.refl _)⟩
/-- at most n fractions, and small ones -/
def fewF (l : List Fc) (n : Nat) : Prop := l.length ≤ n ∧ ∀ f ∈ l, f.sz ≤ 4
instance (l : List Fc) (n : Nat) : Decidable (fewF l n) := inferInstanceAs (Decidable (_ ∧ _))
def fewC (f : Af) (l : List Sc) : Prop := l.length ≤ 8 ∧ (∀ s ∈ l, s.sz ≤ 4) ∧ f.c.sz ≤ 4 ∧ fewF f.l 8
instance (f : Af) (l : List Sc) : Decidable (fewC f l) := inferInstanceAs (Decidable (_ ∧ _ ∧ _ ∧ _))
theorem all_take {α : Type} {p : α → Prop} {l : List α} {i : Nat} (d : α) (h : ∀ x ∈ l.take i, p x) (hi : i < l.length) (hx : p (l.getD i d)) : ∀ x ∈ l.take (i + 1), p x := by
  rw [take_snoc d hi]
  intro x hx'
  rcases List.mem_append.1 hx' with h' | h'
  · exact h x h'
  · simp at h'; subst h'; simpa using hx
theorem r46FewFracs (l : List Fc) (n : Nat) (hn : n ≤ 1048576) (_hl : l.length ≤ 1048576) (hs : ∀ f ∈ l, f.sz ≤ 67108864) :
    CallsTo prog 8 [.one (.sl 4 (l.map Fc.C)), .one (.raw (.int .i64 n))] (.one (.raw (.bool (decide (fewF l n))))) := by
  obtain ⟨r, hr⟩ : ∃ r, r = decide (fewF l n) := ⟨_, rfl⟩
  rw [← hr]
  have bad : ¬ fewF l n → false = r := fun h => by rw [hr, decide_eq_false h]
  refine CallsTo.run [] Go.Proofs.Tryz.func8 rfl rfl ?_; conv => simp (maxSteps := 2000000) (disch := omega) only [go_sem, Nat.reduceAdd, Nat.reduceSub, Nat.reduceMul, Int.reduceToNat, Nat.reduceEqDiff, Nat.reduceBEq, Nat.reduceBneDiff, Go.Proofs.Tryz.f8, List.replicate]
  refine loopo [0, 1] (fun i : Nat => [(5, .one (.raw (.int .i64 i)))]) (fun i => i ≤ l.length ∧ ∀ f ∈ l.take i, f.sz ≤ 4) (fun i => l.length - i) 0 ⟨Nat.zero_le _, by simp⟩ ?_ ?_
  · conv => simp (maxSteps := 2000000) (disch := omega) only [go_sem, Nat.reduceAdd, Nat.reduceSub, Nat.reduceMul, Int.reduceToNat, Nat.reduceEqDiff, Nat.reduceBEq, Nat.reduceBneDiff]
    exact StLe.weaken (by repeat' first | exact .nil | refine .cons (by first | exact .refl _ | exact .any _) ?_) rfl
  rintro i ⟨hi, he⟩
  conv => simp (maxSteps := 2000000) (disch := omega) only [go_sem, Nat.reduceAdd, Nat.reduceSub, Nat.reduceMul, Int.reduceToNat, Nat.reduceEqDiff, Nat.reduceBEq, Nat.reduceBneDiff]
  refine guardd (fun h1 => ?_) (fun h1 => ?_)
  · have h1' := decide_eq_true h1
    conv => simp (maxSteps := 2000000) (disch := omega) only [go_sem, Nat.reduceAdd, Nat.reduceSub, Nat.reduceMul, Int.reduceToNat, Nat.reduceEqDiff, Nat.reduceBEq, Nat.reduceBneDiff, h1']
    refine condd (fun h2 => ?_) (fun h2 => ?_)
    · have hb := getD_sz hs (show i < l.length by omega)
      have hbl := szL hb
      conv => simp (maxSteps := 2000000) (disch := omega) only [go_sem, Nat.reduceAdd, Nat.reduceSub, Nat.reduceMul, Int.reduceToNat, Nat.reduceEqDiff, Nat.reduceBEq, Nat.reduceBneDiff]
      refine callk (rFew4 (l.getD i Fc.zero) (by omega) (by omega)) ?_
      conv => simp (maxSteps := 2000000) (disch := omega) only [go_sem, Nat.reduceAdd, Nat.reduceSub, Nat.reduceMul, Int.reduceToNat, Nat.reduceEqDiff, Nat.reduceBEq, Nat.reduceBneDiff]
      refine condk (fun h3 => ?_) (fun h3 => ?_)
      · have h3 : ¬ (l.getD i Fc.zero).sz ≤ 4 := by simpa using h3
        conv => simp (maxSteps := 2000000) (disch := omega) only [go_sem, Nat.reduceAdd, Nat.reduceSub, Nat.reduceMul, Int.reduceToNat, Nat.reduceEqDiff, Nat.reduceBEq, Nat.reduceBneDiff]
        exact ⟨_, rfl, by rw [bad (fun h => h3 (getD_sz h.2 (by omega)))]; exact .one (.refl _)⟩
      · have h3 : (l.getD i Fc.zero).sz ≤ 4 := by simpa using h3
        conv => simp (maxSteps := 2000000) (disch := omega) only [go_sem, Nat.reduceAdd, Nat.reduceSub, Nat.reduceMul, Int.reduceToNat, Nat.reduceEqDiff, Nat.reduceBEq, Nat.reduceBneDiff]
        exact ⟨i + 1, ⟨by omega, all_take Fc.zero he (by omega) h3⟩, by omega, StLe.weaken (by repeat' first | exact .nil | refine .cons (by first | exact .refl _ | exact .any _) ?_) rfl⟩
    · conv => simp (maxSteps := 2000000) (disch := omega) only [go_sem, Nat.reduceAdd, Nat.reduceSub, Nat.reduceMul, Int.reduceToNat, Nat.reduceEqDiff, Nat.reduceBEq, Nat.reduceBneDiff]
      exact ⟨_, rfl, by rw [decide_eq_false (by omega), bad (fun h => by have := h.1; omega)]; exact .one (.refl _)⟩
  · have h1' := decide_eq_false h1
    have hi' : i = l.length := by omega
    rw [hi', List.take_length] at he
    conv => simp (maxSteps := 2000000) (disch := omega) only [go_sem, Nat.reduceAdd, Nat.reduceSub, Nat.reduceMul, Int.reduceToNat, Nat.reduceEqDiff, Nat.reduceBEq, Nat.reduceBneDiff, h1']
    exact ⟨_, rfl, by rw [hr, show decide ((l.length : Int) ≤ n) = decide (fewF l n) from decide_eq_decide.2 ⟨fun h => ⟨by omega, he⟩, fun h => by have := h.1; omega⟩]; exact .one (.refl _)⟩
theorem r46Few (f : Af) (l : List Sc) (h1 : f.l.length ≤ 1048576) (h2 : l.length ≤ 1048576) (h3 : f.le 67108864) (h4 : ∀ s ∈ l, s.sz ≤ 67108864) :
    CallsTo prog 6 [.agg f.C, .one (.sl 8 (l.map Sc.C))] (.one (.raw (.bool (decide (fewC f l))))) := by
  obtain ⟨r, hr⟩ : ∃ r, r = decide (fewC f l) := ⟨_, rfl⟩
  rw [← hr]
  have bad : ¬ fewC f l → false = r := fun h => by rw [hr, decide_eq_false h]
  have lc := szL h3.1
  refine CallsTo.run [] Go.Proofs.Tryz.func6 rfl rfl ?_; conv => simp (maxSteps := 2000000) (disch := omega) only [go_sem, Nat.reduceAdd, Nat.reduceSub, Nat.reduceMul, Int.reduceToNat, Nat.reduceEqDiff, Nat.reduceBEq, Nat.reduceBneDiff, Go.Proofs.Tryz.f6, List.replicate]
  refine loopo [1] (fun i : Nat => [(5, .one (.raw (.int .i64 i)))]) (fun i => i ≤ l.length ∧ ∀ s ∈ l.take i, s.sz ≤ 4) (fun i => l.length - i) 0 ⟨Nat.zero_le _, by simp⟩ ?_ ?_
  · conv => simp (maxSteps := 2000000) (disch := omega) only [go_sem, Nat.reduceAdd, Nat.reduceSub, Nat.reduceMul, Int.reduceToNat, Nat.reduceEqDiff, Nat.reduceBEq, Nat.reduceBneDiff]
    exact StLe.weaken (by repeat' first | exact .nil | refine .cons (by first | exact .refl _ | exact .any _) ?_) rfl
  rintro i ⟨hi, he⟩
  conv => simp (maxSteps := 2000000) (disch := omega) only [go_sem, Nat.reduceAdd, Nat.reduceSub, Nat.reduceMul, Int.reduceToNat, Nat.reduceEqDiff, Nat.reduceBEq, Nat.reduceBneDiff]
  refine guardd (fun h1 => ?_) (fun h1 => ?_)
  · have h1' := decide_eq_true h1
    conv => simp (maxSteps := 2000000) (disch := omega) only [go_sem, Nat.reduceAdd, Nat.reduceSub, Nat.reduceMul, Int.reduceToNat, Nat.reduceEqDiff, Nat.reduceBEq, Nat.reduceBneDiff, h1']
    refine condd (fun h2 => ?_) (fun h2 => ?_)
    · have hb := getS_sz h4 (show i < l.length by omega)
      conv => simp (maxSteps := 2000000) (disch := omega) only [go_sem, Nat.reduceAdd, Nat.reduceSub, Nat.reduceMul, Int.reduceToNat, Nat.reduceEqDiff, Nat.reduceBEq, Nat.reduceBneDiff]
      refine callk (r10Few (l.getD i Sc.zero) hb) ?_
      conv => simp (maxSteps := 2000000) (disch := omega) only [go_sem, Nat.reduceAdd, Nat.reduceSub, Nat.reduceMul, Int.reduceToNat, Nat.reduceEqDiff, Nat.reduceBEq, Nat.reduceBneDiff]
      refine condk (fun h3 => ?_) (fun h3 => ?_)
      · have h3 : ¬ (l.getD i Sc.zero).sz ≤ 4 := by simpa using h3
        conv => simp (maxSteps := 2000000) (disch := omega) only [go_sem, Nat.reduceAdd, Nat.reduceSub, Nat.reduceMul, Int.reduceToNat, Nat.reduceEqDiff, Nat.reduceBEq, Nat.reduceBneDiff]
        exact ⟨_, rfl, by rw [bad (fun h => h3 (getS_sz h.2.1 (by omega)))]; exact .one (.refl _)⟩
      · have h3 : (l.getD i Sc.zero).sz ≤ 4 := by simpa using h3
        conv => simp (maxSteps := 2000000) (disch := omega) only [go_sem, Nat.reduceAdd, Nat.reduceSub, Nat.reduceMul, Int.reduceToNat, Nat.reduceEqDiff, Nat.reduceBEq, Nat.reduceBneDiff]
        exact ⟨i + 1, ⟨by omega, all_take Sc.zero he (by omega) h3⟩, by omega, StLe.weaken (by repeat' first | exact .nil | refine .cons (by first | exact .refl _ | exact .any _) ?_) rfl⟩
    · have h5 : ¬ (l.length : Int) ≤ 8 := by omega
      conv => simp (maxSteps := 2000000) (disch := omega) only [go_sem, Nat.reduceAdd, Nat.reduceSub, Nat.reduceMul, Int.reduceToNat, Nat.reduceEqDiff, Nat.reduceBEq, Nat.reduceBneDiff]
      refine guardd (fun h => absurd h h5) (fun _ => ?_)
      have h5' := decide_eq_false h5
      conv => simp (maxSteps := 2000000) (disch := omega) only [go_sem, Nat.reduceAdd, Nat.reduceSub, Nat.reduceMul, Int.reduceToNat, Nat.reduceEqDiff, Nat.reduceBEq, Nat.reduceBneDiff, h5']
      exact ⟨_, rfl, by rw [bad (fun h => by have := h.1; omega)]; exact .one (.refl _)⟩
  · have h1' := decide_eq_false h1
    have hi' : i = l.length := by omega
    rw [hi', List.take_length] at he
    conv => simp (maxSteps := 2000000) (disch := omega) only [go_sem, Nat.reduceAdd, Nat.reduceSub, Nat.reduceMul, Int.reduceToNat, Nat.reduceEqDiff, Nat.reduceBEq, Nat.reduceBneDiff, h1']
    refine guardd (fun h5 => ?_) (fun h5 => ?_)
    · have h5' := decide_eq_true h5
      conv => simp (maxSteps := 2000000) (disch := omega) only [go_sem, Nat.reduceAdd, Nat.reduceSub, Nat.reduceMul, Int.reduceToNat, Nat.reduceEqDiff, Nat.reduceBEq, Nat.reduceBneDiff, h5']
      refine callk (rFew4 f.c (by omega) (by omega)) ?_
      conv => simp (maxSteps := 2000000) (disch := omega) only [go_sem, Nat.reduceAdd, Nat.reduceSub, Nat.reduceMul, Int.reduceToNat, Nat.reduceEqDiff, Nat.reduceBEq, Nat.reduceBneDiff]
      by_cases h6 : f.c.sz ≤ 4
      · refine guardk (fun _ => ?_) (fun h => by rw [decide_eq_true h6] at h; cases h)
        have h6' := decide_eq_true h6
        conv => simp (maxSteps := 2000000) (disch := omega) only [go_sem, Nat.reduceAdd, Nat.reduceSub, Nat.reduceMul, Int.reduceToNat, Nat.reduceEqDiff, Nat.reduceBEq, Nat.reduceBneDiff, h6']
        refine callk (r46FewFracs f.l 8 (by decide) (by omega) h3.2) ?_
        conv => simp (maxSteps := 2000000) (disch := omega) only [go_sem, Nat.reduceAdd, Nat.reduceSub, Nat.reduceMul, Int.reduceToNat, Nat.reduceEqDiff, Nat.reduceBEq, Nat.reduceBneDiff]
        exact ⟨_, rfl, by rw [hr, show decide (fewC f l) = decide (fewF f.l 8) from decide_eq_decide.2 ⟨fun h => h.2.2.2, fun h => ⟨by omega, he, h6, h⟩⟩]; exact .one (.refl _)⟩
      · refine guardk (fun h => by rw [decide_eq_false h6] at h; cases h) (fun _ => ?_)
        have h6' := decide_eq_false h6
        conv => simp (maxSteps := 2000000) (disch := omega) only [go_sem, Nat.reduceAdd, Nat.reduceSub, Nat.reduceMul, Int.reduceToNat, Nat.reduceEqDiff, Nat.reduceBEq, Nat.reduceBneDiff, h6']
        exact ⟨_, rfl, by rw [bad (fun h => h6 h.2.2.1)]; exact .one (.refl _)⟩
    · have h5' := decide_eq_false h5
      conv => simp (maxSteps := 2000000) (disch := omega) only [go_sem, Nat.reduceAdd, Nat.reduceSub, Nat.reduceMul, Int.reduceToNat, Nat.reduceEqDiff, Nat.reduceBEq, Nat.reduceBneDiff, h5']
      exact ⟨_, rfl, by rw [bad (fun h => by have := h.1; omega)]; exact .one (.refl _)⟩
theorem r46SameFracs (a b : List Fc) (la : a.length ≤ 1048576) (_lb : b.length ≤ 1048576) (ha : ∀ f ∈ a, f.sz ≤ 67108864) (hb : ∀ f ∈ b, f.sz ≤ 67108864) :
    CallsTo prog 17 [.one (.sl 4 (a.map Fc.C)), .one (.sl 4 (b.map Fc.C))] (.one (.raw (.bool (decide (a = b))))) := by
  obtain ⟨r, hr⟩ : ∃ r, r = decide (a = b) := ⟨_, rfl⟩
  rw [← hr]
  have bad : ¬ a = b → false = r := fun h => by rw [hr, decide_eq_false h]
  refine CallsTo.run [] Go.Proofs.Tryz.func17 rfl rfl ?_; conv => simp (maxSteps := 2000000) (disch := omega) only [go_sem, Nat.reduceAdd, Nat.reduceSub, Nat.reduceMul, Int.reduceToNat, Nat.reduceEqDiff, Nat.reduceBEq, Nat.reduceBneDiff, Go.Proofs.Tryz.f17, List.replicate]
  refine condd (fun h => ?_) (fun h => ?_)
  · conv => simp (maxSteps := 2000000) (disch := omega) only [go_sem, Nat.reduceAdd, Nat.reduceSub, Nat.reduceMul, Int.reduceToNat, Nat.reduceEqDiff, Nat.reduceBEq, Nat.reduceBneDiff]
    exact ⟨_, rfl, by rw [bad (fun e => h (by rw [e]))]; exact .one (.refl _)⟩
  have hl : a.length = b.length := by omega
  conv => simp (maxSteps := 2000000) (disch := omega) only [go_sem, Nat.reduceAdd, Nat.reduceSub, Nat.reduceMul, Int.reduceToNat, Nat.reduceEqDiff, Nat.reduceBEq, Nat.reduceBneDiff]
  refine loopo [0, 1] (fun i : Nat => [(5, .one (.raw (.int .i64 i)))]) (fun i => i ≤ a.length ∧ a.take i = b.take i) (fun i => a.length - i) 0 ⟨Nat.zero_le _, rfl⟩ ?_ ?_
  · conv => simp (maxSteps := 2000000) (disch := omega) only [go_sem, Nat.reduceAdd, Nat.reduceSub, Nat.reduceMul, Int.reduceToNat, Nat.reduceEqDiff, Nat.reduceBEq, Nat.reduceBneDiff]
    exact StLe.weaken (by repeat' first | exact .nil | refine .cons (by first | exact .refl _ | exact .any _) ?_) rfl
  rintro i ⟨hi, he⟩
  conv => simp (maxSteps := 2000000) (disch := omega) only [go_sem, Nat.reduceAdd, Nat.reduceSub, Nat.reduceMul, Int.reduceToNat, Nat.reduceEqDiff, Nat.reduceBEq, Nat.reduceBneDiff]
  refine condd (fun h1 => ?_) (fun h1 => ?_)
  · have hi1 : i < a.length := by omega
    have hi2 : i < b.length := by omega
    conv => simp (maxSteps := 2000000) (disch := omega) only [go_sem, Nat.reduceAdd, Nat.reduceSub, Nat.reduceMul, Int.reduceToNat, Nat.reduceEqDiff, Nat.reduceBEq, Nat.reduceBneDiff]
    refine callk (rSameF (a.getD i Fc.zero) (b.getD i Fc.zero) (getD_sz ha hi1) (getD_sz hb hi2)) ?_
    conv => simp (maxSteps := 2000000) (disch := omega) only [go_sem, Nat.reduceAdd, Nat.reduceSub, Nat.reduceMul, Int.reduceToNat, Nat.reduceEqDiff, Nat.reduceBEq, Nat.reduceBneDiff]
    refine indk (by kernel_rfl) ?_
    conv => simp (maxSteps := 2000000) (disch := omega) only [go_sem, Nat.reduceAdd, Nat.reduceSub, Nat.reduceMul, Int.reduceToNat, Nat.reduceEqDiff, Nat.reduceBEq, Nat.reduceBneDiff]
    by_cases h2 : a.getD i Fc.zero = b.getD i Fc.zero
    · refine condk (fun h => by rw [decide_eq_true h2] at h; cases h) (fun _ => ?_)
      conv => simp (maxSteps := 2000000) (disch := omega) only [go_sem, Nat.reduceAdd, Nat.reduceSub, Nat.reduceMul, Int.reduceToNat, Nat.reduceEqDiff, Nat.reduceBEq, Nat.reduceBneDiff]
      refine ⟨i + 1, ⟨by omega, ?_⟩, by omega, StLe.weaken (by repeat' first | exact .nil | refine .cons (by first | exact .refl _ | exact .any _) ?_) rfl⟩
      rw [take_snoc Fc.zero hi1, take_snoc Fc.zero hi2, he, h2]
    · refine condk (fun _ => ?_) (fun h => by rw [decide_eq_false h2] at h; cases h)
      conv => simp (maxSteps := 2000000) (disch := omega) only [go_sem, Nat.reduceAdd, Nat.reduceSub, Nat.reduceMul, Int.reduceToNat, Nat.reduceEqDiff, Nat.reduceBEq, Nat.reduceBneDiff]
      exact ⟨_, rfl, by rw [bad (fun e => h2 (by rw [e]))]; exact .one (.refl _)⟩
  · have hi' : i = a.length := by omega
    rw [hi', List.take_length, hl, List.take_length] at he
    have e : true = r := by rw [hr, decide_eq_true he]
    conv => simp (maxSteps := 2000000) (disch := omega) only [go_sem, Nat.reduceAdd, Nat.reduceSub, Nat.reduceMul, Int.reduceToNat, Nat.reduceEqDiff, Nat.reduceBEq, Nat.reduceBneDiff]
    exact ⟨_, rfl, by rw [e]; exact .one (.refl _)⟩
end Go.Slot.T

/- Plain laws: package back over the rational numbers. -/
namespace Go.Slot
open Go Go.RowKit Go.Slot.T
namespace Sc
def of (p : Rat × Rat) : Sc := ⟨Fc.of p.1, Fc.of p.2⟩
end Sc
theorem sg_neg_iff (r : Rat) : sg r.num < 0 ↔ r < 0 := by
  rw [Rat.lt_iff]
  simp only [Rat.zero_num, Rat.zero_den]
  rcases sg_cases r.num with ⟨h, e⟩ | ⟨h, e⟩ | ⟨h, e⟩ <;> rw [e] <;> omega
theorem sg_nonneg_iff (r : Rat) : 0 ≤ sg r.num ↔ 0 ≤ r := by
  have := sg_neg_iff r
  rw [← Rat.not_lt, ← this]; omega
theorem ordQ_le (x y : Rat) : Fc.ordQ x y ≤ 0 ↔ x ≤ y := by
  rcases Fc.ordQ_cases x y with ⟨h, e⟩ | ⟨h, e⟩ | ⟨h, e⟩ <;> rw [e]
  · exact ⟨fun _ => Rat.le_of_lt h, fun _ => by decide⟩
  · exact ⟨fun _ => by rw [h]; exact Rat.le_refl, fun _ => by decide⟩
  · exact ⟨fun h' => absurd h' (by decide), fun h' => absurd h (Rat.not_lt.2 h')⟩
theorem ordQ_gt (x y : Rat) : 0 < Fc.ordQ x y ↔ y < x := by
  have := ordQ_le x y
  rw [← Rat.not_le, ← this]; omega
theorem ordQ_ge (x y : Rat) : 0 ≤ Fc.ordQ x y ↔ y ≤ x := by
  rcases Fc.ordQ_cases x y with ⟨h, e⟩ | ⟨h, e⟩ | ⟨h, e⟩ <;> rw [e]
  · exact ⟨fun h' => absurd h' (by decide), fun h' => absurd h (Rat.not_lt.2 h')⟩
  · exact ⟨fun _ => by rw [h]; exact Rat.le_refl, fun _ => by decide⟩
  · exact ⟨fun _ => Rat.le_of_lt h, fun _ => by decide⟩
theorem Sc.of_ok (p : Rat × Rat) : (Sc.of p).ok ↔ p.1 ≤ p.2 := by
  unfold Sc.ok Sc.of
  rw [Fc.cmp_of, ordQ_le]
  exact ⟨fun h => h.2.2, fun h => ⟨Fc.of_ok _, Fc.of_ok _, h⟩⟩
theorem Sc.ok_ex {s : Sc} (h : s.ok) : ∃ p : Rat × Rat, s = Sc.of p ∧ p.1 ≤ p.2 := by
  obtain ⟨x, hx⟩ := Fc.ok_ex h.1
  obtain ⟨y, hy⟩ := Fc.ok_ex h.2.1
  have e : s = Sc.of (x, y) := by cases s; simp only at hx hy; rw [hx, hy]; rfl
  exact ⟨(x, y), e, (Sc.of_ok _).1 (e ▸ h)⟩
theorem oks_map (qs : List Rat) : oks (qs.map Fc.of) := fun f hf => by
  obtain ⟨r, _, rfl⟩ := List.mem_map.1 hf
  exact Fc.of_ok r
theorem oks_ex : ∀ {l : List Fc}, oks l → ∃ qs : List Rat, l = qs.map Fc.of
  | [], _ => ⟨[], rfl⟩
  | f :: l, h => by
    obtain ⟨r, hr⟩ := Fc.ok_ex (h f (by simp))
    obtain ⟨qs, hq⟩ := oks_ex (fun g hg => h g (by simp [hg]) : oks l)
    exact ⟨r :: qs, by rw [hr, hq]; rfl⟩
def okP (ps : List (Rat × Rat)) : Prop := ∀ p ∈ ps, p.1 ≤ p.2
theorem okS_map (ps : List (Rat × Rat)) : okS (ps.map Sc.of) ↔ okP ps := by
  constructor
  · intro h p hp
    exact (Sc.of_ok p).1 (h _ (List.mem_map.2 ⟨p, hp, rfl⟩))
  · intro h s hs
    obtain ⟨p, hp, rfl⟩ := List.mem_map.1 hs
    exact (Sc.of_ok p).2 (h p hp)
theorem okS_ex : ∀ {l : List Sc}, okS l → ∃ ps : List (Rat × Rat), l = ps.map Sc.of ∧ okP ps
  | [], _ => ⟨[], rfl, fun p hp => by cases hp⟩
  | s :: l, h => by
    obtain ⟨p, hp, hp'⟩ := Sc.ok_ex (h s (by simp))
    obtain ⟨ps, hq, hq'⟩ := okS_ex (fun g hg => h g (by simp [hg]) : okS l)
    exact ⟨p :: ps, by rw [hp, hq]; rfl, fun p' h' => by
      rcases List.mem_cons.1 h' with rfl | h'
      · exact hp'
      · exact hq' p' h'⟩
def Af.of (k : Rat) (cs : List Rat) : Af := ⟨Fc.of k, cs.map Fc.of⟩
theorem Af.of_ok (k : Rat) (cs : List Rat) (n : Nat) : (Af.of k cs).ok n ↔ cs.length = n := by
  unfold Af.ok Af.of
  simp only [List.length_map]
  exact ⟨fun h => h.1, fun h => ⟨h, Fc.of_ok k, oks_map cs⟩⟩
theorem Af.ok_ex {f : Af} {n : Nat} (h : f.ok n) : ∃ k cs, f = Af.of k cs ∧ cs.length = n := by
  obtain ⟨k, hk⟩ := Fc.ok_ex h.2.1
  obtain ⟨cs, hc⟩ := oks_ex h.2.2
  have e : f = Af.of k cs := by cases f; simp only at hk hc; rw [hk, hc]; rfl
  exact ⟨k, cs, e, by rw [e] at h; exact (Af.of_ok k cs n).1 h⟩
theorem Bk.ok_of (k : Rat) (cs : List Rat) (ps : List (Rat × Rat)) : Bk.ok (Af.of k cs) (ps.map Sc.of) ↔ (cs.length = ps.length ∧ okP ps) := by
  unfold Bk.ok
  rw [Af.of_ok, okS_map, List.length_map]
theorem Bk.ok_ex {f : Af} {l : List Sc} (h : Bk.ok f l) : ∃ k cs ps, f = Af.of k cs ∧ l = ps.map Sc.of ∧ cs.length = ps.length ∧ okP ps := by
  obtain ⟨k, cs, hf, hc⟩ := Af.ok_ex h.1
  obtain ⟨ps, hl, hp⟩ := okS_ex h.2
  exact ⟨k, cs, ps, hf, hl, by rw [hc, hl, List.length_map], hp⟩

def sumQ : Rat → List Rat → List Rat → Rat
  | s, c :: cs, v :: vs => sumQ (s + c * v) cs vs
  | s, _, _ => s
theorem Af.copy_of (r : Rat) : Af.copy (Fc.of r) = Fc.of r := by unfold Af.copy; rw [Fc.add_of, Rat.add_zero]
theorem Af.sum_of : ∀ (cs vs : List Rat) (s : Rat), Af.sum (Fc.of s) (cs.map Fc.of) (vs.map Fc.of) = Fc.of (sumQ s cs vs)
  | [], vs, s => by cases vs <;> rfl
  | c :: cs, [], s => rfl
  | c :: cs, v :: vs, s => by
    show Af.sum (Fc.add (Fc.of s) (Fc.mul (Fc.of c) (Fc.of v))) (cs.map Fc.of) (vs.map Fc.of) = _
    rw [Fc.mul_of, Fc.add_of, Af.sum_of cs vs]; rfl
theorem Af.at_of (k : Rat) (cs vs : List Rat) (h : cs.length = vs.length) : (Af.of k cs).at' (vs.map Fc.of) = Fc.of (sumQ k cs vs) := by
  unfold Af.at'
  rw [if_pos ⟨(Af.of_ok k cs _).2 (by rw [List.length_map, h]), oks_map vs⟩]
  show Af.sum (Af.copy (Fc.of k)) (cs.map Fc.of) (vs.map Fc.of) = _
  rw [Af.copy_of, Af.sum_of]
theorem sumQ_shift : ∀ (cs vs : List Rat) (s t : Rat), sumQ (s + t) cs vs = s + sumQ t cs vs
  | [], vs, s, t => by cases vs <;> rfl
  | c :: cs, [], s, t => rfl
  | c :: cs, v :: vs, s, t => by
    show sumQ (s + t + c * v) cs vs = s + sumQ (t + c * v) cs vs
    rw [Rat.add_assoc, sumQ_shift cs vs]
/-- the sum without its constant -/
def dot (cs vs : List Rat) : Rat := sumQ 0 cs vs
theorem sumQ_dot (s : Rat) (cs vs : List Rat) : sumQ s cs vs = s + dot cs vs := by
  have := sumQ_shift cs vs s 0
  rwa [Rat.add_zero] at this
theorem dot_nil (vs : List Rat) : dot [] vs = 0 := by cases vs <;> rfl
theorem dot_cons (c v : Rat) (cs vs : List Rat) : dot (c :: cs) (v :: vs) = c * v + dot cs vs := by
  show sumQ (0 + c * v) cs vs = _
  rw [sumQ_dot, Rat.zero_add]
def loQ (c : Rat) (p : Rat × Rat) : Rat := if c < 0 then p.2 else p.1
def hiQ (c : Rat) (p : Rat × Rat) : Rat := if c < 0 then p.1 else p.2
theorem lo_of (c : Rat) (p : Rat × Rat) : Bk.lo (Fc.of c) (Sc.of p) = Fc.of (loQ c p) := by
  unfold Bk.lo loQ
  rw [Fc.sign_of]
  by_cases h : c < 0
  · rw [if_pos ((sg_neg_iff c).2 h), if_pos h]; exact Af.copy_of _
  · rw [if_neg (fun h' => h ((sg_neg_iff c).1 h')), if_neg h]; exact Af.copy_of _
theorem hi_of (c : Rat) (p : Rat × Rat) : Bk.hi (Fc.of c) (Sc.of p) = Fc.of (hiQ c p) := by
  unfold Bk.hi hiQ
  rw [Fc.sign_of]
  by_cases h : c < 0
  · rw [if_pos ((sg_neg_iff c).2 h), if_pos h]; exact Af.copy_of _
  · rw [if_neg (fun h' => h ((sg_neg_iff c).1 h')), if_neg h]; exact Af.copy_of _
theorem zip_of {op : Fc → Sc → Fc} {g : Rat → Rat × Rat → Rat} (h : ∀ c p, op (Fc.of c) (Sc.of p) = Fc.of (g c p)) : ∀ (cs : List Rat) (ps : List (Rat × Rat)), List.zipWith op (cs.map Fc.of) (ps.map Sc.of) = (List.zipWith g cs ps).map Fc.of
  | [], _ => rfl
  | _ :: _, [] => rfl
  | c :: cs, p :: ps => by
    simp only [List.map_cons, List.zipWith_cons_cons, h, zip_of h cs ps]
def lowsQ (cs : List Rat) (ps : List (Rat × Rat)) : List Rat := List.zipWith loQ cs ps
def highsQ (cs : List Rat) (ps : List (Rat × Rat)) : List Rat := List.zipWith hiQ cs ps
theorem lows_of (k : Rat) (cs : List Rat) (ps : List (Rat × Rat)) : Bk.lows (Af.of k cs) (ps.map Sc.of) = (lowsQ cs ps).map Fc.of := zip_of lo_of cs ps
theorem highs_of (k : Rat) (cs : List Rat) (ps : List (Rat × Rat)) : Bk.highs (Af.of k cs) (ps.map Sc.of) = (highsQ cs ps).map Fc.of := zip_of hi_of cs ps
theorem lowsQ_len {cs : List Rat} {ps : List (Rat × Rat)} (h : cs.length = ps.length) : cs.length = (lowsQ cs ps).length := by unfold lowsQ; simp; omega
theorem highsQ_len {cs : List Rat} {ps : List (Rat × Rat)} (h : cs.length = ps.length) : cs.length = (highsQ cs ps).length := by unfold highsQ; simp; omega
/-- the range of a function -/
def rangeQ (k : Rat) (cs : List Rat) (ps : List (Rat × Rat)) : Rat × Rat := (sumQ k cs (lowsQ cs ps), sumQ k cs (highsQ cs ps))
theorem bounds_of (k : Rat) (cs : List Rat) (ps : List (Rat × Rat)) (h : cs.length = ps.length) (hp : okP ps) : Bk.bounds (Af.of k cs) (ps.map Sc.of) = Sc.of (rangeQ k cs ps) := by
  unfold Bk.bounds
  rw [if_pos ((Bk.ok_of k cs ps).2 ⟨h, hp⟩), lows_of, highs_of, Af.at_of _ _ _ (lowsQ_len h), Af.at_of _ _ _ (highsQ_len h)]
  rfl
theorem least_of (k : Rat) (cs : List Rat) (ps : List (Rat × Rat)) (h : cs.length = ps.length) : (Af.of k cs).at' (Bk.lows (Af.of k cs) (ps.map Sc.of)) = Fc.of (rangeQ k cs ps).1 := by
  rw [lows_of, Af.at_of _ _ _ (lowsQ_len h)]; rfl
/-- a point of the spans -/
def inP : List Rat → List (Rat × Rat) → Prop
  | [], [] => True
  | v :: vs, p :: ps => (p.1 ≤ v ∧ v ≤ p.2) ∧ inP vs ps
  | _, _ => False
theorem inP_len : ∀ {vs : List Rat} {ps : List (Rat × Rat)}, inP vs ps → vs.length = ps.length
  | [], [], _ => rfl
  | _ :: _, _ :: _, h => by simp [inP_len h.2]
theorem term_lo (c : Rat) (p : Rat × Rat) (v : Rat) (h : p.1 ≤ v ∧ v ≤ p.2) : c * loQ c p ≤ c * v := by
  unfold loQ
  split
  · rename_i hc
    have h1 := Rat.mul_le_mul_of_nonneg_left h.2 (show (0 : Rat) ≤ -c by grind)
    grind
  · rename_i hc
    exact Rat.mul_le_mul_of_nonneg_left h.1 (Rat.not_lt.1 hc)
theorem term_hi (c : Rat) (p : Rat × Rat) (v : Rat) (h : p.1 ≤ v ∧ v ≤ p.2) : c * v ≤ c * hiQ c p := by
  unfold hiQ
  split
  · rename_i hc
    have h1 := Rat.mul_le_mul_of_nonneg_left h.1 (show (0 : Rat) ≤ -c by grind)
    grind
  · rename_i hc
    exact Rat.mul_le_mul_of_nonneg_left h.2 (Rat.not_lt.1 hc)
theorem dot_lo : ∀ (cs vs : List Rat) (ps : List (Rat × Rat)), cs.length = ps.length → inP vs ps → dot cs (lowsQ cs ps) ≤ dot cs vs
  | [], vs, ps, _, _ => by rw [dot_nil, dot_nil]; exact Rat.le_refl
  | _ :: _, [], ps, h, hi => by cases ps with
    | nil => simp at h
    | cons p ps => exact hi.elim
  | c :: cs, v :: vs, p :: ps, h, hi => by
    show dot (c :: cs) (loQ c p :: lowsQ cs ps) ≤ _
    rw [dot_cons, dot_cons]
    have h1 := dot_lo cs vs ps (by simpa using h) hi.2
    have h2 := term_lo c p v hi.1
    grind
theorem dot_hi : ∀ (cs vs : List Rat) (ps : List (Rat × Rat)), cs.length = ps.length → inP vs ps → dot cs vs ≤ dot cs (highsQ cs ps)
  | [], vs, ps, _, _ => by rw [dot_nil, dot_nil]; exact Rat.le_refl
  | _ :: _, [], ps, h, hi => by cases ps with
    | nil => simp at h
    | cons p ps => exact hi.elim
  | c :: cs, v :: vs, p :: ps, h, hi => by
    show _ ≤ dot (c :: cs) (hiQ c p :: highsQ cs ps)
    rw [dot_cons, dot_cons]
    have h1 := dot_hi cs vs ps (by simpa using h) hi.2
    have h2 := term_hi c p v hi.1
    grind
theorem range_has (k : Rat) (cs vs : List Rat) (ps : List (Rat × Rat)) (h : cs.length = ps.length) (hi : inP vs ps) : (rangeQ k cs ps).1 ≤ sumQ k cs vs ∧ sumQ k cs vs ≤ (rangeQ k cs ps).2 := by
  unfold rangeQ
  simp only [sumQ_dot]
  have h1 := dot_lo cs vs ps h hi
  have h2 := dot_hi cs vs ps h hi
  grind
theorem inP_lo : ∀ (cs : List Rat) (ps : List (Rat × Rat)), cs.length = ps.length → okP ps → inP (lowsQ cs ps) ps
  | [], [], _, _ => trivial
  | [], p :: ps, h, _ => by simp at h
  | c :: cs, [], h, _ => by simp at h
  | c :: cs, p :: ps, h, hp => by
    refine ⟨?_, inP_lo cs ps (by simpa using h) (fun q hq => hp q (by simp [hq]))⟩
    have := hp p (by simp)
    unfold loQ
    split
    · exact ⟨this, Rat.le_refl⟩
    · exact ⟨Rat.le_refl, this⟩
theorem inP_hi : ∀ (cs : List Rat) (ps : List (Rat × Rat)), cs.length = ps.length → okP ps → inP (highsQ cs ps) ps
  | [], [], _, _ => trivial
  | [], p :: ps, h, _ => by simp at h
  | c :: cs, [], h, _ => by simp at h
  | c :: cs, p :: ps, h, hp => by
    refine ⟨?_, inP_hi cs ps (by simpa using h) (fun q hq => hp q (by simp [hq]))⟩
    have := hp p (by simp)
    unfold hiQ
    split
    · exact ⟨Rat.le_refl, this⟩
    · exact ⟨this, Rat.le_refl⟩
theorem range_ok (k : Rat) (cs : List Rat) (ps : List (Rat × Rat)) (h : cs.length = ps.length) (hp : okP ps) : (rangeQ k cs ps).1 ≤ (rangeQ k cs ps).2 :=
  (range_has k cs _ ps h (inP_hi cs ps h hp)).1
theorem has_of (p : Rat × Rat) (v : Rat) : (Sc.of p).has (Fc.of v) ↔ (p.1 ≤ v ∧ v ≤ p.2) := by
  unfold Sc.has
  rw [Sc.of_ok]
  show (p.1 ≤ p.2 ∧ (Fc.of v).ok ∧ Fc.cmp (Fc.of p.1) (Fc.of v) ≤ 0 ∧ Fc.cmp (Fc.of v) (Fc.of p.2) ≤ 0) ↔ _
  rw [Fc.cmp_of, Fc.cmp_of, ordQ_le, ordQ_le]
  exact ⟨fun h => h.2.2, fun h => ⟨Rat.le_trans h.1 h.2, Fc.of_ok v, h⟩⟩
theorem inside_of (p q : Rat × Rat) : (Sc.of p).inside (Sc.of q) ↔ (p.1 ≤ p.2 ∧ q.1 ≤ p.1 ∧ p.2 ≤ q.2) := by
  unfold Sc.inside
  rw [Sc.of_ok, Sc.of_ok]
  show (p.1 ≤ p.2 ∧ q.1 ≤ q.2 ∧ Fc.cmp (Fc.of q.1) (Fc.of p.1) ≤ 0 ∧ Fc.cmp (Fc.of p.2) (Fc.of q.2) ≤ 0) ↔ _
  rw [Fc.cmp_of, Fc.cmp_of, ordQ_le, ordQ_le]
  exact ⟨fun h => ⟨h.1, h.2.2⟩, fun h => ⟨h.1, Rat.le_trans h.2.1 (Rat.le_trans h.1 h.2.2), h.2⟩⟩
theorem width_of (p : Rat × Rat) (h : p.1 ≤ p.2) : Sc.width (Sc.of p) = Fc.of (p.2 - p.1) := by
  unfold Sc.width
  rw [if_pos ((Sc.of_ok p).2 h)]
  exact Fc.sub_of _ _
end Go.Slot
