import Derived.Test.YtieohkidmjglgaaZ7
import Derived.JoinedCond
import Derived.ProofKit
/- The statement BackFloors: its walk. -/
namespace Go.Slot.T
open Go Go.RowKit Go.Slot
open Go.Proofs.Try (prog)
set_option maxRecDepth 10000
set_option maxHeartbeats 4000000

/-- sizes of what comes in -/
def room (f : Af) (l : List Sc) : Prop := f.l.length ≤ 1048576 ∧ l.length ≤ 1048576 ∧ f.le 67108864 ∧ ∀ s ∈ l, s.sz ≤ 67108864
def roomF (l : List Fc) : Prop := l.length ≤ 1048576 ∧ ∀ f ∈ l, f.sz ≤ 67108864
theorem few_small {f : Af} {l : List Sc} (h : fewC f l) : small f l := by
  obtain ⟨h1, h2, h3, h4, h5⟩ := h
  exact ⟨by omega, by omega, ⟨by omega, fun g hg => by have := h5 g hg; omega⟩, fun s hs => by have := h2 s hs; omega⟩
theorem wFew {f : Af} {l : List Sc} (h : room f l) : CallsTo prog 8 [.agg f.C, .one (.sl 8 (l.map Sc.C))] (.one (.raw (.bool (decide (fewC f l))))) := r46Few f l h.1 h.2.1 h.2.2.1 h.2.2.2
theorem wFew4 {v : Fc} (h : v.sz ≤ 67108864) : CallsTo prog 9 [.agg v.C, .one (.raw (.int .i64 4))] (.one (.raw (.bool (decide (v.sz ≤ 4))))) :=
  rFew4 v (by have := szL h; omega) (by have := szL h; omega)
theorem floorsF (f : Af) (l : List Sc) (v : Fc) (ms : List Fc) (hok : Bk.ok f l) (hv : v.ok) :
    (Bk.floor f l v ms = true → Fc.cmp v (Bk.bounds f l).low ≤ 0) ∧ Bk.floor f l v (ownM f.l) = decide (Fc.cmp v (Bk.bounds f l).low ≤ 0) := by
  obtain ⟨k, cs, ps, rfl, rfl, hl, hp⟩ := Bk.ok_ex hok
  obtain ⟨q, rfl⟩ := Fc.ok_ex hv
  have h := floors k cs ps q ms hl hp
  rw [bounds_of k cs ps hl hp]
  show (_ → Fc.cmp (Fc.of q) (Fc.of (rangeQ k cs ps).1) ≤ 0) ∧ Bk.floor (Af.of k cs) (ps.map Sc.of) (Fc.of q) (ownM (cs.map Fc.of)) = decide (Fc.cmp (Fc.of q) (Fc.of (rangeQ k cs ps).1) ≤ 0)
  rw [Fc.cmp_of, h.2]
  exact ⟨fun hf => (ordQ_le _ _).2 (h.1 hf), decide_eq_decide.2 (ordQ_le _ _).symm⟩
theorem ownM_sz : ∀ {l : List Fc} {n : Nat}, (∀ f ∈ l, f.sz ≤ n) → ∀ m ∈ ownM l, m.sz ≤ n + 1
  | [], _, _, m, hm => by cases hm
  | c :: l, n, h, m, hm => by
    have h0 := h c (by simp)
    have h1 := Fc.sz_maxf c (Fc.of 0)
    have h2 := Fc.sz_neg c
    have h3 := Fc.sz_maxf (Fc.neg c) (Fc.of 0)
    have hz := sz_zero1
    simp only [ownM, List.mem_cons] at hm
    rcases hm with rfl | rfl | hm
    · omega
    · omega
    · exact ownM_sz (fun f hf => h f (by simp [hf])) m hm
theorem ownM_snoc : ∀ (l : List Fc) (c : Fc), ownM (l ++ [c]) = ownM l ++ [Fc.maxf c (Fc.of 0), Fc.maxf (Fc.neg c) (Fc.of 0)]
  | [], c => rfl
  | d :: l, c => by simp [ownM, ownM_snoc l c]
theorem ownM_step {l : List Fc} {i : Nat} (h : i < l.length) :
    (ownM (l.take i)).map Fc.C ++ [(Fc.maxf (l.getD i Fc.zero) (Fc.of 0)).C, (Fc.maxf (Fc.neg (l.getD i Fc.zero)) (Fc.of 0)).C] = (ownM (l.take (i + 1))).map Fc.C := by
  rw [take_snoc Fc.zero h, ownM_snoc]; simp
theorem at_sz {a : Af} {v : List Fc} {B n : Nat} (ha : a.le B) (hv : ∀ f ∈ v, f.sz ≤ B) (hl : a.l.length ≤ n) : (a.at' v).sz ≤ B + 2 + n * (2 * B + 1) := by
  unfold Af.at'
  split
  · have h1 := sum_sz (B := B) a.l v (Af.copy a.c) ha.2 hv
    have h2 := copy_sz a.c
    have h3 := ha.1
    have h4 : a.l.length * (2 * B + 1) ≤ n * (2 * B + 1) := Nat.mul_le_mul_right _ hl
    omega
  · rw [Fc.sz_zero]; omega
theorem bounds_sz {f : Af} {l : List Sc} (h : fewC f l) : (Bk.bounds f l).low.sz ≤ 112 ∧ (Bk.bounds f l).high.sz ≤ 112 := by
  obtain ⟨h1, h2, h3, h4, h5⟩ := h
  have hle : f.le 6 := ⟨by omega, fun g hg => by have := h5 g hg; omega⟩
  unfold Bk.bounds
  split
  · exact ⟨at_sz (n := 8) hle (lows_sz h2) h4, at_sz (n := 8) hle (highs_sz h2) h4⟩
  · exact ⟨by decide, by decide⟩
theorem int0 : CallsTo prog 16 [.one (.raw (.int .i64 0))] (.agg (Fc.of 0).C) := rIntF 0 (by decide)
theorem wFloors (f : Af) (l : List Sc) (v : Fc) (ms : List Fc) (hr : room f l) (hv : v.sz ≤ 67108864) (hm : roomF ms) :
    CallsTo prog 3 [.agg f.C, .one (.sl 8 (l.map Sc.C)), .agg v.C, .one (.sl 4 (ms.map Fc.C))] (.one (.raw (.bool true))) := by
  have c1 := wFew hr
  have c2 := wFew4 hv
  have c3 := r46FewFracs ms 18 (by decide) hm.1 hm.2
  by_cases h1 : fewC f l
  · rw [decide_eq_true h1] at c1
    by_cases h2 : v.sz ≤ 4
    · rw [decide_eq_true h2] at c2
      by_cases h3 : fewF ms 18
      · rw [decide_eq_true h3] at c3
        by_cases h4 : v.ok
        · have hs := few_small h1
          have cB := cBounds f l hs
          have cF := cFloor f l v ms hs (by omega) (fun m hm => by have := h3.2 m hm; omega) hm.1
          by_cases h5 : Bk.ok f l
          · rw [Fc.er_of h5] at cB
            obtain ⟨g1, g2⟩ := floorsF f l v ms h5 h4
            have hown := ownM_sz h1.2.2.2.2
            have hol := ownM_len f.l
            have hfl := h1.2.2.2.1
            have cO := cFloor f l v (ownM f.l) hs (by omega) (fun m hm => by have := hown m hm; omega) (by omega)
            rw [g2] at cO
            have lB := (bounds_sz h1).1
            have cC := cCmpF v (Bk.bounds f l).low (by omega) (by omega)
            have hz1 := sz_zero1
            refine CallsTo.run [] Go.Proofs.Try.func3 rfl rfl ?_; conv => simp (maxSteps := 2000000) (disch := omega) only [go_sem, Nat.reduceAdd, Nat.reduceSub, Nat.reduceMul, Int.reduceToNat, Nat.reduceEqDiff, Nat.reduceBEq, Nat.reduceBneDiff, Go.Proofs.Try.f3, List.replicate]
            refine callk wSane ?_
            conv => simp (maxSteps := 2000000) (disch := omega) only [go_sem, Nat.reduceAdd, Nat.reduceSub, Nat.reduceMul, Int.reduceToNat, Nat.reduceEqDiff, Nat.reduceBEq, Nat.reduceBneDiff]
            refine callk c1 ?_
            conv => simp (maxSteps := 2000000) (disch := omega) only [go_sem, Nat.reduceAdd, Nat.reduceSub, Nat.reduceMul, Int.reduceToNat, Nat.reduceEqDiff, Nat.reduceBEq, Nat.reduceBneDiff]
            refine callk c2 ?_
            conv => simp (maxSteps := 2000000) (disch := omega) only [go_sem, Nat.reduceAdd, Nat.reduceSub, Nat.reduceMul, Int.reduceToNat, Nat.reduceEqDiff, Nat.reduceBEq, Nat.reduceBneDiff]
            refine callk c3 ?_
            conv => simp (maxSteps := 2000000) (disch := omega) only [go_sem, Nat.reduceAdd, Nat.reduceSub, Nat.reduceMul, Int.reduceToNat, Nat.reduceEqDiff, Nat.reduceBEq, Nat.reduceBneDiff]
            refine callk (cRightT v (by omega) h4) ?_
            conv => simp (maxSteps := 2000000) (disch := omega) only [go_sem, Nat.reduceAdd, Nat.reduceSub, Nat.reduceMul, Int.reduceToNat, Nat.reduceEqDiff, Nat.reduceBEq, Nat.reduceBneDiff]
            refine callk cB ?_
            conv => simp (maxSteps := 2000000) (disch := omega) only [go_sem, Nat.reduceAdd, Nat.reduceSub, Nat.reduceMul, Int.reduceToNat, Nat.reduceEqDiff, Nat.reduceBEq, Nat.reduceBneDiff]
            refine callk cF ?_
            conv => simp (maxSteps := 2000000) (disch := omega) only [go_sem, Nat.reduceAdd, Nat.reduceSub, Nat.reduceMul, Int.reduceToNat, Nat.reduceEqDiff, Nat.reduceBEq, Nat.reduceBneDiff]
            refine callk cC ?_
            conv => simp (maxSteps := 2000000) (disch := omega) only [go_sem, Nat.reduceAdd, Nat.reduceSub, Nat.reduceMul, Int.reduceToNat, Nat.reduceEqDiff, Nat.reduceBEq, Nat.reduceBneDiff]
            refine loopo [1, 9, 12, 13] (fun i : Nat => [(14, .one (.tok 97 (.sl 4 ((ownM (f.l.take i)).map Fc.C)))), (15, .one (.raw (.int .i64 i)))]) (fun i => i ≤ f.l.length) (fun i => f.l.length - i) 0 (Nat.zero_le _) ?_ ?_
            · refine StLe.trans (StLe.tokI 14 97 (.sl 4 []) rfl rfl rfl) ?_
              conv => simp (maxSteps := 2000000) (disch := omega) only [go_sem, Nat.reduceAdd, Nat.reduceSub, Nat.reduceMul, Int.reduceToNat, Nat.reduceEqDiff, Nat.reduceBEq, Nat.reduceBneDiff]
              exact StLe.weaken (by repeat' first | exact .nil | refine .cons (by first | exact .refl _ | exact .any _) ?_) rfl
            rintro i hi
            have hz : (ownM (f.l.take i)).length = 2 * i := by rw [ownM_len]; simp; omega
            conv => simp (maxSteps := 2000000) (disch := omega) only [go_sem, Nat.reduceAdd, Nat.reduceSub, Nat.reduceMul, Int.reduceToNat, Nat.reduceEqDiff, Nat.reduceBEq, Nat.reduceBneDiff]
            refine condd (fun h => ?_) (fun h => ?_)
            · have hi1 : i < f.l.length := by omega
              have hb := getD_sz h1.2.2.2.2 hi1
              have hn := Fc.sz_neg (f.l.getD i Fc.zero)
              have e := ownM_step hi1
              conv => simp (maxSteps := 2000000) (disch := omega) only [go_sem, Nat.reduceAdd, Nat.reduceSub, Nat.reduceMul, Int.reduceToNat, Nat.reduceEqDiff, Nat.reduceBEq, Nat.reduceBneDiff]
              refine callk int0 ?_
              conv => simp (maxSteps := 2000000) (disch := omega) only [go_sem, Nat.reduceAdd, Nat.reduceSub, Nat.reduceMul, Int.reduceToNat, Nat.reduceEqDiff, Nat.reduceBEq, Nat.reduceBneDiff]
              refine callk (cMaxF (f.l.getD i Fc.zero) (Fc.of 0) (by omega) (by omega)) ?_
              conv => simp (maxSteps := 2000000) (disch := omega) only [go_sem, Nat.reduceAdd, Nat.reduceSub, Nat.reduceMul, Int.reduceToNat, Nat.reduceEqDiff, Nat.reduceBEq, Nat.reduceBneDiff]
              refine indk (by kernel_rfl) ?_
              conv => simp (maxSteps := 2000000) (disch := omega) only [go_sem, Nat.reduceAdd, Nat.reduceSub, Nat.reduceMul, Int.reduceToNat, Nat.reduceEqDiff, Nat.reduceBEq, Nat.reduceBneDiff]
              refine callk (cNegF (f.l.getD i Fc.zero) (by omega)) ?_
              conv => simp (maxSteps := 2000000) (disch := omega) only [go_sem, Nat.reduceAdd, Nat.reduceSub, Nat.reduceMul, Int.reduceToNat, Nat.reduceEqDiff, Nat.reduceBEq, Nat.reduceBneDiff]
              refine callk int0 ?_
              conv => simp (maxSteps := 2000000) (disch := omega) only [go_sem, Nat.reduceAdd, Nat.reduceSub, Nat.reduceMul, Int.reduceToNat, Nat.reduceEqDiff, Nat.reduceBEq, Nat.reduceBneDiff]
              refine callk (cMaxF (Fc.neg (f.l.getD i Fc.zero)) (Fc.of 0) (by omega) (by omega)) ?_
              conv => simp (maxSteps := 2000000) (disch := omega) only [go_sem, Nat.reduceAdd, Nat.reduceSub, Nat.reduceMul, Int.reduceToNat, Nat.reduceEqDiff, Nat.reduceBEq, Nat.reduceBneDiff, hz]
              refine ⟨i + 1, by omega, by omega, ?_⟩
              rw [← e]
              exact StLe.weaken (by repeat' first | exact .nil | refine .cons (by first | exact .refl _ | exact .any _) ?_) rfl
            · have hi' : i = f.l.length := by omega
              rw [hi', List.take_length]
              by_cases hb : Fc.cmp v (Bk.bounds f l).low ≤ 0
              · rw [decide_eq_true hb] at cO ⊢
                cases hg : Bk.floor f l v ms with
                | true =>
                  conv => simp (maxSteps := 2000000) (disch := omega) only [go_sem, Nat.reduceAdd, Nat.reduceSub, Nat.reduceMul, Int.reduceToNat, Nat.reduceEqDiff, Nat.reduceBEq, Nat.reduceBneDiff]
                  refine callk cO ?_
                  conv => simp (maxSteps := 2000000) (disch := omega) only [go_sem, Nat.reduceAdd, Nat.reduceSub, Nat.reduceMul, Int.reduceToNat, Nat.reduceEqDiff, Nat.reduceBEq, Nat.reduceBneDiff]
                  exact ⟨_, rfl, .one (.refl _)⟩
                | false =>
                  conv => simp (maxSteps := 2000000) (disch := omega) only [go_sem, Nat.reduceAdd, Nat.reduceSub, Nat.reduceMul, Int.reduceToNat, Nat.reduceEqDiff, Nat.reduceBEq, Nat.reduceBneDiff]
                  refine callk cO ?_
                  conv => simp (maxSteps := 2000000) (disch := omega) only [go_sem, Nat.reduceAdd, Nat.reduceSub, Nat.reduceMul, Int.reduceToNat, Nat.reduceEqDiff, Nat.reduceBEq, Nat.reduceBneDiff]
                  exact ⟨_, rfl, .one (.refl _)⟩
              · rw [decide_eq_false hb] at cO ⊢
                cases hg : Bk.floor f l v ms with
                | true => exact absurd (g1 hg) hb
                | false =>
                  conv => simp (maxSteps := 2000000) (disch := omega) only [go_sem, Nat.reduceAdd, Nat.reduceSub, Nat.reduceMul, Int.reduceToNat, Nat.reduceEqDiff, Nat.reduceBEq, Nat.reduceBneDiff]
                  refine callk cO ?_
                  conv => simp (maxSteps := 2000000) (disch := omega) only [go_sem, Nat.reduceAdd, Nat.reduceSub, Nat.reduceMul, Int.reduceToNat, Nat.reduceEqDiff, Nat.reduceBEq, Nat.reduceBneDiff]
                  exact ⟨_, rfl, .one (.refl _)⟩
          · rw [Fc.er_bad h5] at cB
            rw [show Bk.floor f l v ms = false from if_neg (fun h => h5 h.1)] at cF
            refine CallsTo.run [] Go.Proofs.Try.func3 rfl rfl ?_; conv => simp (maxSteps := 2000000) (disch := omega) only [go_sem, Nat.reduceAdd, Nat.reduceSub, Nat.reduceMul, Int.reduceToNat, Nat.reduceEqDiff, Nat.reduceBEq, Nat.reduceBneDiff, Go.Proofs.Try.f3, List.replicate]
            refine callk wSane ?_
            conv => simp (maxSteps := 2000000) (disch := omega) only [go_sem, Nat.reduceAdd, Nat.reduceSub, Nat.reduceMul, Int.reduceToNat, Nat.reduceEqDiff, Nat.reduceBEq, Nat.reduceBneDiff]
            refine callk c1 ?_
            conv => simp (maxSteps := 2000000) (disch := omega) only [go_sem, Nat.reduceAdd, Nat.reduceSub, Nat.reduceMul, Int.reduceToNat, Nat.reduceEqDiff, Nat.reduceBEq, Nat.reduceBneDiff]
            refine callk c2 ?_
            conv => simp (maxSteps := 2000000) (disch := omega) only [go_sem, Nat.reduceAdd, Nat.reduceSub, Nat.reduceMul, Int.reduceToNat, Nat.reduceEqDiff, Nat.reduceBEq, Nat.reduceBneDiff]
            refine callk c3 ?_
            conv => simp (maxSteps := 2000000) (disch := omega) only [go_sem, Nat.reduceAdd, Nat.reduceSub, Nat.reduceMul, Int.reduceToNat, Nat.reduceEqDiff, Nat.reduceBEq, Nat.reduceBneDiff]
            refine callk (cRightT v (by omega) h4) ?_
            conv => simp (maxSteps := 2000000) (disch := omega) only [go_sem, Nat.reduceAdd, Nat.reduceSub, Nat.reduceMul, Int.reduceToNat, Nat.reduceEqDiff, Nat.reduceBEq, Nat.reduceBneDiff]
            refine callk cB ?_
            conv => simp (maxSteps := 2000000) (disch := omega) only [go_sem, Nat.reduceAdd, Nat.reduceSub, Nat.reduceMul, Int.reduceToNat, Nat.reduceEqDiff, Nat.reduceBEq, Nat.reduceBneDiff]
            refine callk cF ?_
            conv => simp (maxSteps := 2000000) (disch := omega) only [go_sem, Nat.reduceAdd, Nat.reduceSub, Nat.reduceMul, Int.reduceToNat, Nat.reduceEqDiff, Nat.reduceBEq, Nat.reduceBneDiff]
            refine condd (fun _ => ?_) (fun h => absurd (by decide) h)
            conv => simp (maxSteps := 2000000) (disch := omega) only [go_sem, Nat.reduceAdd, Nat.reduceSub, Nat.reduceMul, Int.reduceToNat, Nat.reduceEqDiff, Nat.reduceBEq, Nat.reduceBneDiff]
            exact ⟨_, rfl, .one (.refl _)⟩
        · refine CallsTo.run [] Go.Proofs.Try.func3 rfl rfl ?_; conv => simp (maxSteps := 2000000) (disch := omega) only [go_sem, Nat.reduceAdd, Nat.reduceSub, Nat.reduceMul, Int.reduceToNat, Nat.reduceEqDiff, Nat.reduceBEq, Nat.reduceBneDiff, Go.Proofs.Try.f3, List.replicate]
          refine callk wSane ?_
          conv => simp (maxSteps := 2000000) (disch := omega) only [go_sem, Nat.reduceAdd, Nat.reduceSub, Nat.reduceMul, Int.reduceToNat, Nat.reduceEqDiff, Nat.reduceBEq, Nat.reduceBneDiff]
          refine callk c1 ?_
          conv => simp (maxSteps := 2000000) (disch := omega) only [go_sem, Nat.reduceAdd, Nat.reduceSub, Nat.reduceMul, Int.reduceToNat, Nat.reduceEqDiff, Nat.reduceBEq, Nat.reduceBneDiff]
          refine callk c2 ?_
          conv => simp (maxSteps := 2000000) (disch := omega) only [go_sem, Nat.reduceAdd, Nat.reduceSub, Nat.reduceMul, Int.reduceToNat, Nat.reduceEqDiff, Nat.reduceBEq, Nat.reduceBneDiff]
          refine callk c3 ?_
          conv => simp (maxSteps := 2000000) (disch := omega) only [go_sem, Nat.reduceAdd, Nat.reduceSub, Nat.reduceMul, Int.reduceToNat, Nat.reduceEqDiff, Nat.reduceBEq, Nat.reduceBneDiff]
          refine callk (cRightBad v (by omega) h4) ?_
          conv => simp (maxSteps := 2000000) (disch := omega) only [go_sem, Nat.reduceAdd, Nat.reduceSub, Nat.reduceMul, Int.reduceToNat, Nat.reduceEqDiff, Nat.reduceBEq, Nat.reduceBneDiff]
          exact ⟨_, rfl, .one (.refl _)⟩
      · rw [decide_eq_false h3] at c3
        refine CallsTo.run [] Go.Proofs.Try.func3 rfl rfl ?_; conv => simp (maxSteps := 2000000) (disch := omega) only [go_sem, Nat.reduceAdd, Nat.reduceSub, Nat.reduceMul, Int.reduceToNat, Nat.reduceEqDiff, Nat.reduceBEq, Nat.reduceBneDiff, Go.Proofs.Try.f3, List.replicate]
        refine callk wSane ?_
        conv => simp (maxSteps := 2000000) (disch := omega) only [go_sem, Nat.reduceAdd, Nat.reduceSub, Nat.reduceMul, Int.reduceToNat, Nat.reduceEqDiff, Nat.reduceBEq, Nat.reduceBneDiff]
        refine callk c1 ?_
        conv => simp (maxSteps := 2000000) (disch := omega) only [go_sem, Nat.reduceAdd, Nat.reduceSub, Nat.reduceMul, Int.reduceToNat, Nat.reduceEqDiff, Nat.reduceBEq, Nat.reduceBneDiff]
        refine callk c2 ?_
        conv => simp (maxSteps := 2000000) (disch := omega) only [go_sem, Nat.reduceAdd, Nat.reduceSub, Nat.reduceMul, Int.reduceToNat, Nat.reduceEqDiff, Nat.reduceBEq, Nat.reduceBneDiff]
        refine callk c3 ?_
        conv => simp (maxSteps := 2000000) (disch := omega) only [go_sem, Nat.reduceAdd, Nat.reduceSub, Nat.reduceMul, Int.reduceToNat, Nat.reduceEqDiff, Nat.reduceBEq, Nat.reduceBneDiff]
        exact ⟨_, rfl, .one (.refl _)⟩
    · rw [decide_eq_false h2] at c2
      refine CallsTo.run [] Go.Proofs.Try.func3 rfl rfl ?_; conv => simp (maxSteps := 2000000) (disch := omega) only [go_sem, Nat.reduceAdd, Nat.reduceSub, Nat.reduceMul, Int.reduceToNat, Nat.reduceEqDiff, Nat.reduceBEq, Nat.reduceBneDiff, Go.Proofs.Try.f3, List.replicate]
      refine callk wSane ?_
      conv => simp (maxSteps := 2000000) (disch := omega) only [go_sem, Nat.reduceAdd, Nat.reduceSub, Nat.reduceMul, Int.reduceToNat, Nat.reduceEqDiff, Nat.reduceBEq, Nat.reduceBneDiff]
      refine callk c1 ?_
      conv => simp (maxSteps := 2000000) (disch := omega) only [go_sem, Nat.reduceAdd, Nat.reduceSub, Nat.reduceMul, Int.reduceToNat, Nat.reduceEqDiff, Nat.reduceBEq, Nat.reduceBneDiff]
      refine callk c2 ?_
      conv => simp (maxSteps := 2000000) (disch := omega) only [go_sem, Nat.reduceAdd, Nat.reduceSub, Nat.reduceMul, Int.reduceToNat, Nat.reduceEqDiff, Nat.reduceBEq, Nat.reduceBneDiff]
      exact ⟨_, rfl, .one (.refl _)⟩
  · rw [decide_eq_false h1] at c1
    refine CallsTo.run [] Go.Proofs.Try.func3 rfl rfl ?_; conv => simp (maxSteps := 2000000) (disch := omega) only [go_sem, Nat.reduceAdd, Nat.reduceSub, Nat.reduceMul, Int.reduceToNat, Nat.reduceEqDiff, Nat.reduceBEq, Nat.reduceBneDiff, Go.Proofs.Try.f3, List.replicate]
    refine callk wSane ?_
    conv => simp (maxSteps := 2000000) (disch := omega) only [go_sem, Nat.reduceAdd, Nat.reduceSub, Nat.reduceMul, Int.reduceToNat, Nat.reduceEqDiff, Nat.reduceBEq, Nat.reduceBneDiff]
    refine callk c1 ?_
    conv => simp (maxSteps := 2000000) (disch := omega) only [go_sem, Nat.reduceAdd, Nat.reduceSub, Nat.reduceMul, Int.reduceToNat, Nat.reduceEqDiff, Nat.reduceBEq, Nat.reduceBneDiff]
    exact ⟨_, rfl, .one (.refl _)⟩
end Go.Slot.T

/- The arguments of layer 46's statements, out of their readings. -/
namespace Go.Proofs.Ytieohkidmjglgaa
set_option maxRecDepth 100000
open Go Go.Slot Go.ChangeShapes Go.WideShapes Go.RowKit
theorem ownKnob0 : ownKnob Try.prog.godebug = none := by kernel_rfl
theorem laid0 : laidOutB Try.prog = true := by kernel_rfl
theorem spA_is : spOf Try.prog 8 29 = some spA := by kernel_rfl
theorem spF_is : spOf Try.prog 8 26 = some spF := by kernel_rfl
theorem spFs_is : spOf Try.prog 8 27 = some [.sl spF] := by kernel_rfl
theorem spSs_is : spOf Try.prog 8 30 = some [.sl spS] := by kernel_rfl
def zF : Value := .agg #[.int .i64 0, .slice none 0 0, .int .i64 0, .slice none 0 0]
def zA : Value := .agg #[.int .i64 0, .slice none 0 0, .int .i64 0, .slice none 0 0, .slice none 0 0]
def dZ {H : Type} : DataW H := .agg [.lit (.int .i64 0), .nil]
def dF {H : Type} : DataW H := .agg [dZ, dZ]
def dA {H : Type} : DataW H := .agg [dF, .nil]
section
variable {H : Type} {enc : TypeId × Value → H} {W : World} {v : Value} {d : DataW H} {p : List MemPlace} {b : Nat}
theorem openA (hval : Value.okWide Try.prog W .any b 29 v) (hd : DataW.Trod enc Try.prog W 0 (fun _ => true) true 29 v d p) (hb : Rows.uptoBulk d ≤ 1048576) :
    ∃ a : Af, RdB M0 W v (.agg a.C) ∧ a.l.length ≤ 1048576 ∧ a.le 67108864 := by
  obtain ⟨cells, h1, h2⟩ := arg_struct bulk Try.underlying29 spA_is hval hd hb
  obtain ⟨a, rfl, h3, h4⟩ := fitA h1
  exact ⟨a, h2, h3, ⟨by have := h4.1; omega, fun g hg => by have := h4.2 g hg; omega⟩⟩
theorem openF (hval : Value.okWide Try.prog W .any b 26 v) (hd : DataW.Trod enc Try.prog W 0 (fun _ => true) true 26 v d p) (hb : Rows.uptoBulk d ≤ 1048576) :
    ∃ f : Fc, RdB M0 W v (.agg f.C) ∧ f.sz ≤ 67108864 := by
  obtain ⟨cells, h1, h2⟩ := arg_struct bulk Try.underlying26 spF_is hval hd hb
  obtain ⟨f, rfl, h3⟩ := fitF h1
  exact ⟨f, h2, by omega⟩
theorem openFs (hval : Value.okWide Try.prog W .any b 27 v) (hd : DataW.Trod enc Try.prog W 0 (fun _ => true) true 27 v d p) (hb : Rows.uptoBulk d ≤ 1048576) :
    ∃ l : List Fc, RdB M0 W v (.one (.sl 4 (l.map Fc.C))) ∧ l.length ≤ 1048576 ∧ ∀ f ∈ l, f.sz ≤ 67108864 := by
  obtain ⟨c, h1, h2⟩ := arg_slice bulk Try.underlying27 spFs_is hval hd hb
  obtain ⟨l, rfl, h3, h4⟩ := fitFs h1
  exact ⟨l, h2, h3, fun f hf => by have := h4 f hf; omega⟩
theorem openSs (hval : Value.okWide Try.prog W .any b 30 v) (hd : DataW.Trod enc Try.prog W 0 (fun _ => true) true 30 v d p) (hb : Rows.uptoBulk d ≤ 1048576) :
    ∃ l : List Sc, RdB M0 W v (.one (.sl 8 (l.map Sc.C))) ∧ l.length ≤ 1048576 ∧ ∀ s ∈ l, s.sz ≤ 67108864 := by
  obtain ⟨c, h1, h2⟩ := arg_slice bulk Try.underlying30 spSs_is hval hd hb
  obtain ⟨l, rfl, h3, h4⟩ := fitSs h1
  exact ⟨l, h2, h3, fun f hf => by have := h4 f hf; omega⟩
end
/-- how a law's call ends -/
theorem ended {f : FuncId} {args : List AV} {vs : List Value} {W : World} (hc : CallsTo Try.prog f args (.one (.raw (.bool true)))) (hr : RdBL M0 W vs args) : Calls Try.prog f vs.toArray W fun e W' => e = .returned (.bool true) ∧ Below W.heap.size W W' :=
  (hc.2 M0 W vs (fun b o h => h.elim) hr).mono (fun e W' ⟨v, he, hb, hr', _⟩ => by
    have hv : v = .bool true := RdC.raw_inv hr'
    rw [hv] at he
    exact ⟨he, hb⟩)
end Go.Proofs.Ytieohkidmjglgaa
