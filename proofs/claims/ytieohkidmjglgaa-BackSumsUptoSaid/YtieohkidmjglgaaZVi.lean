/-
  BackSums: for all arguments of bulk at most 1048576 the statement returns true, and the arguments read as before.
-/
import Derived.Test.YtieohkidmjglgaaZ8
/- The statement BackBounds: its walk. -/
namespace Go.Slot.T
open Go Go.RowKit Go.Slot
open Go.Proofs.Try (prog)
set_option maxRecDepth 10000
set_option maxHeartbeats 4000000

/-- arguments that say more -/
theorem CallsTo.more {P : Program} {f : FuncId} {args args' : List AV} {res : AV} (h : CallsTo P f args res) (hle : LeS args' args) : CallsTo P f args' res :=
  ⟨h.1, fun M w vs hM hr => h.2 M w vs hM (by
    clear h
    induction hle generalizing vs with
    | nil => exact hr
    | cons h1 _ ih =>
      cases vs with
      | nil => exact hr.elim
      | cons v vs => exact ⟨RdB.le h1 hr.1, ih vs hr.2⟩)⟩
theorem insB_of : ∀ {vs : List Rat} {ps : List (Rat × Rat)}, inP vs ps → insB (vs.map Fc.of) (ps.map Sc.of) = true
  | [], [], _ => rfl
  | v :: vs, p :: ps, h => by
    show (decide ((Sc.of p).has (Fc.of v)) && insB (vs.map Fc.of) (ps.map Sc.of)) = true
    rw [decide_eq_true ((has_of p v).2 h.1), insB_of h.2]; rfl
theorem insB_ex : ∀ {v : List Fc} {ps : List (Rat × Rat)}, insB v (ps.map Sc.of) = true → ∃ vs : List Rat, v = vs.map Fc.of ∧ inP vs ps
  | [], [], _ => ⟨[], rfl, trivial⟩
  | [], _ :: _, h => by cases h
  | _ :: _, [], h => by cases h
  | f :: v, p :: ps, h => by
    have h : (decide ((Sc.of p).has f) && insB v (ps.map Sc.of)) = true := h
    rw [Bool.and_eq_true] at h
    have h1 := of_decide_eq_true h.1
    obtain ⟨q, rfl⟩ := Fc.ok_ex h1.2.1
    obtain ⟨vs, rfl, hi⟩ := insB_ex h.2
    exact ⟨q :: vs, rfl, (has_of p q).1 h1, hi⟩
theorem intM1 : CallsTo prog 16 [.one (.raw (.int .i64 (-1)))] (.agg (Fc.of (-1)).C) := rIntF (-1) (by decide)
theorem sameF_true (a : Fc) (h : a.sz ≤ 67108864) : CallsTo prog 22 [.agg a.C, .agg a.C] (.one (.raw (.bool true))) := by
  have := rSameF a a h h
  rwa [decide_eq_true rfl] at this
theorem sameZ : CallsTo prog 24 [.agg Sc.zero.C, .agg [.raw (.int .i64 0), .zc, .raw (.int .i64 0), .zc, .raw (.int .i64 0), .zc, .raw (.int .i64 0), .zc]] (.one (.raw (.bool true))) := by
  have := r10Same Sc.zero Sc.zero (by decide) (by decide)
  rw [decide_eq_true rfl] at this
  exact CallsTo.more this (.cons (.refl _) (.cons zeroS .nil))
theorem wBounds (f : Af) (l : List Sc) (pt : List Fc) (hr : room f l) (hp : roomF pt) :
    CallsTo prog 5 [.agg f.C, .one (.sl 8 (l.map Sc.C)), .one (.sl 4 (pt.map Fc.C))] (.one (.raw (.bool true))) := by
  have c1 := wFew hr
  have c3 := r46FewFracs pt 8 (by decide) hp.1 hp.2
  by_cases h1 : fewC f l
  · rw [decide_eq_true h1] at c1
    by_cases h3 : fewF pt 8
    · rw [decide_eq_true h3] at c3
      have hs := few_small h1
      have cB := cBounds f l hs
      have hbs := bounds_sz h1
      by_cases h5 : Bk.ok f l
      · rw [Fc.er_of h5] at cB
        have cL := cLeast f l hs
        rw [if_pos h5, if_pos h5, Fc.er_of h5] at cL
        have hlsz : ∀ g ∈ Bk.lows f l, g.sz ≤ 6 := lows_sz h1.2.1
        have hfle : f.le 4 := ⟨h1.2.2.1, h1.2.2.2.2⟩
        have cA1 := cAt f (Bk.lows f l) hs.1 (by have := hs.2.1; unfold Bk.lows; simp; omega) (le_mono hfle (by decide)) (fun g hg => by have := hlsz g hg; omega)
        have hv1 : (f.at' (Bk.lows f l)).sz ≤ 112 := at_sz (n := 8) (le_mono hfle (show 4 ≤ 6 by decide)) hlsz h1.2.2.2.1
        have cI1 := wInside (Bk.lows f l) l (by have := hs.2.1; unfold Bk.lows; simp; omega) (by have := hs.2.1; omega) (fun g hg => by have := hlsz g hg; omega) (fun s hs' => by have := h1.2.1 s hs'; omega)
        have m1 : (Fc.of (-1)).sz ≤ 4 := sz_lit _ (by decide) (by decide)
        have cT := cTimesA f (Fc.of (-1)) (by have := hs.1; omega) (le_mono hfle (by decide)) (by omega)
        obtain ⟨k, cs, ps, rfl, rfl, hl, hps⟩ := Bk.ok_ex h5
        have hlen : (Af.of k cs).l.length = cs.length := by simp [Af.of]
        have hlen2 : (ps.map Sc.of).length = ps.length := by simp
        have hlN : ps.length ≤ 8 := by have := h1.1; rwa [hlen2] at this
        rw [bounds_of k cs ps hl hps] at cB hbs
        rw [Fc.er_of ⟨(Af.of_ok k cs _).2 hlen.symm, Fc.of_ok _⟩, times_of] at cT
        have hother : small (Af.of (k * -1) (cs.map (· * -1))) (ps.map Sc.of) := by
          refine ⟨by simp [Af.of]; omega, by omega, ⟨?_, fun g hg => ?_⟩, hs.2.2.2⟩
          · have := Fc.sz_mul_of k (-1)
            have := hfle.1
            show (Fc.of (k * -1)).sz ≤ 4096
            have e : (Af.of k cs).c = Fc.of k := rfl
            rw [e] at this
            omega
          · obtain ⟨q, hq, rfl⟩ := List.mem_map.1 hg
            obtain ⟨c, hc, rfl⟩ := List.mem_map.1 hq
            have := Fc.sz_mul_of c (-1)
            have := hfle.2 (Fc.of c) (List.mem_map.2 ⟨c, hc, rfl⟩)
            omega
        have hok2 : Bk.ok (Af.of (k * -1) (cs.map (· * -1))) (ps.map Sc.of) := (Bk.ok_of _ _ ps).2 ⟨by simpa using hl, hps⟩
        have cL2 := cLeast _ _ hother
        have hl2 : (cs.map (· * (-1 : Rat))).length = ps.length := by simpa using hl
        rw [if_pos hok2, if_pos hok2, Fc.er_of hok2, least_of _ _ ps hl2, range_times k (-1) cs ps hl, if_neg (by decide)] at cL2
        rw [lows_of] at cL2
        rw [lows_of] at hlsz
        rw [least_of k cs ps hl] at cL hv1
        rw [lows_of] at cL cA1 cI1
        rw [Af.at_of k cs _ (lowsQ_len hl), decide_eq_true ⟨(Af.of_ok k cs _).2 (by rw [List.length_map, ← lowsQ_len hl]), oks_map _⟩] at cA1
        rw [show sumQ k cs (lowsQ cs ps) = (rangeQ k cs ps).1 from rfl] at cA1
        rw [insB_of (inP_lo cs ps hl hps)] at cI1
        have hysz : ∀ g ∈ (lowsQ (cs.map (· * (-1 : Rat))) ps).map Fc.of, g.sz ≤ 6 := by
          have := lows_sz (f := Af.of (k * -1) (cs.map (· * -1))) h1.2.1
          rwa [lows_of] at this
        have hylen : cs.length = (lowsQ (cs.map (· * (-1 : Rat))) ps).length := by rw [← lowsQ_len hl2]; simp
        have cA2 := cAt (Af.of k cs) ((lowsQ (cs.map (· * (-1 : Rat))) ps).map Fc.of) hs.1 (by rw [List.length_map, ← hylen]; omega) (le_mono hfle (by decide)) (fun g hg => by have := hysz g hg; omega)
        rw [Af.at_of k cs _ hylen, decide_eq_true ⟨(Af.of_ok k cs _).2 (by rw [List.length_map, ← hylen]), oks_map _⟩, top_value k cs ps hl] at cA2
        have cI2 := wInside ((lowsQ (cs.map (· * (-1 : Rat))) ps).map Fc.of) (ps.map Sc.of) (by rw [List.length_map, ← hylen]; omega) (by omega) (fun g hg => by have := hysz g hg; omega) (fun s hs' => by have := h1.2.1 s hs'; omega)
        rw [insB_of (inP_lo _ ps hl2 hps)] at cI2
        have hR1 : (Fc.of (rangeQ k cs ps).1).sz ≤ 112 := hbs.1
        have hR2 : (Fc.of (rangeQ k cs ps).2).sz ≤ 112 := hbs.2
        have hR3 : (Fc.of ((rangeQ k cs ps).2 * -1)).sz ≤ 116 := by have := Fc.sz_mul_of (rangeQ k cs ps).2 (-1); omega
        have cN := cNegF (Fc.of ((rangeQ k cs ps).2 * -1)) (by omega)
        rw [Fc.neg_of, show -((rangeQ k cs ps).2 * -1) = (rangeQ k cs ps).2 by grind] at cN
        have s1 := sameF_true (Fc.of (rangeQ k cs ps).1) (by omega)
        have s2 := sameF_true (Fc.of (rangeQ k cs ps).2) (by omega)
        have cI3 := wInside pt (ps.map Sc.of) hp.1 (by omega) hp.2 (fun s hs' => by have := h1.2.1 s hs'; omega)
        refine CallsTo.run [] Go.Proofs.Try.func5 rfl rfl ?_; conv => simp (maxSteps := 2000000) (disch := omega) only [go_sem, Nat.reduceAdd, Nat.reduceSub, Nat.reduceMul, Int.reduceToNat, Nat.reduceEqDiff, Nat.reduceBEq, Nat.reduceBneDiff, Go.Proofs.Try.f5, List.replicate]
        refine callk wSane ?_
        conv => simp (maxSteps := 2000000) (disch := omega) only [go_sem, Nat.reduceAdd, Nat.reduceSub, Nat.reduceMul, Int.reduceToNat, Nat.reduceEqDiff, Nat.reduceBEq, Nat.reduceBneDiff]
        refine callk c1 ?_
        conv => simp (maxSteps := 2000000) (disch := omega) only [go_sem, Nat.reduceAdd, Nat.reduceSub, Nat.reduceMul, Int.reduceToNat, Nat.reduceEqDiff, Nat.reduceBEq, Nat.reduceBneDiff]
        refine callk c3 ?_
        conv => simp (maxSteps := 2000000) (disch := omega) only [go_sem, Nat.reduceAdd, Nat.reduceSub, Nat.reduceMul, Int.reduceToNat, Nat.reduceEqDiff, Nat.reduceBEq, Nat.reduceBneDiff]
        refine callk cB ?_
        conv => simp (maxSteps := 2000000) (disch := omega) only [go_sem, Nat.reduceAdd, Nat.reduceSub, Nat.reduceMul, Int.reduceToNat, Nat.reduceEqDiff, Nat.reduceBEq, Nat.reduceBneDiff]
        refine callk cL ?_
        conv => simp (maxSteps := 2000000) (disch := omega) only [go_sem, Nat.reduceAdd, Nat.reduceSub, Nat.reduceMul, Int.reduceToNat, Nat.reduceEqDiff, Nat.reduceBEq, Nat.reduceBneDiff]
        refine callk cA1 ?_
        conv => simp (maxSteps := 2000000) (disch := omega) only [go_sem, Nat.reduceAdd, Nat.reduceSub, Nat.reduceMul, Int.reduceToNat, Nat.reduceEqDiff, Nat.reduceBEq, Nat.reduceBneDiff]
        refine callk intM1 ?_
        conv => simp (maxSteps := 2000000) (disch := omega) only [go_sem, Nat.reduceAdd, Nat.reduceSub, Nat.reduceMul, Int.reduceToNat, Nat.reduceEqDiff, Nat.reduceBEq, Nat.reduceBneDiff]
        refine callk cT ?_
        conv => simp (maxSteps := 2000000) (disch := omega) only [go_sem, Nat.reduceAdd, Nat.reduceSub, Nat.reduceMul, Int.reduceToNat, Nat.reduceEqDiff, Nat.reduceBEq, Nat.reduceBneDiff]
        refine indk (by kernel_rfl) ?_
        conv => simp (maxSteps := 2000000) (disch := omega) only [go_sem, Nat.reduceAdd, Nat.reduceSub, Nat.reduceMul, Int.reduceToNat, Nat.reduceEqDiff, Nat.reduceBEq, Nat.reduceBneDiff]
        refine callk cL2 ?_
        conv => simp (maxSteps := 2000000) (disch := omega) only [go_sem, Nat.reduceAdd, Nat.reduceSub, Nat.reduceMul, Int.reduceToNat, Nat.reduceEqDiff, Nat.reduceBEq, Nat.reduceBneDiff]
        refine callk cA2 ?_
        conv => simp (maxSteps := 2000000) (disch := omega) only [go_sem, Nat.reduceAdd, Nat.reduceSub, Nat.reduceMul, Int.reduceToNat, Nat.reduceEqDiff, Nat.reduceBEq, Nat.reduceBneDiff]
        refine callk cI1 ?_
        conv => simp (maxSteps := 2000000) (disch := omega) only [go_sem, Nat.reduceAdd, Nat.reduceSub, Nat.reduceMul, Int.reduceToNat, Nat.reduceEqDiff, Nat.reduceBEq, Nat.reduceBneDiff]
        refine callk cI2 ?_
        conv => simp (maxSteps := 2000000) (disch := omega) only [go_sem, Nat.reduceAdd, Nat.reduceSub, Nat.reduceMul, Int.reduceToNat, Nat.reduceEqDiff, Nat.reduceBEq, Nat.reduceBneDiff]
        refine callk s1 ?_
        conv => simp (maxSteps := 2000000) (disch := omega) only [go_sem, Nat.reduceAdd, Nat.reduceSub, Nat.reduceMul, Int.reduceToNat, Nat.reduceEqDiff, Nat.reduceBEq, Nat.reduceBneDiff]
        refine callk s1 ?_
        conv => simp (maxSteps := 2000000) (disch := omega) only [go_sem, Nat.reduceAdd, Nat.reduceSub, Nat.reduceMul, Int.reduceToNat, Nat.reduceEqDiff, Nat.reduceBEq, Nat.reduceBneDiff]
        refine callk s2 ?_
        conv => simp (maxSteps := 2000000) (disch := omega) only [go_sem, Nat.reduceAdd, Nat.reduceSub, Nat.reduceMul, Int.reduceToNat, Nat.reduceEqDiff, Nat.reduceBEq, Nat.reduceBneDiff]
        refine callk cN ?_
        conv => simp (maxSteps := 2000000) (disch := omega) only [go_sem, Nat.reduceAdd, Nat.reduceSub, Nat.reduceMul, Int.reduceToNat, Nat.reduceEqDiff, Nat.reduceBEq, Nat.reduceBneDiff]
        refine callk s2 ?_
        conv => simp (maxSteps := 2000000) (disch := omega) only [go_sem, Nat.reduceAdd, Nat.reduceSub, Nat.reduceMul, Int.reduceToNat, Nat.reduceEqDiff, Nat.reduceBEq, Nat.reduceBneDiff]
        refine indk (by kernel_rfl) ?_
        conv => simp (maxSteps := 2000000) (disch := omega) only [go_sem, Nat.reduceAdd, Nat.reduceSub, Nat.reduceMul, Int.reduceToNat, Nat.reduceEqDiff, Nat.reduceBEq, Nat.reduceBneDiff]
        cases hin : insB pt (ps.map Sc.of) with
        | false =>
          rw [hin] at cI3
          refine callk cI3 ?_
          conv => simp (maxSteps := 2000000) (disch := omega) only [go_sem, Nat.reduceAdd, Nat.reduceSub, Nat.reduceMul, Int.reduceToNat, Nat.reduceEqDiff, Nat.reduceBEq, Nat.reduceBneDiff]
          exact ⟨_, rfl, .one (.refl _)⟩
        | true =>
          rw [hin] at cI3
          obtain ⟨vs, rfl, hvs⟩ := insB_ex hin
          have hvl := inP_len hvs
          have cA3 := cAt (Af.of k cs) (vs.map Fc.of) hs.1 (by rw [List.length_map]; omega) (le_mono hfle (by decide)) (fun g hg => by have := h3.2 g hg; omega)
          have hval := at_sz (a := Af.of k cs) (n := 8) hfle h3.2 h1.2.2.2.1
          rw [Af.at_of k cs vs (by omega), decide_eq_true ⟨(Af.of_ok k cs _).2 (by rw [List.length_map]; omega), oks_map _⟩] at cA3
          rw [Af.at_of k cs vs (by omega)] at hval
          have cH := cSpanHas (Sc.of (rangeQ k cs ps)) (Fc.of (sumQ k cs vs)) (by show max _ _ ≤ _; have := hbs; omega) (by omega)
          rw [decide_eq_true ((has_of _ _).2 (range_has k cs vs ps hl hvs))] at cH
          refine callk cI3 ?_
          conv => simp (maxSteps := 2000000) (disch := omega) only [go_sem, Nat.reduceAdd, Nat.reduceSub, Nat.reduceMul, Int.reduceToNat, Nat.reduceEqDiff, Nat.reduceBEq, Nat.reduceBneDiff]
          refine callk cA3 ?_
          conv => simp (maxSteps := 2000000) (disch := omega) only [go_sem, Nat.reduceAdd, Nat.reduceSub, Nat.reduceMul, Int.reduceToNat, Nat.reduceEqDiff, Nat.reduceBEq, Nat.reduceBneDiff]
          refine callk cH ?_
          conv => simp (maxSteps := 2000000) (disch := omega) only [go_sem, Nat.reduceAdd, Nat.reduceSub, Nat.reduceMul, Int.reduceToNat, Nat.reduceEqDiff, Nat.reduceBEq, Nat.reduceBneDiff]
          exact ⟨_, rfl, .one (.refl _)⟩
      · rw [Fc.er_bad h5, show Bk.bounds f l = Sc.zero from if_neg h5] at cB
        refine CallsTo.run [] Go.Proofs.Try.func5 rfl rfl ?_; conv => simp (maxSteps := 2000000) (disch := omega) only [go_sem, Nat.reduceAdd, Nat.reduceSub, Nat.reduceMul, Int.reduceToNat, Nat.reduceEqDiff, Nat.reduceBEq, Nat.reduceBneDiff, Go.Proofs.Try.f5, List.replicate]
        refine callk wSane ?_
        conv => simp (maxSteps := 2000000) (disch := omega) only [go_sem, Nat.reduceAdd, Nat.reduceSub, Nat.reduceMul, Int.reduceToNat, Nat.reduceEqDiff, Nat.reduceBEq, Nat.reduceBneDiff]
        refine callk c1 ?_
        conv => simp (maxSteps := 2000000) (disch := omega) only [go_sem, Nat.reduceAdd, Nat.reduceSub, Nat.reduceMul, Int.reduceToNat, Nat.reduceEqDiff, Nat.reduceBEq, Nat.reduceBneDiff]
        refine callk c3 ?_
        conv => simp (maxSteps := 2000000) (disch := omega) only [go_sem, Nat.reduceAdd, Nat.reduceSub, Nat.reduceMul, Int.reduceToNat, Nat.reduceEqDiff, Nat.reduceBEq, Nat.reduceBneDiff]
        refine callk cB ?_
        conv => simp (maxSteps := 2000000) (disch := omega) only [go_sem, Nat.reduceAdd, Nat.reduceSub, Nat.reduceMul, Int.reduceToNat, Nat.reduceEqDiff, Nat.reduceBEq, Nat.reduceBneDiff]
        refine condd (fun _ => ?_) (fun h => absurd (by decide) h)
        conv => simp (maxSteps := 2000000) (disch := omega) only [go_sem, Nat.reduceAdd, Nat.reduceSub, Nat.reduceMul, Int.reduceToNat, Nat.reduceEqDiff, Nat.reduceBEq, Nat.reduceBneDiff]
        refine callk sameZ ?_
        conv => simp (maxSteps := 2000000) (disch := omega) only [go_sem, Nat.reduceAdd, Nat.reduceSub, Nat.reduceMul, Int.reduceToNat, Nat.reduceEqDiff, Nat.reduceBEq, Nat.reduceBneDiff]
        exact ⟨_, rfl, .one (.refl _)⟩
    · rw [decide_eq_false h3] at c3
      refine CallsTo.run [] Go.Proofs.Try.func5 rfl rfl ?_; conv => simp (maxSteps := 2000000) (disch := omega) only [go_sem, Nat.reduceAdd, Nat.reduceSub, Nat.reduceMul, Int.reduceToNat, Nat.reduceEqDiff, Nat.reduceBEq, Nat.reduceBneDiff, Go.Proofs.Try.f5, List.replicate]
      refine callk wSane ?_
      conv => simp (maxSteps := 2000000) (disch := omega) only [go_sem, Nat.reduceAdd, Nat.reduceSub, Nat.reduceMul, Int.reduceToNat, Nat.reduceEqDiff, Nat.reduceBEq, Nat.reduceBneDiff]
      refine callk c1 ?_
      conv => simp (maxSteps := 2000000) (disch := omega) only [go_sem, Nat.reduceAdd, Nat.reduceSub, Nat.reduceMul, Int.reduceToNat, Nat.reduceEqDiff, Nat.reduceBEq, Nat.reduceBneDiff]
      refine callk c3 ?_
      conv => simp (maxSteps := 2000000) (disch := omega) only [go_sem, Nat.reduceAdd, Nat.reduceSub, Nat.reduceMul, Int.reduceToNat, Nat.reduceEqDiff, Nat.reduceBEq, Nat.reduceBneDiff]
      exact ⟨_, rfl, .one (.refl _)⟩
  · rw [decide_eq_false h1] at c1
    refine CallsTo.run [] Go.Proofs.Try.func5 rfl rfl ?_; conv => simp (maxSteps := 2000000) (disch := omega) only [go_sem, Nat.reduceAdd, Nat.reduceSub, Nat.reduceMul, Int.reduceToNat, Nat.reduceEqDiff, Nat.reduceBEq, Nat.reduceBneDiff, Go.Proofs.Try.f5, List.replicate]
    refine callk wSane ?_
    conv => simp (maxSteps := 2000000) (disch := omega) only [go_sem, Nat.reduceAdd, Nat.reduceSub, Nat.reduceMul, Int.reduceToNat, Nat.reduceEqDiff, Nat.reduceBEq, Nat.reduceBneDiff]
    refine callk c1 ?_
    conv => simp (maxSteps := 2000000) (disch := omega) only [go_sem, Nat.reduceAdd, Nat.reduceSub, Nat.reduceMul, Int.reduceToNat, Nat.reduceEqDiff, Nat.reduceBEq, Nat.reduceBneDiff]
    exact ⟨_, rfl, .one (.refl _)⟩
end Go.Slot.T

/- The statement BackSums: its walk. -/
namespace Go.Slot.T
open Go Go.RowKit Go.Slot
open Go.Proofs.Try (prog)
set_option maxRecDepth 10000
set_option maxHeartbeats 4000000

theorem bounds_sz' {f : Af} {l : List Sc} (h : small f l) : (Bk.bounds f l).sz ≤ 8397828 := by
  obtain ⟨h1, h2, h3, h4⟩ := h
  have hle : f.le 4098 := le_mono h3 (by decide)
  show max _ _ ≤ _
  unfold Bk.bounds
  split
  · have a := at_sz (n := 1024) hle (lows_sz (f := f) h4) h1
    have b := at_sz (n := 1024) hle (highs_sz (f := f) h4) h1
    dsimp only
    omega
  · exact Nat.zero_le _
theorem small_plus {k m : Rat} {cs ds : List Rat} {l : List Sc} (h1 : fewC (Af.of k cs) l) (h2 : fewC (Af.of m ds) l) : small (Af.of (k + m) (List.zipWith (· + ·) cs ds)) l := by
  obtain ⟨a1, a2, a3, a4, a5⟩ := h1
  obtain ⟨b1, b2, b3, b4, b5⟩ := h2
  have hl : (Af.of k cs).l.length = cs.length := by simp [Af.of]
  refine ⟨by simp [Af.of]; omega, by omega, ⟨?_, ?_⟩, fun s hs => by have := a2 s hs; omega⟩
  · have h := Fc.sz_add_of k m
    have e1 : (Fc.of k).sz ≤ 4 := a3
    have e2 : (Fc.of m).sz ≤ 4 := b3
    show (Fc.of (k + m)).sz ≤ 4096
    omega
  · have key : ∀ (cs ds : List Rat), (∀ g ∈ cs.map Fc.of, g.sz ≤ 4) → (∀ g ∈ ds.map Fc.of, g.sz ≤ 4) → ∀ g ∈ (List.zipWith (· + ·) cs ds).map Fc.of, g.sz ≤ 4096 := by
      intro cs
      induction cs with
      | nil => intro ds _ _ g hg; simp at hg
      | cons c cs ih => intro ds hc hd g hg; cases ds with
        | nil => simp at hg
        | cons d ds =>
          simp only [List.zipWith_cons_cons, List.map_cons, List.mem_cons] at hg
          rcases hg with rfl | hg
          · have := Fc.sz_add_of c d
            have := hc (Fc.of c) (by simp)
            have := hd (Fc.of d) (by simp)
            omega
          · exact ih ds (fun g hg => hc g (by simp at hg ⊢; exact .inr hg)) (fun g hg => hd g (by simp at hg ⊢; exact .inr hg)) g hg
    exact key cs ds a5 b5
theorem small_times {k q : Rat} {cs : List Rat} {l : List Sc} (h1 : fewC (Af.of k cs) l) (hq : (Fc.of q).sz ≤ 4) : small (Af.of (k * q) (cs.map (· * q))) l := by
  obtain ⟨a1, a2, a3, a4, a5⟩ := h1
  have hl : (Af.of k cs).l.length = cs.length := by simp [Af.of]
  refine ⟨by simp [Af.of]; omega, by omega, ⟨?_, fun g hg => ?_⟩, fun s hs => by have := a2 s hs; omega⟩
  · have h := Fc.sz_mul_of k q
    have e1 : (Fc.of k).sz ≤ 4 := a3
    show (Fc.of (k * q)).sz ≤ 4096
    omega
  · obtain ⟨y, hy, rfl⟩ := List.mem_map.1 hg
    obtain ⟨c, hc, rfl⟩ := List.mem_map.1 hy
    have := Fc.sz_mul_of c q
    have := a5 (Fc.of c) (List.mem_map.2 ⟨c, hc, rfl⟩)
    omega
theorem wSums (f g : Af) (l : List Sc) (v : Fc) (hr : room f l) (hr2 : room g l) (hv : v.sz ≤ 67108864) :
    CallsTo prog 6 [.agg f.C, .agg g.C, .one (.sl 8 (l.map Sc.C)), .agg v.C] (.one (.raw (.bool true))) := by
  have c1 := wFew hr
  have c2 := wFew hr2
  have c3 := wFew4 hv
  by_cases h1 : fewC f l
  · rw [decide_eq_true h1] at c1
    by_cases h2 : fewC g l
    · rw [decide_eq_true h2] at c2
      by_cases h3 : v.sz ≤ 4
      · rw [decide_eq_true h3] at c3
        by_cases h4 : v.ok
        · have hs1 := few_small h1
          have hs2 := few_small h2
          have cB1 := cBounds f l hs1
          have cB2 := cBounds g l hs2
          by_cases h5 : Bk.ok f l
          · rw [Fc.er_of h5] at cB1
            by_cases h6 : Bk.ok g l
            · rw [Fc.er_of h6] at cB2
              obtain ⟨k, cs, ps, rfl, rfl, hl, hps⟩ := Bk.ok_ex h5
              obtain ⟨m, ds, rfl, hl2⟩ := Af.ok_ex h6.1
              rw [List.length_map] at hl2
              obtain ⟨q, rfl⟩ := Fc.ok_ex h4
              have z1 := bounds_sz' hs1
              have z2 := bounds_sz' hs2
              rw [bounds_of k cs ps hl hps] at cB1 z1
              rw [bounds_of m ds ps hl2 hps] at cB2 z2
              have hcl : (Af.of k cs).l.length = cs.length := by simp [Af.of]
              have hdl : (Af.of m ds).l.length = ds.length := by simp [Af.of]
              have cP := cPlus (Af.of k cs) (Af.of m ds) (by have := hs1.1; omega) (by have := hs2.1; omega) (le_mono hs1.2.2.1 (by decide)) (le_mono hs2.2.2.1 (by decide))
              rw [Fc.er_of ⟨(Af.of_ok k cs _).2 hcl.symm, (Af.of_ok m ds _).2 (by rw [hcl]; omega)⟩, plus_of k m cs ds (by omega)] at cP
              have cT := cTimesA (Af.of k cs) (Fc.of q) (by have := hs1.1; omega) (le_mono hs1.2.2.1 (by decide)) (by omega)
              rw [Fc.er_of ⟨(Af.of_ok k cs _).2 hcl.symm, Fc.of_ok _⟩, times_of] at cT
              have hs3 := small_plus h1 h2
              have hs4 := small_times h1 h3
              have cB3 := cBounds _ _ hs3
              have cB4 := cBounds _ _ hs4
              have z3 := bounds_sz' hs3
              have z4 := bounds_sz' hs4
              have hl3 : (List.zipWith (· + ·) cs ds).length = ps.length := by simp; omega
              have hl4 : (cs.map (· * q)).length = ps.length := by simpa using hl
              rw [Fc.er_of ((Bk.ok_of _ _ ps).2 ⟨hl3, hps⟩), bounds_of _ _ ps hl3 hps] at cB3
              rw [bounds_of _ _ ps hl3 hps] at z3
              rw [Fc.er_of ((Bk.ok_of _ _ ps).2 ⟨hl4, hps⟩), bounds_of _ _ ps hl4 hps, range_times k q cs ps hl] at cB4
              rw [bounds_of _ _ ps hl4 hps, range_times k q cs ps hl] at z4
              have ok1 := (Sc.of_ok (rangeQ k cs ps)).2 (range_ok k cs ps hl hps)
              have ok2 := (Sc.of_ok (rangeQ m ds ps)).2 (range_ok m ds ps hl2 hps)
              have cA := cSpanAdd (Sc.of (rangeQ k cs ps)) (Sc.of (rangeQ m ds ps)) (by omega) (by omega)
              have eA : Sc.add (Sc.of (rangeQ k cs ps)) (Sc.of (rangeQ m ds ps)) = Sc.of ((rangeQ k cs ps).1 + (rangeQ m ds ps).1, (rangeQ k cs ps).2 + (rangeQ m ds ps).2) := by
                unfold Sc.add
                rw [if_pos ⟨ok1, ok2⟩]
                show Sc.mk (Fc.add (Fc.of _) (Fc.of _)) (Fc.add (Fc.of _) (Fc.of _)) = _
                rw [Fc.add_of, Fc.add_of]; rfl
              rw [Fc.er_of ⟨ok1, ok2⟩, eA] at cA
              have cPt := cPoint (Fc.of q) (by omega)
              have okp : (Sc.point (Fc.of q)).ok := by
                unfold Sc.point; rw [if_pos (Fc.of_ok q)]
                exact (Sc.of_ok (q, q)).2 Rat.le_refl
              have zp : (Sc.point (Fc.of q)).sz ≤ 4 := by
                unfold Sc.point; rw [if_pos (Fc.of_ok q)]
                show max _ _ ≤ _; dsimp only; omega
              have cM := cSpanMul (Sc.of (rangeQ k cs ps)) (Sc.point (Fc.of q)) (by omega) (by omega)
              rw [Fc.er_of ⟨ok1, okp⟩, mul_point _ q (range_ok k cs ps hl hps)] at cM
              have zA : (Sc.of ((rangeQ k cs ps).1 + (rangeQ m ds ps).1, (rangeQ k cs ps).2 + (rangeQ m ds ps).2)).sz ≤ 33554432 := by
                have a1 := Fc.sz_add_of (rangeQ k cs ps).1 (rangeQ m ds ps).1
                have a2 := Fc.sz_add_of (rangeQ k cs ps).2 (rangeQ m ds ps).2
                have b1 := Sc.low_sz z1
                have b2 := Sc.low_sz z2
                have b3 : (Fc.of (rangeQ k cs ps).1).sz ≤ 8397828 := b1.1
                have b4 : (Fc.of (rangeQ k cs ps).2).sz ≤ 8397828 := b1.2
                have b5 : (Fc.of (rangeQ m ds ps).1).sz ≤ 8397828 := b2.1
                have b6 : (Fc.of (rangeQ m ds ps).2).sz ≤ 8397828 := b2.2
                show max (Fc.of _).sz (Fc.of _).sz ≤ _
                dsimp only
                omega
              have cI := cInside (Sc.of (rangeQ (k + m) (List.zipWith (· + ·) cs ds) ps)) (Sc.of ((rangeQ k cs ps).1 + (rangeQ m ds ps).1, (rangeQ k cs ps).2 + (rangeQ m ds ps).2)) (by omega) (by omega)
              have ⟨rp1, rp2⟩ := range_plus k m cs ds ps hl hl2 hps
              rw [decide_eq_true ((inside_of _ _).2 ⟨range_ok _ _ ps hl3 hps, rp1, rp2⟩)] at cI
              generalize (if 0 ≤ q then ((rangeQ k cs ps).1 * q, (rangeQ k cs ps).2 * q) else ((rangeQ k cs ps).2 * q, (rangeQ k cs ps).1 * q)) = many at *
              have cS := r10Same (Sc.of many) (Sc.of many) (by omega) (by omega)
              rw [decide_eq_true rfl] at cS
              refine CallsTo.run [] Go.Proofs.Try.func6 rfl rfl ?_; conv => simp (maxSteps := 2000000) (disch := omega) only [go_sem, Nat.reduceAdd, Nat.reduceSub, Nat.reduceMul, Int.reduceToNat, Nat.reduceEqDiff, Nat.reduceBEq, Nat.reduceBneDiff, Go.Proofs.Try.f6, List.replicate]
              refine callk wSane ?_
              conv => simp (maxSteps := 2000000) (disch := omega) only [go_sem, Nat.reduceAdd, Nat.reduceSub, Nat.reduceMul, Int.reduceToNat, Nat.reduceEqDiff, Nat.reduceBEq, Nat.reduceBneDiff]
              refine callk c1 ?_
              conv => simp (maxSteps := 2000000) (disch := omega) only [go_sem, Nat.reduceAdd, Nat.reduceSub, Nat.reduceMul, Int.reduceToNat, Nat.reduceEqDiff, Nat.reduceBEq, Nat.reduceBneDiff]
              refine callk c2 ?_
              conv => simp (maxSteps := 2000000) (disch := omega) only [go_sem, Nat.reduceAdd, Nat.reduceSub, Nat.reduceMul, Int.reduceToNat, Nat.reduceEqDiff, Nat.reduceBEq, Nat.reduceBneDiff]
              refine callk c3 ?_
              conv => simp (maxSteps := 2000000) (disch := omega) only [go_sem, Nat.reduceAdd, Nat.reduceSub, Nat.reduceMul, Int.reduceToNat, Nat.reduceEqDiff, Nat.reduceBEq, Nat.reduceBneDiff]
              refine callk (cRightOf q (by omega)) ?_
              conv => simp (maxSteps := 2000000) (disch := omega) only [go_sem, Nat.reduceAdd, Nat.reduceSub, Nat.reduceMul, Int.reduceToNat, Nat.reduceEqDiff, Nat.reduceBEq, Nat.reduceBneDiff]
              refine callk cB1 ?_
              conv => simp (maxSteps := 2000000) (disch := omega) only [go_sem, Nat.reduceAdd, Nat.reduceSub, Nat.reduceMul, Int.reduceToNat, Nat.reduceEqDiff, Nat.reduceBEq, Nat.reduceBneDiff]
              refine callk cB2 ?_
              conv => simp (maxSteps := 2000000) (disch := omega) only [go_sem, Nat.reduceAdd, Nat.reduceSub, Nat.reduceMul, Int.reduceToNat, Nat.reduceEqDiff, Nat.reduceBEq, Nat.reduceBneDiff]
              refine callk cP ?_
              conv => simp (maxSteps := 2000000) (disch := omega) only [go_sem, Nat.reduceAdd, Nat.reduceSub, Nat.reduceMul, Int.reduceToNat, Nat.reduceEqDiff, Nat.reduceBEq, Nat.reduceBneDiff]
              refine callk cT ?_
              conv => simp (maxSteps := 2000000) (disch := omega) only [go_sem, Nat.reduceAdd, Nat.reduceSub, Nat.reduceMul, Int.reduceToNat, Nat.reduceEqDiff, Nat.reduceBEq, Nat.reduceBneDiff]
              refine callk cB3 ?_
              conv => simp (maxSteps := 2000000) (disch := omega) only [go_sem, Nat.reduceAdd, Nat.reduceSub, Nat.reduceMul, Int.reduceToNat, Nat.reduceEqDiff, Nat.reduceBEq, Nat.reduceBneDiff]
              refine callk cB4 ?_
              conv => simp (maxSteps := 2000000) (disch := omega) only [go_sem, Nat.reduceAdd, Nat.reduceSub, Nat.reduceMul, Int.reduceToNat, Nat.reduceEqDiff, Nat.reduceBEq, Nat.reduceBneDiff]
              refine callk cA ?_
              conv => simp (maxSteps := 2000000) (disch := omega) only [go_sem, Nat.reduceAdd, Nat.reduceSub, Nat.reduceMul, Int.reduceToNat, Nat.reduceEqDiff, Nat.reduceBEq, Nat.reduceBneDiff]
              refine callk cPt ?_
              conv => simp (maxSteps := 2000000) (disch := omega) only [go_sem, Nat.reduceAdd, Nat.reduceSub, Nat.reduceMul, Int.reduceToNat, Nat.reduceEqDiff, Nat.reduceBEq, Nat.reduceBneDiff]
              refine callk cM ?_
              conv => simp (maxSteps := 2000000) (disch := omega) only [go_sem, Nat.reduceAdd, Nat.reduceSub, Nat.reduceMul, Int.reduceToNat, Nat.reduceEqDiff, Nat.reduceBEq, Nat.reduceBneDiff]
              refine indk (by kernel_rfl) ?_
              conv => simp (maxSteps := 2000000) (disch := omega) only [go_sem, Nat.reduceAdd, Nat.reduceSub, Nat.reduceMul, Int.reduceToNat, Nat.reduceEqDiff, Nat.reduceBEq, Nat.reduceBneDiff]
              refine callk cI ?_
              conv => simp (maxSteps := 2000000) (disch := omega) only [go_sem, Nat.reduceAdd, Nat.reduceSub, Nat.reduceMul, Int.reduceToNat, Nat.reduceEqDiff, Nat.reduceBEq, Nat.reduceBneDiff]
              refine callk cS ?_
              conv => simp (maxSteps := 2000000) (disch := omega) only [go_sem, Nat.reduceAdd, Nat.reduceSub, Nat.reduceMul, Int.reduceToNat, Nat.reduceEqDiff, Nat.reduceBEq, Nat.reduceBneDiff]
              exact ⟨_, rfl, .one (.refl _)⟩
            · rw [Fc.er_bad h6] at cB2
              refine CallsTo.run [] Go.Proofs.Try.func6 rfl rfl ?_; conv => simp (maxSteps := 2000000) (disch := omega) only [go_sem, Nat.reduceAdd, Nat.reduceSub, Nat.reduceMul, Int.reduceToNat, Nat.reduceEqDiff, Nat.reduceBEq, Nat.reduceBneDiff, Go.Proofs.Try.f6, List.replicate]
              refine callk wSane ?_
              conv => simp (maxSteps := 2000000) (disch := omega) only [go_sem, Nat.reduceAdd, Nat.reduceSub, Nat.reduceMul, Int.reduceToNat, Nat.reduceEqDiff, Nat.reduceBEq, Nat.reduceBneDiff]
              refine callk c1 ?_
              conv => simp (maxSteps := 2000000) (disch := omega) only [go_sem, Nat.reduceAdd, Nat.reduceSub, Nat.reduceMul, Int.reduceToNat, Nat.reduceEqDiff, Nat.reduceBEq, Nat.reduceBneDiff]
              refine callk c2 ?_
              conv => simp (maxSteps := 2000000) (disch := omega) only [go_sem, Nat.reduceAdd, Nat.reduceSub, Nat.reduceMul, Int.reduceToNat, Nat.reduceEqDiff, Nat.reduceBEq, Nat.reduceBneDiff]
              refine callk c3 ?_
              conv => simp (maxSteps := 2000000) (disch := omega) only [go_sem, Nat.reduceAdd, Nat.reduceSub, Nat.reduceMul, Int.reduceToNat, Nat.reduceEqDiff, Nat.reduceBEq, Nat.reduceBneDiff]
              refine callk (cRightT v (by omega) h4) ?_
              conv => simp (maxSteps := 2000000) (disch := omega) only [go_sem, Nat.reduceAdd, Nat.reduceSub, Nat.reduceMul, Int.reduceToNat, Nat.reduceEqDiff, Nat.reduceBEq, Nat.reduceBneDiff]
              refine callk cB1 ?_
              conv => simp (maxSteps := 2000000) (disch := omega) only [go_sem, Nat.reduceAdd, Nat.reduceSub, Nat.reduceMul, Int.reduceToNat, Nat.reduceEqDiff, Nat.reduceBEq, Nat.reduceBneDiff]
              refine callk cB2 ?_
              conv => simp (maxSteps := 2000000) (disch := omega) only [go_sem, Nat.reduceAdd, Nat.reduceSub, Nat.reduceMul, Int.reduceToNat, Nat.reduceEqDiff, Nat.reduceBEq, Nat.reduceBneDiff]
              refine condd (fun _ => ?_) (fun h => absurd (by decide) h)
              conv => simp (maxSteps := 2000000) (disch := omega) only [go_sem, Nat.reduceAdd, Nat.reduceSub, Nat.reduceMul, Int.reduceToNat, Nat.reduceEqDiff, Nat.reduceBEq, Nat.reduceBneDiff]
              exact ⟨_, rfl, .one (.refl _)⟩
          · rw [Fc.er_bad h5] at cB1
            have e10 := decide_eq_true (show (1 : Int) ≠ 0 by decide)
            refine CallsTo.run [] Go.Proofs.Try.func6 rfl rfl ?_; conv => simp (maxSteps := 2000000) (disch := omega) only [go_sem, Nat.reduceAdd, Nat.reduceSub, Nat.reduceMul, Int.reduceToNat, Nat.reduceEqDiff, Nat.reduceBEq, Nat.reduceBneDiff, Go.Proofs.Try.f6, List.replicate]
            refine callk wSane ?_
            conv => simp (maxSteps := 2000000) (disch := omega) only [go_sem, Nat.reduceAdd, Nat.reduceSub, Nat.reduceMul, Int.reduceToNat, Nat.reduceEqDiff, Nat.reduceBEq, Nat.reduceBneDiff]
            refine callk c1 ?_
            conv => simp (maxSteps := 2000000) (disch := omega) only [go_sem, Nat.reduceAdd, Nat.reduceSub, Nat.reduceMul, Int.reduceToNat, Nat.reduceEqDiff, Nat.reduceBEq, Nat.reduceBneDiff]
            refine callk c2 ?_
            conv => simp (maxSteps := 2000000) (disch := omega) only [go_sem, Nat.reduceAdd, Nat.reduceSub, Nat.reduceMul, Int.reduceToNat, Nat.reduceEqDiff, Nat.reduceBEq, Nat.reduceBneDiff]
            refine callk c3 ?_
            conv => simp (maxSteps := 2000000) (disch := omega) only [go_sem, Nat.reduceAdd, Nat.reduceSub, Nat.reduceMul, Int.reduceToNat, Nat.reduceEqDiff, Nat.reduceBEq, Nat.reduceBneDiff]
            refine callk (cRightT v (by omega) h4) ?_
            conv => simp (maxSteps := 2000000) (disch := omega) only [go_sem, Nat.reduceAdd, Nat.reduceSub, Nat.reduceMul, Int.reduceToNat, Nat.reduceEqDiff, Nat.reduceBEq, Nat.reduceBneDiff]
            refine callk cB1 ?_
            conv => simp (maxSteps := 2000000) (disch := omega) only [go_sem, Nat.reduceAdd, Nat.reduceSub, Nat.reduceMul, Int.reduceToNat, Nat.reduceEqDiff, Nat.reduceBEq, Nat.reduceBneDiff]
            refine callk cB2 ?_
            conv => simp (maxSteps := 2000000) (disch := omega) only [go_sem, Nat.reduceAdd, Nat.reduceSub, Nat.reduceMul, Int.reduceToNat, Nat.reduceEqDiff, Nat.reduceBEq, Nat.reduceBneDiff, e10]
            exact ⟨_, rfl, .one (.refl _)⟩
        · refine CallsTo.run [] Go.Proofs.Try.func6 rfl rfl ?_; conv => simp (maxSteps := 2000000) (disch := omega) only [go_sem, Nat.reduceAdd, Nat.reduceSub, Nat.reduceMul, Int.reduceToNat, Nat.reduceEqDiff, Nat.reduceBEq, Nat.reduceBneDiff, Go.Proofs.Try.f6, List.replicate]
          refine callk wSane ?_
          conv => simp (maxSteps := 2000000) (disch := omega) only [go_sem, Nat.reduceAdd, Nat.reduceSub, Nat.reduceMul, Int.reduceToNat, Nat.reduceEqDiff, Nat.reduceBEq, Nat.reduceBneDiff]
          refine callk c1 ?_
          conv => simp (maxSteps := 2000000) (disch := omega) only [go_sem, Nat.reduceAdd, Nat.reduceSub, Nat.reduceMul, Int.reduceToNat, Nat.reduceEqDiff, Nat.reduceBEq, Nat.reduceBneDiff]
          refine callk c2 ?_
          conv => simp (maxSteps := 2000000) (disch := omega) only [go_sem, Nat.reduceAdd, Nat.reduceSub, Nat.reduceMul, Int.reduceToNat, Nat.reduceEqDiff, Nat.reduceBEq, Nat.reduceBneDiff]
          refine callk c3 ?_
          conv => simp (maxSteps := 2000000) (disch := omega) only [go_sem, Nat.reduceAdd, Nat.reduceSub, Nat.reduceMul, Int.reduceToNat, Nat.reduceEqDiff, Nat.reduceBEq, Nat.reduceBneDiff]
          refine callk (cRightBad v (by omega) h4) ?_
          conv => simp (maxSteps := 2000000) (disch := omega) only [go_sem, Nat.reduceAdd, Nat.reduceSub, Nat.reduceMul, Int.reduceToNat, Nat.reduceEqDiff, Nat.reduceBEq, Nat.reduceBneDiff]
          exact ⟨_, rfl, .one (.refl _)⟩
      · rw [decide_eq_false h3] at c3
        refine CallsTo.run [] Go.Proofs.Try.func6 rfl rfl ?_; conv => simp (maxSteps := 2000000) (disch := omega) only [go_sem, Nat.reduceAdd, Nat.reduceSub, Nat.reduceMul, Int.reduceToNat, Nat.reduceEqDiff, Nat.reduceBEq, Nat.reduceBneDiff, Go.Proofs.Try.f6, List.replicate]
        refine callk wSane ?_
        conv => simp (maxSteps := 2000000) (disch := omega) only [go_sem, Nat.reduceAdd, Nat.reduceSub, Nat.reduceMul, Int.reduceToNat, Nat.reduceEqDiff, Nat.reduceBEq, Nat.reduceBneDiff]
        refine callk c1 ?_
        conv => simp (maxSteps := 2000000) (disch := omega) only [go_sem, Nat.reduceAdd, Nat.reduceSub, Nat.reduceMul, Int.reduceToNat, Nat.reduceEqDiff, Nat.reduceBEq, Nat.reduceBneDiff]
        refine callk c2 ?_
        conv => simp (maxSteps := 2000000) (disch := omega) only [go_sem, Nat.reduceAdd, Nat.reduceSub, Nat.reduceMul, Int.reduceToNat, Nat.reduceEqDiff, Nat.reduceBEq, Nat.reduceBneDiff]
        refine callk c3 ?_
        conv => simp (maxSteps := 2000000) (disch := omega) only [go_sem, Nat.reduceAdd, Nat.reduceSub, Nat.reduceMul, Int.reduceToNat, Nat.reduceEqDiff, Nat.reduceBEq, Nat.reduceBneDiff]
        exact ⟨_, rfl, .one (.refl _)⟩
    · rw [decide_eq_false h2] at c2
      refine CallsTo.run [] Go.Proofs.Try.func6 rfl rfl ?_; conv => simp (maxSteps := 2000000) (disch := omega) only [go_sem, Nat.reduceAdd, Nat.reduceSub, Nat.reduceMul, Int.reduceToNat, Nat.reduceEqDiff, Nat.reduceBEq, Nat.reduceBneDiff, Go.Proofs.Try.f6, List.replicate]
      refine callk wSane ?_
      conv => simp (maxSteps := 2000000) (disch := omega) only [go_sem, Nat.reduceAdd, Nat.reduceSub, Nat.reduceMul, Int.reduceToNat, Nat.reduceEqDiff, Nat.reduceBEq, Nat.reduceBneDiff]
      refine callk c1 ?_
      conv => simp (maxSteps := 2000000) (disch := omega) only [go_sem, Nat.reduceAdd, Nat.reduceSub, Nat.reduceMul, Int.reduceToNat, Nat.reduceEqDiff, Nat.reduceBEq, Nat.reduceBneDiff]
      refine callk c2 ?_
      conv => simp (maxSteps := 2000000) (disch := omega) only [go_sem, Nat.reduceAdd, Nat.reduceSub, Nat.reduceMul, Int.reduceToNat, Nat.reduceEqDiff, Nat.reduceBEq, Nat.reduceBneDiff]
      exact ⟨_, rfl, .one (.refl _)⟩
  · rw [decide_eq_false h1] at c1
    refine CallsTo.run [] Go.Proofs.Try.func6 rfl rfl ?_; conv => simp (maxSteps := 2000000) (disch := omega) only [go_sem, Nat.reduceAdd, Nat.reduceSub, Nat.reduceMul, Int.reduceToNat, Nat.reduceEqDiff, Nat.reduceBEq, Nat.reduceBneDiff, Go.Proofs.Try.f6, List.replicate]
    refine callk wSane ?_
    conv => simp (maxSteps := 2000000) (disch := omega) only [go_sem, Nat.reduceAdd, Nat.reduceSub, Nat.reduceMul, Int.reduceToNat, Nat.reduceEqDiff, Nat.reduceBEq, Nat.reduceBneDiff]
    refine callk c1 ?_
    conv => simp (maxSteps := 2000000) (disch := omega) only [go_sem, Nat.reduceAdd, Nat.reduceSub, Nat.reduceMul, Int.reduceToNat, Nat.reduceEqDiff, Nat.reduceBEq, Nat.reduceBneDiff]
    exact ⟨_, rfl, .one (.refl _)⟩
end Go.Slot.T

/-
  BackSums: for all arguments of bulk at most 1048576 the statement returns true, and the arguments read as before.
-/
namespace Go.Proofs.Ytieohkidmjglgaa
set_option maxRecDepth 100000
open Go Go.Slot Go.ChangeShapes Go.WideShapes Go.RowKit
theorem backSums_params : Try.f6.params = #[29, 29, 30, 26] := by kernel_rfl
theorem backSums_contract (H : Type) (enc : TypeId × Value → H) (W : World) (base : Nat) (args : Array Value) (ds gs : List (DataW H)) (before : List MemPlace)
    (hval : ∀ (j : Nat) t v, Try.f6.params[j]? = some t → args[j]? = some v → Value.okWide Try.prog W .any base t v)
    (hW : DataW.Whole enc Try.prog Try.f6.params.toList Rows.backSumsSpec.vars false W args.toList ds gs before) (hk : Rows.uptoSmall H (ds ++ gs) = true) :
    Calls Try.prog 6 args W fun e W' => ∃ v, e = .returned v ∧ Rows.backSumsSpec.post enc Try.prog Try.f6 false true false false W args v W' := by
  have hW' := hW
  obtain ⟨p, q, hA0, hV, rfl, hfz, hnd⟩ := hW
  have hA : DataW.TrodAll enc Try.prog W 0 (fun _ => true) true Try.f6.params.toList args.toList ds p := hA0
  rw [backSums_params] at hA hval
  obtain ⟨v0, v1, v2, v3, d0, d1, d2, d3, p0, p1, p2, p3, rfl, rfl, rfl, h0, h1, h2, h3⟩ := trodAll_four hA
  have hb := bulk_bound hk
  obtain ⟨x0, r0, l0, s0⟩ := openA (hval 0 _ v0 rfl rfl) h0 (hb d0 (by simp))
  obtain ⟨x1, r1, l1, s1⟩ := openA (hval 1 _ v1 rfl rfl) h1 (hb d1 (by simp))
  obtain ⟨x2, r2, l2, s2⟩ := openSs (hval 2 _ v2 rfl rfl) h2 (hb d2 (by simp))
  obtain ⟨x3, r3, s3⟩ := openF (hval 3 _ v3 rfl rfl) h3 (hb d3 (by simp))
  refine (ended (T.wSums x0 x1 x2 x3 ⟨l0, l2, s0, s2⟩ ⟨l1, l2, s1, s2⟩ s3) (vs := [v0, v1, v2, v3]) ⟨r0, r1, r2, r3, trivial⟩).mono fun e W' ⟨he, hbel⟩ => ?_
  refine ⟨_, he, law_post (P := Try.prog) (f := Try.f6) (s := Rows.backSumsSpec) (tb := 4) laid0 (by rw [backSums_params]; decide +kernel) rfl (by kernel_rfl) Try.underlying4 (fun ds gs hds hgs => ?_) hW' hbel⟩
  subst hgs
  rw [backSums_params] at hds
  obtain ⟨v0, v1, v2, v3, d0, d1, d2, d3, p0, p1, p2, p3, _, rfl, _, _, _, _, _⟩ := trodAll_four hds
  exact ⟨rfl, rfl, rfl⟩
theorem backSums_lifted (os : Os) (started : os.Started) (H : Type) (enc : TypeId × Value → H) (F : Stop.Interp) :
    ReturnsInHanded {} Try.checked os 6 .any ((Rows.OpenSpec.upto Rows.backSumsSpec).pre6 enc Try.prog Try.f6 Rows.backSumsUptoRow.domain false) (((Rows.OpenSpec.upto Rows.backSumsSpec).at F).post enc Try.prog Try.f6 false true false false) := by
  refine returnsInHanded_of_cond (C := Try.checked) (s := Rows.OpenSpec.upto Rows.backSumsSpec) (k := Rows.uptoSmall) rfl ownKnob0 started (by kernel_rfl) Try.func6
    (OpenSpec.witness (enc := enc) (C := Try.checked) (s := Rows.OpenSpec.upto Rows.backSumsSpec) (k := Rows.uptoSmall) rfl false ⟨#[], #[zA, zA, .slice none 0 0, zF], []⟩ 8 (by kernel_rfl) (by kernel_rfl) (by kernel_rfl)
      (x := ([dA, dA, .nil, dF], [], [])) (by kernel_rfl) rfl (by kernel_rfl)) ?_
  intro W base args ds gs before hval hW _ hk _
  exact backSums_contract H enc W base args ds gs before hval hW hk
theorem backSums_over : Rows.backSumsUptoRow.holds Try.pinned (Rows.OpenSpec.upto Rows.backSumsSpec) :=
  OpenClaim.holds_of_cond 6 Try.f6 rfl rfl rfl rfl rfl rfl rfl ⟨rfl, rfl, rfl, rfl, rfl⟩ rfl rfl rfl rfl rfl (by kernel_rfl) Try.func6 (by kernel_rfl)
    (of_decide_eq_true (by kernel_rfl)) (by unfold Func.isWrapper; first | (rw [if_pos (by decide +kernel)]; kernel_rfl) | (rw [if_neg (by decide +kernel)]; exact ⟨rfl, rfl⟩))
    (fun os started H enc _ F => backSums_lifted os started H enc F)
theorem backSums_holds : Rows.BackSumsUptoSaid := backSums_over
end Go.Proofs.Ytieohkidmjglgaa
