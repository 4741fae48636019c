/-
  BackNarrow: for all arguments of bulk at most 1048576 the statement returns true, and the arguments read as before.
-/
import Derived.Test.YtieohkidmjglgaaZ8
/- The statement BackBounds: its walk. -/
namespace Go.Slot.T
open Go Go.RowKit Go.Slot
open Go.Proofs.Try (prog)
set_option maxRecDepth 10000
set_option maxHeartbeats 4000000

/-- arguments that say more -/
theorem CallsTo.more {P : Program} {f : FuncId} {args args' : List AV} {res : AV} (h : CallsTo P f args res) (hle : LeS args' args) : CallsTo P f args' res :=
  ⟨h.1, fun M w vs hM hr => h.2 M w vs hM (by
    clear h
    induction hle generalizing vs with
    | nil => exact hr
    | cons h1 _ ih =>
      cases vs with
      | nil => exact hr.elim
      | cons v vs => exact ⟨RdB.le h1 hr.1, ih vs hr.2⟩)⟩
theorem insB_of : ∀ {vs : List Rat} {ps : List (Rat × Rat)}, inP vs ps → insB (vs.map Fc.of) (ps.map Sc.of) = true
  | [], [], _ => rfl
  | v :: vs, p :: ps, h => by
    show (decide ((Sc.of p).has (Fc.of v)) && insB (vs.map Fc.of) (ps.map Sc.of)) = true
    rw [decide_eq_true ((has_of p v).2 h.1), insB_of h.2]; rfl
theorem insB_ex : ∀ {v : List Fc} {ps : List (Rat × Rat)}, insB v (ps.map Sc.of) = true → ∃ vs : List Rat, v = vs.map Fc.of ∧ inP vs ps
  | [], [], _ => ⟨[], rfl, trivial⟩
  | [], _ :: _, h => by cases h
  | _ :: _, [], h => by cases h
  | f :: v, p :: ps, h => by
    have h : (decide ((Sc.of p).has f) && insB v (ps.map Sc.of)) = true := h
    rw [Bool.and_eq_true] at h
    have h1 := of_decide_eq_true h.1
    obtain ⟨q, rfl⟩ := Fc.ok_ex h1.2.1
    obtain ⟨vs, rfl, hi⟩ := insB_ex h.2
    exact ⟨q :: vs, rfl, (has_of p q).1 h1, hi⟩
theorem intM1 : CallsTo prog 16 [.one (.raw (.int .i64 (-1)))] (.agg (Fc.of (-1)).C) := rIntF (-1) (by decide)
theorem sameF_true (a : Fc) (h : a.sz ≤ 67108864) : CallsTo prog 22 [.agg a.C, .agg a.C] (.one (.raw (.bool true))) := by
  have := rSameF a a h h
  rwa [decide_eq_true rfl] at this
theorem sameZ : CallsTo prog 24 [.agg Sc.zero.C, .agg [.raw (.int .i64 0), .zc, .raw (.int .i64 0), .zc, .raw (.int .i64 0), .zc, .raw (.int .i64 0), .zc]] (.one (.raw (.bool true))) := by
  have := r10Same Sc.zero Sc.zero (by decide) (by decide)
  rw [decide_eq_true rfl] at this
  exact CallsTo.more this (.cons (.refl _) (.cons zeroS .nil))
theorem wBounds (f : Af) (l : List Sc) (pt : List Fc) (hr : room f l) (hp : roomF pt) :
    CallsTo prog 5 [.agg f.C, .one (.sl 8 (l.map Sc.C)), .one (.sl 4 (pt.map Fc.C))] (.one (.raw (.bool true))) := by
  have c1 := wFew hr
  have c3 := r46FewFracs pt 8 (by decide) hp.1 hp.2
  by_cases h1 : fewC f l
  · rw [decide_eq_true h1] at c1
    by_cases h3 : fewF pt 8
    · rw [decide_eq_true h3] at c3
      have hs := few_small h1
      have cB := cBounds f l hs
      have hbs := bounds_sz h1
      by_cases h5 : Bk.ok f l
      · rw [Fc.er_of h5] at cB
        have cL := cLeast f l hs
        rw [if_pos h5, if_pos h5, Fc.er_of h5] at cL
        have hlsz : ∀ g ∈ Bk.lows f l, g.sz ≤ 6 := lows_sz h1.2.1
        have hfle : f.le 4 := ⟨h1.2.2.1, h1.2.2.2.2⟩
        have cA1 := cAt f (Bk.lows f l) hs.1 (by have := hs.2.1; unfold Bk.lows; simp; omega) (le_mono hfle (by decide)) (fun g hg => by have := hlsz g hg; omega)
        have hv1 : (f.at' (Bk.lows f l)).sz ≤ 112 := at_sz (n := 8) (le_mono hfle (show 4 ≤ 6 by decide)) hlsz h1.2.2.2.1
        have cI1 := wInside (Bk.lows f l) l (by have := hs.2.1; unfold Bk.lows; simp; omega) (by have := hs.2.1; omega) (fun g hg => by have := hlsz g hg; omega) (fun s hs' => by have := h1.2.1 s hs'; omega)
        have m1 : (Fc.of (-1)).sz ≤ 4 := sz_lit _ (by decide) (by decide)
        have cT := cTimesA f (Fc.of (-1)) (by have := hs.1; omega) (le_mono hfle (by decide)) (by omega)
        obtain ⟨k, cs, ps, rfl, rfl, hl, hps⟩ := Bk.ok_ex h5
        have hlen : (Af.of k cs).l.length = cs.length := by simp [Af.of]
        have hlen2 : (ps.map Sc.of).length = ps.length := by simp
        have hlN : ps.length ≤ 8 := by have := h1.1; rwa [hlen2] at this
        rw [bounds_of k cs ps hl hps] at cB hbs
        rw [Fc.er_of ⟨(Af.of_ok k cs _).2 hlen.symm, Fc.of_ok _⟩, times_of] at cT
        have hother : small (Af.of (k * -1) (cs.map (· * -1))) (ps.map Sc.of) := by
          refine ⟨by simp [Af.of]; omega, by omega, ⟨?_, fun g hg => ?_⟩, hs.2.2.2⟩
          · have := Fc.sz_mul_of k (-1)
            have := hfle.1
            show (Fc.of (k * -1)).sz ≤ 4096
            have e : (Af.of k cs).c = Fc.of k := rfl
            rw [e] at this
            omega
          · obtain ⟨q, hq, rfl⟩ := List.mem_map.1 hg
            obtain ⟨c, hc, rfl⟩ := List.mem_map.1 hq
            have := Fc.sz_mul_of c (-1)
            have := hfle.2 (Fc.of c) (List.mem_map.2 ⟨c, hc, rfl⟩)
            omega
        have hok2 : Bk.ok (Af.of (k * -1) (cs.map (· * -1))) (ps.map Sc.of) := (Bk.ok_of _ _ ps).2 ⟨by simpa using hl, hps⟩
        have cL2 := cLeast _ _ hother
        have hl2 : (cs.map (· * (-1 : Rat))).length = ps.length := by simpa using hl
        rw [if_pos hok2, if_pos hok2, Fc.er_of hok2, least_of _ _ ps hl2, range_times k (-1) cs ps hl, if_neg (by decide)] at cL2
        rw [lows_of] at cL2
        rw [lows_of] at hlsz
        rw [least_of k cs ps hl] at cL hv1
        rw [lows_of] at cL cA1 cI1
        rw [Af.at_of k cs _ (lowsQ_len hl), decide_eq_true ⟨(Af.of_ok k cs _).2 (by rw [List.length_map, ← lowsQ_len hl]), oks_map _⟩] at cA1
        rw [show sumQ k cs (lowsQ cs ps) = (rangeQ k cs ps).1 from rfl] at cA1
        rw [insB_of (inP_lo cs ps hl hps)] at cI1
        have hysz : ∀ g ∈ (lowsQ (cs.map (· * (-1 : Rat))) ps).map Fc.of, g.sz ≤ 6 := by
          have := lows_sz (f := Af.of (k * -1) (cs.map (· * -1))) h1.2.1
          rwa [lows_of] at this
        have hylen : cs.length = (lowsQ (cs.map (· * (-1 : Rat))) ps).length := by rw [← lowsQ_len hl2]; simp
        have cA2 := cAt (Af.of k cs) ((lowsQ (cs.map (· * (-1 : Rat))) ps).map Fc.of) hs.1 (by rw [List.length_map, ← hylen]; omega) (le_mono hfle (by decide)) (fun g hg => by have := hysz g hg; omega)
        rw [Af.at_of k cs _ hylen, decide_eq_true ⟨(Af.of_ok k cs _).2 (by rw [List.length_map, ← hylen]), oks_map _⟩, top_value k cs ps hl] at cA2
        have cI2 := wInside ((lowsQ (cs.map (· * (-1 : Rat))) ps).map Fc.of) (ps.map Sc.of) (by rw [List.length_map, ← hylen]; omega) (by omega) (fun g hg => by have := hysz g hg; omega) (fun s hs' => by have := h1.2.1 s hs'; omega)
        rw [insB_of (inP_lo _ ps hl2 hps)] at cI2
        have hR1 : (Fc.of (rangeQ k cs ps).1).sz ≤ 112 := hbs.1
        have hR2 : (Fc.of (rangeQ k cs ps).2).sz ≤ 112 := hbs.2
        have hR3 : (Fc.of ((rangeQ k cs ps).2 * -1)).sz ≤ 116 := by have := Fc.sz_mul_of (rangeQ k cs ps).2 (-1); omega
        have cN := cNegF (Fc.of ((rangeQ k cs ps).2 * -1)) (by omega)
        rw [Fc.neg_of, show -((rangeQ k cs ps).2 * -1) = (rangeQ k cs ps).2 by grind] at cN
        have s1 := sameF_true (Fc.of (rangeQ k cs ps).1) (by omega)
        have s2 := sameF_true (Fc.of (rangeQ k cs ps).2) (by omega)
        have cI3 := wInside pt (ps.map Sc.of) hp.1 (by omega) hp.2 (fun s hs' => by have := h1.2.1 s hs'; omega)
        refine CallsTo.run [] Go.Proofs.Try.func5 rfl rfl ?_; conv => simp (maxSteps := 2000000) (disch := omega) only [go_sem, Nat.reduceAdd, Nat.reduceSub, Nat.reduceMul, Int.reduceToNat, Nat.reduceEqDiff, Nat.reduceBEq, Nat.reduceBneDiff, Go.Proofs.Try.f5, List.replicate]
        refine callk wSane ?_
        conv => simp (maxSteps := 2000000) (disch := omega) only [go_sem, Nat.reduceAdd, Nat.reduceSub, Nat.reduceMul, Int.reduceToNat, Nat.reduceEqDiff, Nat.reduceBEq, Nat.reduceBneDiff]
        refine callk c1 ?_
        conv => simp (maxSteps := 2000000) (disch := omega) only [go_sem, Nat.reduceAdd, Nat.reduceSub, Nat.reduceMul, Int.reduceToNat, Nat.reduceEqDiff, Nat.reduceBEq, Nat.reduceBneDiff]
        refine callk c3 ?_
        conv => simp (maxSteps := 2000000) (disch := omega) only [go_sem, Nat.reduceAdd, Nat.reduceSub, Nat.reduceMul, Int.reduceToNat, Nat.reduceEqDiff, Nat.reduceBEq, Nat.reduceBneDiff]
        refine callk cB ?_
        conv => simp (maxSteps := 2000000) (disch := omega) only [go_sem, Nat.reduceAdd, Nat.reduceSub, Nat.reduceMul, Int.reduceToNat, Nat.reduceEqDiff, Nat.reduceBEq, Nat.reduceBneDiff]
        refine callk cL ?_
        conv => simp (maxSteps := 2000000) (disch := omega) only [go_sem, Nat.reduceAdd, Nat.reduceSub, Nat.reduceMul, Int.reduceToNat, Nat.reduceEqDiff, Nat.reduceBEq, Nat.reduceBneDiff]
        refine callk cA1 ?_
        conv => simp (maxSteps := 2000000) (disch := omega) only [go_sem, Nat.reduceAdd, Nat.reduceSub, Nat.reduceMul, Int.reduceToNat, Nat.reduceEqDiff, Nat.reduceBEq, Nat.reduceBneDiff]
        refine callk intM1 ?_
        conv => simp (maxSteps := 2000000) (disch := omega) only [go_sem, Nat.reduceAdd, Nat.reduceSub, Nat.reduceMul, Int.reduceToNat, Nat.reduceEqDiff, Nat.reduceBEq, Nat.reduceBneDiff]
        refine callk cT ?_
        conv => simp (maxSteps := 2000000) (disch := omega) only [go_sem, Nat.reduceAdd, Nat.reduceSub, Nat.reduceMul, Int.reduceToNat, Nat.reduceEqDiff, Nat.reduceBEq, Nat.reduceBneDiff]
        refine indk (by kernel_rfl) ?_
        conv => simp (maxSteps := 2000000) (disch := omega) only [go_sem, Nat.reduceAdd, Nat.reduceSub, Nat.reduceMul, Int.reduceToNat, Nat.reduceEqDiff, Nat.reduceBEq, Nat.reduceBneDiff]
        refine callk cL2 ?_
        conv => simp (maxSteps := 2000000) (disch := omega) only [go_sem, Nat.reduceAdd, Nat.reduceSub, Nat.reduceMul, Int.reduceToNat, Nat.reduceEqDiff, Nat.reduceBEq, Nat.reduceBneDiff]
        refine callk cA2 ?_
        conv => simp (maxSteps := 2000000) (disch := omega) only [go_sem, Nat.reduceAdd, Nat.reduceSub, Nat.reduceMul, Int.reduceToNat, Nat.reduceEqDiff, Nat.reduceBEq, Nat.reduceBneDiff]
        refine callk cI1 ?_
        conv => simp (maxSteps := 2000000) (disch := omega) only [go_sem, Nat.reduceAdd, Nat.reduceSub, Nat.reduceMul, Int.reduceToNat, Nat.reduceEqDiff, Nat.reduceBEq, Nat.reduceBneDiff]
        refine callk cI2 ?_
        conv => simp (maxSteps := 2000000) (disch := omega) only [go_sem, Nat.reduceAdd, Nat.reduceSub, Nat.reduceMul, Int.reduceToNat, Nat.reduceEqDiff, Nat.reduceBEq, Nat.reduceBneDiff]
        refine callk s1 ?_
        conv => simp (maxSteps := 2000000) (disch := omega) only [go_sem, Nat.reduceAdd, Nat.reduceSub, Nat.reduceMul, Int.reduceToNat, Nat.reduceEqDiff, Nat.reduceBEq, Nat.reduceBneDiff]
        refine callk s1 ?_
        conv => simp (maxSteps := 2000000) (disch := omega) only [go_sem, Nat.reduceAdd, Nat.reduceSub, Nat.reduceMul, Int.reduceToNat, Nat.reduceEqDiff, Nat.reduceBEq, Nat.reduceBneDiff]
        refine callk s2 ?_
        conv => simp (maxSteps := 2000000) (disch := omega) only [go_sem, Nat.reduceAdd, Nat.reduceSub, Nat.reduceMul, Int.reduceToNat, Nat.reduceEqDiff, Nat.reduceBEq, Nat.reduceBneDiff]
        refine callk cN ?_
        conv => simp (maxSteps := 2000000) (disch := omega) only [go_sem, Nat.reduceAdd, Nat.reduceSub, Nat.reduceMul, Int.reduceToNat, Nat.reduceEqDiff, Nat.reduceBEq, Nat.reduceBneDiff]
        refine callk s2 ?_
        conv => simp (maxSteps := 2000000) (disch := omega) only [go_sem, Nat.reduceAdd, Nat.reduceSub, Nat.reduceMul, Int.reduceToNat, Nat.reduceEqDiff, Nat.reduceBEq, Nat.reduceBneDiff]
        refine indk (by kernel_rfl) ?_
        conv => simp (maxSteps := 2000000) (disch := omega) only [go_sem, Nat.reduceAdd, Nat.reduceSub, Nat.reduceMul, Int.reduceToNat, Nat.reduceEqDiff, Nat.reduceBEq, Nat.reduceBneDiff]
        cases hin : insB pt (ps.map Sc.of) with
        | false =>
          rw [hin] at cI3
          refine callk cI3 ?_
          conv => simp (maxSteps := 2000000) (disch := omega) only [go_sem, Nat.reduceAdd, Nat.reduceSub, Nat.reduceMul, Int.reduceToNat, Nat.reduceEqDiff, Nat.reduceBEq, Nat.reduceBneDiff]
          exact ⟨_, rfl, .one (.refl _)⟩
        | true =>
          rw [hin] at cI3
          obtain ⟨vs, rfl, hvs⟩ := insB_ex hin
          have hvl := inP_len hvs
          have cA3 := cAt (Af.of k cs) (vs.map Fc.of) hs.1 (by rw [List.length_map]; omega) (le_mono hfle (by decide)) (fun g hg => by have := h3.2 g hg; omega)
          have hval := at_sz (a := Af.of k cs) (n := 8) hfle h3.2 h1.2.2.2.1
          rw [Af.at_of k cs vs (by omega), decide_eq_true ⟨(Af.of_ok k cs _).2 (by rw [List.length_map]; omega), oks_map _⟩] at cA3
          rw [Af.at_of k cs vs (by omega)] at hval
          have cH := cSpanHas (Sc.of (rangeQ k cs ps)) (Fc.of (sumQ k cs vs)) (by show max _ _ ≤ _; have := hbs; omega) (by omega)
          rw [decide_eq_true ((has_of _ _).2 (range_has k cs vs ps hl hvs))] at cH
          refine callk cI3 ?_
          conv => simp (maxSteps := 2000000) (disch := omega) only [go_sem, Nat.reduceAdd, Nat.reduceSub, Nat.reduceMul, Int.reduceToNat, Nat.reduceEqDiff, Nat.reduceBEq, Nat.reduceBneDiff]
          refine callk cA3 ?_
          conv => simp (maxSteps := 2000000) (disch := omega) only [go_sem, Nat.reduceAdd, Nat.reduceSub, Nat.reduceMul, Int.reduceToNat, Nat.reduceEqDiff, Nat.reduceBEq, Nat.reduceBneDiff]
          refine callk cH ?_
          conv => simp (maxSteps := 2000000) (disch := omega) only [go_sem, Nat.reduceAdd, Nat.reduceSub, Nat.reduceMul, Int.reduceToNat, Nat.reduceEqDiff, Nat.reduceBEq, Nat.reduceBneDiff]
          exact ⟨_, rfl, .one (.refl _)⟩
      · rw [Fc.er_bad h5, show Bk.bounds f l = Sc.zero from if_neg h5] at cB
        refine CallsTo.run [] Go.Proofs.Try.func5 rfl rfl ?_; conv => simp (maxSteps := 2000000) (disch := omega) only [go_sem, Nat.reduceAdd, Nat.reduceSub, Nat.reduceMul, Int.reduceToNat, Nat.reduceEqDiff, Nat.reduceBEq, Nat.reduceBneDiff, Go.Proofs.Try.f5, List.replicate]
        refine callk wSane ?_
        conv => simp (maxSteps := 2000000) (disch := omega) only [go_sem, Nat.reduceAdd, Nat.reduceSub, Nat.reduceMul, Int.reduceToNat, Nat.reduceEqDiff, Nat.reduceBEq, Nat.reduceBneDiff]
        refine callk c1 ?_
        conv => simp (maxSteps := 2000000) (disch := omega) only [go_sem, Nat.reduceAdd, Nat.reduceSub, Nat.reduceMul, Int.reduceToNat, Nat.reduceEqDiff, Nat.reduceBEq, Nat.reduceBneDiff]
        refine callk c3 ?_
        conv => simp (maxSteps := 2000000) (disch := omega) only [go_sem, Nat.reduceAdd, Nat.reduceSub, Nat.reduceMul, Int.reduceToNat, Nat.reduceEqDiff, Nat.reduceBEq, Nat.reduceBneDiff]
        refine callk cB ?_
        conv => simp (maxSteps := 2000000) (disch := omega) only [go_sem, Nat.reduceAdd, Nat.reduceSub, Nat.reduceMul, Int.reduceToNat, Nat.reduceEqDiff, Nat.reduceBEq, Nat.reduceBneDiff]
        refine condd (fun _ => ?_) (fun h => absurd (by decide) h)
        conv => simp (maxSteps := 2000000) (disch := omega) only [go_sem, Nat.reduceAdd, Nat.reduceSub, Nat.reduceMul, Int.reduceToNat, Nat.reduceEqDiff, Nat.reduceBEq, Nat.reduceBneDiff]
        refine callk sameZ ?_
        conv => simp (maxSteps := 2000000) (disch := omega) only [go_sem, Nat.reduceAdd, Nat.reduceSub, Nat.reduceMul, Int.reduceToNat, Nat.reduceEqDiff, Nat.reduceBEq, Nat.reduceBneDiff]
        exact ⟨_, rfl, .one (.refl _)⟩
    · rw [decide_eq_false h3] at c3
      refine CallsTo.run [] Go.Proofs.Try.func5 rfl rfl ?_; conv => simp (maxSteps := 2000000) (disch := omega) only [go_sem, Nat.reduceAdd, Nat.reduceSub, Nat.reduceMul, Int.reduceToNat, Nat.reduceEqDiff, Nat.reduceBEq, Nat.reduceBneDiff, Go.Proofs.Try.f5, List.replicate]
      refine callk wSane ?_
      conv => simp (maxSteps := 2000000) (disch := omega) only [go_sem, Nat.reduceAdd, Nat.reduceSub, Nat.reduceMul, Int.reduceToNat, Nat.reduceEqDiff, Nat.reduceBEq, Nat.reduceBneDiff]
      refine callk c1 ?_
      conv => simp (maxSteps := 2000000) (disch := omega) only [go_sem, Nat.reduceAdd, Nat.reduceSub, Nat.reduceMul, Int.reduceToNat, Nat.reduceEqDiff, Nat.reduceBEq, Nat.reduceBneDiff]
      refine callk c3 ?_
      conv => simp (maxSteps := 2000000) (disch := omega) only [go_sem, Nat.reduceAdd, Nat.reduceSub, Nat.reduceMul, Int.reduceToNat, Nat.reduceEqDiff, Nat.reduceBEq, Nat.reduceBneDiff]
      exact ⟨_, rfl, .one (.refl _)⟩
  · rw [decide_eq_false h1] at c1
    refine CallsTo.run [] Go.Proofs.Try.func5 rfl rfl ?_; conv => simp (maxSteps := 2000000) (disch := omega) only [go_sem, Nat.reduceAdd, Nat.reduceSub, Nat.reduceMul, Int.reduceToNat, Nat.reduceEqDiff, Nat.reduceBEq, Nat.reduceBneDiff, Go.Proofs.Try.f5, List.replicate]
    refine callk wSane ?_
    conv => simp (maxSteps := 2000000) (disch := omega) only [go_sem, Nat.reduceAdd, Nat.reduceSub, Nat.reduceMul, Int.reduceToNat, Nat.reduceEqDiff, Nat.reduceBEq, Nat.reduceBneDiff]
    refine callk c1 ?_
    conv => simp (maxSteps := 2000000) (disch := omega) only [go_sem, Nat.reduceAdd, Nat.reduceSub, Nat.reduceMul, Int.reduceToNat, Nat.reduceEqDiff, Nat.reduceBEq, Nat.reduceBneDiff]
    exact ⟨_, rfl, .one (.refl _)⟩
end Go.Slot.T

/- The statement BackNarrow: its walk. -/
namespace Go.Slot.T
open Go Go.RowKit Go.Slot
open Go.Proofs.Try (prog)
set_option maxRecDepth 10000
set_option maxHeartbeats 4000000

/-- one span replaced by a point -/
def repl (l : List Sc) (a : Int) (x : Fc) : List Sc := if 0 ≤ a ∧ a < l.length then l.set a.toNat (Sc.point x) else l
theorem point_sz (x : Fc) : (Sc.point x).sz ≤ x.sz := by
  unfold Sc.point
  split
  · show max x.sz x.sz ≤ x.sz; omega
  · exact Nat.zero_le _
theorem repl_len (l : List Sc) (a : Int) (x : Fc) : (repl l a x).length = l.length := by unfold repl; split <;> simp
theorem repl_few {f : Af} {l : List Sc} (h : fewC f l) (a : Int) {x : Fc} (hx : x.sz ≤ 4) : fewC f (repl l a x) := by
  refine ⟨by rw [repl_len]; exact h.1, fun s hs => ?_, h.2.2⟩
  unfold repl at hs
  split at hs
  · rcases List.mem_or_eq_of_mem_set hs with hs | rfl
    · exact h.2.1 s hs
    · exact Nat.le_trans (point_sz x) hx
  · exact h.2.1 s hs
theorem wWidth (f : Af) (l : List Sc) (a : Int) (x : Fc) (h1 : fewC f l) (hx : x.sz ≤ 4) (h0 : 0 < l.length) :
    CallsTo prog 20 [.agg f.C, .one (.sl 8 (l.map Sc.C)), .one (.raw (.int .i64 a)), .agg x.C]
      (.tup [.agg (Sc.width (Bk.bounds f (repl l a x))).C, .one (.raw (.bool (decide (Bk.ok f (repl l a x)))))]) := by
  have hf := repl_few h1 a hx
  have hs := few_small hf
  have cB := cBounds f (repl l a x) hs
  have hb := bounds_sz hf
  have cW := cWidth (Bk.bounds f (repl l a x)) (by show max _ _ ≤ _; omega)
  have hl8 := h1.1
  have he : decide (Fc.er (Bk.ok f (repl l a x)) = 0) = decide (Bk.ok f (repl l a x)) := by
    apply decide_eq_decide.2
    unfold Fc.er; split <;> simp_all
  rw [← he]
  have hl0 : l.length ≠ 0 := by omega
  refine CallsTo.run [(1, [.lit]), (4, [.frz 15])] Go.Proofs.Try.func20 rfl rfl ?_; conv => simp (maxSteps := 2000000) (disch := omega) only [go_sem, Nat.reduceAdd, Nat.reduceSub, Nat.reduceMul, Int.reduceToNat, Nat.reduceEqDiff, Nat.reduceBEq, Nat.reduceBneDiff, Go.Proofs.Try.f20, List.replicate]
  refine guardd (fun g1 => ?_) (fun g1 => ?_)
  · have g1' := decide_eq_true g1
    conv => simp (maxSteps := 2000000) (disch := omega) only [go_sem, Nat.reduceAdd, Nat.reduceSub, Nat.reduceMul, Int.reduceToNat, Nat.reduceEqDiff, Nat.reduceBEq, Nat.reduceBneDiff, g1']
    refine condd (fun g2 => ?_) (fun g2 => ?_)
    · have e : repl l a x = l.set a.toNat (Sc.point x) := if_pos ⟨g1, g2⟩
      rw [e] at cB cW ⊢
      have e2 : (l.map Sc.C).set a.toNat (Sc.point x).C = (l.set a.toNat (Sc.point x)).map Sc.C := List.map_set.symm
      rw [Sc.C_eq] at e2
      conv => simp (maxSteps := 2000000) (disch := omega) only [go_sem, Nat.reduceAdd, Nat.reduceSub, Nat.reduceMul, Int.reduceToNat, Nat.reduceEqDiff, Nat.reduceBEq, Nat.reduceBneDiff]
      refine callk (cPoint x (by omega)) ?_
      conv => simp (maxSteps := 2000000) (disch := omega) only [go_sem, Nat.reduceAdd, Nat.reduceSub, Nat.reduceMul, Int.reduceToNat, Nat.reduceEqDiff, Nat.reduceBEq, Nat.reduceBneDiff]
      rw [e2]
      refine callk cB ?_
      conv => simp (maxSteps := 2000000) (disch := omega) only [go_sem, Nat.reduceAdd, Nat.reduceSub, Nat.reduceMul, Int.reduceToNat, Nat.reduceEqDiff, Nat.reduceBEq, Nat.reduceBneDiff]
      refine callk cW ?_
      conv => simp (maxSteps := 2000000) (disch := omega) only [go_sem, Nat.reduceAdd, Nat.reduceSub, Nat.reduceMul, Int.reduceToNat, Nat.reduceEqDiff, Nat.reduceBEq, Nat.reduceBneDiff]
      exact ⟨_, rfl, .tup (.cons (.refl _) (.cons (.refl _) .nil))⟩
    · have e : repl l a x = l := if_neg (fun h => g2 h.2)
      rw [e] at cB cW ⊢
      conv => simp (maxSteps := 2000000) (disch := omega) only [go_sem, Nat.reduceAdd, Nat.reduceSub, Nat.reduceMul, Int.reduceToNat, Nat.reduceEqDiff, Nat.reduceBEq, Nat.reduceBneDiff]
      refine callk cB ?_
      conv => simp (maxSteps := 2000000) (disch := omega) only [go_sem, Nat.reduceAdd, Nat.reduceSub, Nat.reduceMul, Int.reduceToNat, Nat.reduceEqDiff, Nat.reduceBEq, Nat.reduceBneDiff]
      refine callk cW ?_
      conv => simp (maxSteps := 2000000) (disch := omega) only [go_sem, Nat.reduceAdd, Nat.reduceSub, Nat.reduceMul, Int.reduceToNat, Nat.reduceEqDiff, Nat.reduceBEq, Nat.reduceBneDiff]
      exact ⟨_, rfl, .tup (.cons (.refl _) (.cons (.refl _) .nil))⟩
  · have g1' := decide_eq_false g1
    have e : repl l a x = l := if_neg (fun h => g1 h.1)
    rw [e] at cB cW ⊢
    conv => simp (maxSteps := 2000000) (disch := omega) only [go_sem, Nat.reduceAdd, Nat.reduceSub, Nat.reduceMul, Int.reduceToNat, Nat.reduceEqDiff, Nat.reduceBEq, Nat.reduceBneDiff, g1']
    refine callk cB ?_
    conv => simp (maxSteps := 2000000) (disch := omega) only [go_sem, Nat.reduceAdd, Nat.reduceSub, Nat.reduceMul, Int.reduceToNat, Nat.reduceEqDiff, Nat.reduceBEq, Nat.reduceBneDiff]
    refine callk cW ?_
    conv => simp (maxSteps := 2000000) (disch := omega) only [go_sem, Nat.reduceAdd, Nat.reduceSub, Nat.reduceMul, Int.reduceToNat, Nat.reduceEqDiff, Nat.reduceBEq, Nat.reduceBneDiff]
    exact ⟨_, rfl, .tup (.cons (.refl _) (.cons (.refl _) .nil))⟩
theorem repl_none (l : List Sc) (x : Fc) : repl l (-1) x = l := if_neg (fun h => by omega)
theorem repl_at (ps : List (Rat × Rat)) (j : Nat) (v : Rat) (hj : j < ps.length) : repl (ps.map Sc.of) (j : Int) (Fc.of v) = (ps.set j (v, v)).map Sc.of := by
  unfold repl
  rw [if_pos ⟨by omega, by simp; omega⟩, Int.toNat_natCast, List.map_set]
  congr 1
  unfold Sc.point
  rw [if_pos (Fc.of_ok v)]; rfl
/-- the width of the range -/
theorem width_bounds (k : Rat) (cs : List Rat) (ps : List (Rat × Rat)) (h : cs.length = ps.length) (hp : okP ps) : Sc.width (Bk.bounds (Af.of k cs) (ps.map Sc.of)) = Fc.of (totQ cs ps) := by
  rw [bounds_of k cs ps h hp, width_of _ (range_ok k cs ps h hp), range_width k cs ps h hp]
theorem wNarrow (f : Af) (l : List Sc) (pt : List Fc) (n : Int) (hr : room f l) (hp : roomF pt) (hn : 0 ≤ n ∧ n ≤ 255) :
    CallsTo prog 4 [.agg f.C, .one (.sl 8 (l.map Sc.C)), .one (.sl 4 (pt.map Fc.C)), .one (.raw (.int .u8 n))] (.one (.raw (.bool true))) := by
  have c1 := wFew hr
  have c2 := r46FewFracs pt 8 (by decide) hp.1 hp.2
  by_cases h1 : fewC f l
  · rw [decide_eq_true h1] at c1
    by_cases h2 : fewF pt 8
    · rw [decide_eq_true h2] at c2
      by_cases h3 : (l.length : Int) = 0
      · refine CallsTo.run [] Go.Proofs.Try.func4 rfl rfl ?_; conv => simp (maxSteps := 2000000) (disch := omega) only [go_sem, Nat.reduceAdd, Nat.reduceSub, Nat.reduceMul, Int.reduceToNat, Nat.reduceEqDiff, Nat.reduceBEq, Nat.reduceBneDiff, Go.Proofs.Try.f4, List.replicate]
        refine callk wSane ?_
        conv => simp (maxSteps := 2000000) (disch := omega) only [go_sem, Nat.reduceAdd, Nat.reduceSub, Nat.reduceMul, Int.reduceToNat, Nat.reduceEqDiff, Nat.reduceBEq, Nat.reduceBneDiff]
        refine callk c1 ?_
        conv => simp (maxSteps := 2000000) (disch := omega) only [go_sem, Nat.reduceAdd, Nat.reduceSub, Nat.reduceMul, Int.reduceToNat, Nat.reduceEqDiff, Nat.reduceBEq, Nat.reduceBneDiff]
        refine callk c2 ?_
        conv => simp (maxSteps := 2000000) (disch := omega) only [go_sem, Nat.reduceAdd, Nat.reduceSub, Nat.reduceMul, Int.reduceToNat, Nat.reduceEqDiff, Nat.reduceBEq, Nat.reduceBneDiff]
        refine condd (fun _ => ?_) (fun e => absurd h3 e)
        conv => simp (maxSteps := 2000000) (disch := omega) only [go_sem, Nat.reduceAdd, Nat.reduceSub, Nat.reduceMul, Int.reduceToNat, Nat.reduceEqDiff, Nat.reduceBEq, Nat.reduceBneDiff]
        exact ⟨_, rfl, .one (.refl _)⟩
      · have hs := few_small h1
        have cN := cNarrow f l hs
        have cI := wInside pt l hp.1 hr.2.1 hp.2 hr.2.2.2
        by_cases h4 : Bk.ok f l
        · obtain ⟨k, cs, ps, rfl, rfl, hl, hps⟩ := Bk.ok_ex h4
          have hl0 : 0 < ps.length := by rw [List.length_map] at h3; omega
          rw [narrow_of k cs ps hl hps hl0] at cN
          obtain ⟨j, hj, hj1, hj2, hj3⟩ := narQ_found cs ps hl hl0
          rw [hj1] at cN
          dsimp only at cN
          generalize hsw : (narQ 0 (0, 0) cs ps).2 = sw at *
          by_cases h5 : insB pt (ps.map Sc.of) = true
          · rw [h5] at cI
            obtain ⟨vs, hpt, hin⟩ := insB_ex h5
            have hvl := inP_len hin
            have hpl : pt.length = ps.length := by rw [hpt, List.length_map, hvl]
            have hll : (ps.map Sc.of).length = ps.length := by simp
            obtain ⟨m, rfl⟩ : ∃ m : Nat, n = (m : Int) := ⟨n.toNat, by omega⟩
            have hkl : m % ps.length < ps.length := Nat.mod_lt _ hl0
            have ht : (m : Int).tmod ((ps.map Sc.of).length : Nat) = ((m % ps.length : Nat) : Int) := by rw [hll]; rfl
            generalize m % ps.length = q at *
            have hg : ∀ i, i < ps.length → pt.getD i Fc.zero = Fc.of (vs.getD i 0) := fun i hi => by rw [hpt]; simp [show i < vs.length by omega]
            have hz : ∀ i, i < ps.length → (pt.getD i Fc.zero).sz ≤ 4 := fun i hi => getD_sz h2.2 (by omega)
            have zz : ∀ a i, i < ps.length → (Sc.width (Bk.bounds (Af.of k cs) (repl (ps.map Sc.of) a (pt.getD i Fc.zero)))).sz ≤ 225 := fun a i hi => by
              have := bounds_sz (repl_few h1 a (hz i hi))
              exact width_sz (n := 112) (by show max _ _ ≤ _; omega)
            have hrep : ∀ i, i < ps.length → repl (ps.map Sc.of) (i : Int) (pt.getD i Fc.zero) = (ps.set i (vs.getD i 0, vs.getD i 0)).map Sc.of := fun i hi => by rw [hg i hi]; exact repl_at ps i _ hi
            have hwd : ∀ i, i < ps.length → Sc.width (Bk.bounds (Af.of k cs) ((ps.set i (vs.getD i 0, vs.getD i 0)).map Sc.of)) = Fc.of (totQ cs ps - swQ (cs.getD i 0) (ps.getD i (0, 0))) := fun i hi => by
              rw [width_bounds k cs _ (by simpa using hl) (okP_set hps i _), totQ_set _ cs ps i hl hi]
            have hok : ∀ i, i < ps.length → decide (Bk.ok (Af.of k cs) ((ps.set i (vs.getD i 0, vs.getD i 0)).map Sc.of)) = true := fun i hi =>
              decide_eq_true ((Bk.ok_of k cs _).2 ⟨by simpa using hl, okP_set hps i _⟩)
            have w0 := wWidth (Af.of k cs) (ps.map Sc.of) (-1) (pt.getD 0 Fc.zero) h1 (hz 0 hl0) (by omega)
            have z0 := zz (-1) 0 hl0
            rw [repl_none, width_bounds k cs ps hl hps] at w0 z0
            rw [decide_eq_true h4] at w0
            have w1 := wWidth (Af.of k cs) (ps.map Sc.of) (j : Int) (pt.getD j Fc.zero) h1 (hz j hj) (by omega)
            have z1 := zz (j : Int) j hj
            rw [hrep j hj, hwd j hj, ← hj2] at w1 z1
            rw [hok j hj] at w1
            have w2 := wWidth (Af.of k cs) (ps.map Sc.of) (q : Int) (pt.getD q Fc.zero) h1 (hz q hkl) (by omega)
            have z2 := zz (q : Int) q hkl
            rw [hrep q hkl, hwd q hkl] at w2 z2
            rw [hok q hkl] at w2
            have hq1 := hj3 q hkl
            have hq2 := swQ_pos (cs.getD q 0) (ps.getD q (0, 0))
            generalize swQ (cs.getD q 0) (ps.getD q (0, 0)) = sq at *
            generalize totQ cs ps = T at *
            have s1 := cSubF (Fc.of T) (Fc.of (T - sw)) (by omega) (by omega)
            have y1 := Fc.sz_sub (Fc.of T) (Fc.of (T - sw))
            rw [Fc.sub_of, show T - (T - sw) = sw by grind] at s1 y1
            rw [Fc.er_of ⟨Fc.of_ok _, Fc.of_ok _⟩] at s1
            have s2 := cSubF (Fc.of T) (Fc.of (T - sq)) (by omega) (by omega)
            have y2 := Fc.sz_sub (Fc.of T) (Fc.of (T - sq))
            rw [Fc.sub_of, show T - (T - sq) = sq by grind] at s2 y2
            rw [Fc.er_of ⟨Fc.of_ok _, Fc.of_ok _⟩] at s2
            have k1 := sameF_true (Fc.of sw) (by omega)
            have k2 := cCmpF (Fc.of sq) (Fc.of sw) (by omega) (by omega)
            rw [Fc.cmp_of] at k2
            have k3 := cSignF (Fc.of sq) (by omega)
            rw [Fc.sign_of] at k3
            have d2 := decide_eq_true ((ordQ_le sq sw).2 hq1)
            have d3 := decide_eq_true ((sg_nonneg_iff sq).2 hq2)
            have e0 := decide_eq_false (show ¬ ((0 : Int) ≠ 0) by decide)
            have j1 := decide_eq_false (show ¬ (j : Int) < 0 by omega)
            have j2 := decide_eq_false (show ¬ ((ps.map Sc.of).length : Int) ≤ j by omega)
            refine CallsTo.run [] Go.Proofs.Try.func4 rfl rfl ?_; conv => simp (maxSteps := 2000000) (disch := omega) only [go_sem, Nat.reduceAdd, Nat.reduceSub, Nat.reduceMul, Int.reduceToNat, Nat.reduceEqDiff, Nat.reduceBEq, Nat.reduceBneDiff, Go.Proofs.Try.f4, List.replicate]
            refine callk wSane ?_
            conv => simp (maxSteps := 2000000) (disch := omega) only [go_sem, Nat.reduceAdd, Nat.reduceSub, Nat.reduceMul, Int.reduceToNat, Nat.reduceEqDiff, Nat.reduceBEq, Nat.reduceBneDiff]
            refine callk c1 ?_
            conv => simp (maxSteps := 2000000) (disch := omega) only [go_sem, Nat.reduceAdd, Nat.reduceSub, Nat.reduceMul, Int.reduceToNat, Nat.reduceEqDiff, Nat.reduceBEq, Nat.reduceBneDiff]
            refine callk c2 ?_
            conv => simp (maxSteps := 2000000) (disch := omega) only [go_sem, Nat.reduceAdd, Nat.reduceSub, Nat.reduceMul, Int.reduceToNat, Nat.reduceEqDiff, Nat.reduceBEq, Nat.reduceBneDiff]
            refine condd (fun e => absurd e h3) (fun _ => ?_)
            conv => simp (maxSteps := 2000000) (disch := omega) only [go_sem, Nat.reduceAdd, Nat.reduceSub, Nat.reduceMul, Int.reduceToNat, Nat.reduceEqDiff, Nat.reduceBEq, Nat.reduceBneDiff]
            refine callk cN ?_
            conv => simp (maxSteps := 2000000) (disch := omega) only [go_sem, Nat.reduceAdd, Nat.reduceSub, Nat.reduceMul, Int.reduceToNat, Nat.reduceEqDiff, Nat.reduceBEq, Nat.reduceBneDiff, e0]
            refine callk cI ?_
            conv => simp (maxSteps := 2000000) (disch := omega) only [go_sem, Nat.reduceAdd, Nat.reduceSub, Nat.reduceMul, Int.reduceToNat, Nat.reduceEqDiff, Nat.reduceBEq, Nat.reduceBneDiff, j1, j2, ht]
            refine callk w0 ?_
            conv => simp (maxSteps := 2000000) (disch := omega) only [go_sem, Nat.reduceAdd, Nat.reduceSub, Nat.reduceMul, Int.reduceToNat, Nat.reduceEqDiff, Nat.reduceBEq, Nat.reduceBneDiff]
            refine indk (by kernel_rfl) ?_
            conv => simp (maxSteps := 2000000) (disch := omega) only [go_sem, Nat.reduceAdd, Nat.reduceSub, Nat.reduceMul, Int.reduceToNat, Nat.reduceEqDiff, Nat.reduceBEq, Nat.reduceBneDiff]
            refine callk w1 ?_
            conv => simp (maxSteps := 2000000) (disch := omega) only [go_sem, Nat.reduceAdd, Nat.reduceSub, Nat.reduceMul, Int.reduceToNat, Nat.reduceEqDiff, Nat.reduceBEq, Nat.reduceBneDiff]
            refine indk (by kernel_rfl) ?_
            conv => simp (maxSteps := 2000000) (disch := omega) only [go_sem, Nat.reduceAdd, Nat.reduceSub, Nat.reduceMul, Int.reduceToNat, Nat.reduceEqDiff, Nat.reduceBEq, Nat.reduceBneDiff]
            refine callk w2 ?_
            conv => simp (maxSteps := 2000000) (disch := omega) only [go_sem, Nat.reduceAdd, Nat.reduceSub, Nat.reduceMul, Int.reduceToNat, Nat.reduceEqDiff, Nat.reduceBEq, Nat.reduceBneDiff]
            refine indk (by kernel_rfl) ?_
            conv => simp (maxSteps := 2000000) (disch := omega) only [go_sem, Nat.reduceAdd, Nat.reduceSub, Nat.reduceMul, Int.reduceToNat, Nat.reduceEqDiff, Nat.reduceBEq, Nat.reduceBneDiff]
            refine callk s1 ?_
            conv => simp (maxSteps := 2000000) (disch := omega) only [go_sem, Nat.reduceAdd, Nat.reduceSub, Nat.reduceMul, Int.reduceToNat, Nat.reduceEqDiff, Nat.reduceBEq, Nat.reduceBneDiff]
            refine callk s2 ?_
            conv => simp (maxSteps := 2000000) (disch := omega) only [go_sem, Nat.reduceAdd, Nat.reduceSub, Nat.reduceMul, Int.reduceToNat, Nat.reduceEqDiff, Nat.reduceBEq, Nat.reduceBneDiff]
            refine callk k1 ?_
            conv => simp (maxSteps := 2000000) (disch := omega) only [go_sem, Nat.reduceAdd, Nat.reduceSub, Nat.reduceMul, Int.reduceToNat, Nat.reduceEqDiff, Nat.reduceBEq, Nat.reduceBneDiff]
            refine callk k2 ?_
            conv => simp (maxSteps := 2000000) (disch := omega) only [go_sem, Nat.reduceAdd, Nat.reduceSub, Nat.reduceMul, Int.reduceToNat, Nat.reduceEqDiff, Nat.reduceBEq, Nat.reduceBneDiff, d2]
            refine callk k3 ?_
            conv => simp (maxSteps := 2000000) (disch := omega) only [go_sem, Nat.reduceAdd, Nat.reduceSub, Nat.reduceMul, Int.reduceToNat, Nat.reduceEqDiff, Nat.reduceBEq, Nat.reduceBneDiff, d3]
            exact ⟨_, rfl, .one (.refl _)⟩
          · rw [show insB pt (ps.map Sc.of) = false by simpa using h5] at cI
            have e0 := decide_eq_false (show ¬ ((0 : Int) ≠ 0) by decide)
            have e1 := decide_eq_true (show (0 : Int) = 0 by decide)
            refine CallsTo.run [] Go.Proofs.Try.func4 rfl rfl ?_; conv => simp (maxSteps := 2000000) (disch := omega) only [go_sem, Nat.reduceAdd, Nat.reduceSub, Nat.reduceMul, Int.reduceToNat, Nat.reduceEqDiff, Nat.reduceBEq, Nat.reduceBneDiff, Go.Proofs.Try.f4, List.replicate]
            refine callk wSane ?_
            conv => simp (maxSteps := 2000000) (disch := omega) only [go_sem, Nat.reduceAdd, Nat.reduceSub, Nat.reduceMul, Int.reduceToNat, Nat.reduceEqDiff, Nat.reduceBEq, Nat.reduceBneDiff]
            refine callk c1 ?_
            conv => simp (maxSteps := 2000000) (disch := omega) only [go_sem, Nat.reduceAdd, Nat.reduceSub, Nat.reduceMul, Int.reduceToNat, Nat.reduceEqDiff, Nat.reduceBEq, Nat.reduceBneDiff]
            refine callk c2 ?_
            conv => simp (maxSteps := 2000000) (disch := omega) only [go_sem, Nat.reduceAdd, Nat.reduceSub, Nat.reduceMul, Int.reduceToNat, Nat.reduceEqDiff, Nat.reduceBEq, Nat.reduceBneDiff]
            refine condd (fun e => absurd e h3) (fun _ => ?_)
            conv => simp (maxSteps := 2000000) (disch := omega) only [go_sem, Nat.reduceAdd, Nat.reduceSub, Nat.reduceMul, Int.reduceToNat, Nat.reduceEqDiff, Nat.reduceBEq, Nat.reduceBneDiff]
            refine callk cN ?_
            conv => simp (maxSteps := 2000000) (disch := omega) only [go_sem, Nat.reduceAdd, Nat.reduceSub, Nat.reduceMul, Int.reduceToNat, Nat.reduceEqDiff, Nat.reduceBEq, Nat.reduceBneDiff, e0]
            refine callk cI ?_
            conv => simp (maxSteps := 2000000) (disch := omega) only [go_sem, Nat.reduceAdd, Nat.reduceSub, Nat.reduceMul, Int.reduceToNat, Nat.reduceEqDiff, Nat.reduceBEq, Nat.reduceBneDiff, e1]
            exact ⟨_, rfl, .one (.refl _)⟩
        · rw [show Bk.narrow f l = (0, Fc.zero, 1) from if_neg h4] at cN
          dsimp only at cN
          have e0 := decide_eq_true (show ((1 : Int) ≠ 0) by decide)
          have e1 := decide_eq_false (show ¬ (1 : Int) = 0 by decide)
          have e2 := decide_eq_true (show (1 : Int) = 1 by decide)
          refine CallsTo.run [] Go.Proofs.Try.func4 rfl rfl ?_; conv => simp (maxSteps := 2000000) (disch := omega) only [go_sem, Nat.reduceAdd, Nat.reduceSub, Nat.reduceMul, Int.reduceToNat, Nat.reduceEqDiff, Nat.reduceBEq, Nat.reduceBneDiff, Go.Proofs.Try.f4, List.replicate]
          refine callk wSane ?_
          conv => simp (maxSteps := 2000000) (disch := omega) only [go_sem, Nat.reduceAdd, Nat.reduceSub, Nat.reduceMul, Int.reduceToNat, Nat.reduceEqDiff, Nat.reduceBEq, Nat.reduceBneDiff]
          refine callk c1 ?_
          conv => simp (maxSteps := 2000000) (disch := omega) only [go_sem, Nat.reduceAdd, Nat.reduceSub, Nat.reduceMul, Int.reduceToNat, Nat.reduceEqDiff, Nat.reduceBEq, Nat.reduceBneDiff]
          refine callk c2 ?_
          conv => simp (maxSteps := 2000000) (disch := omega) only [go_sem, Nat.reduceAdd, Nat.reduceSub, Nat.reduceMul, Int.reduceToNat, Nat.reduceEqDiff, Nat.reduceBEq, Nat.reduceBneDiff]
          refine condd (fun e => absurd e h3) (fun _ => ?_)
          conv => simp (maxSteps := 2000000) (disch := omega) only [go_sem, Nat.reduceAdd, Nat.reduceSub, Nat.reduceMul, Int.reduceToNat, Nat.reduceEqDiff, Nat.reduceBEq, Nat.reduceBneDiff]
          refine callk cN ?_
          conv => simp (maxSteps := 2000000) (disch := omega) only [go_sem, Nat.reduceAdd, Nat.reduceSub, Nat.reduceMul, Int.reduceToNat, Nat.reduceEqDiff, Nat.reduceBEq, Nat.reduceBneDiff, e0, e1, e2]
          exact ⟨_, rfl, .one (.refl _)⟩
    · rw [decide_eq_false h2] at c2
      refine CallsTo.run [] Go.Proofs.Try.func4 rfl rfl ?_; conv => simp (maxSteps := 2000000) (disch := omega) only [go_sem, Nat.reduceAdd, Nat.reduceSub, Nat.reduceMul, Int.reduceToNat, Nat.reduceEqDiff, Nat.reduceBEq, Nat.reduceBneDiff, Go.Proofs.Try.f4, List.replicate]
      refine callk wSane ?_
      conv => simp (maxSteps := 2000000) (disch := omega) only [go_sem, Nat.reduceAdd, Nat.reduceSub, Nat.reduceMul, Int.reduceToNat, Nat.reduceEqDiff, Nat.reduceBEq, Nat.reduceBneDiff]
      refine callk c1 ?_
      conv => simp (maxSteps := 2000000) (disch := omega) only [go_sem, Nat.reduceAdd, Nat.reduceSub, Nat.reduceMul, Int.reduceToNat, Nat.reduceEqDiff, Nat.reduceBEq, Nat.reduceBneDiff]
      refine callk c2 ?_
      conv => simp (maxSteps := 2000000) (disch := omega) only [go_sem, Nat.reduceAdd, Nat.reduceSub, Nat.reduceMul, Int.reduceToNat, Nat.reduceEqDiff, Nat.reduceBEq, Nat.reduceBneDiff]
      exact ⟨_, rfl, .one (.refl _)⟩
  · rw [decide_eq_false h1] at c1
    refine CallsTo.run [] Go.Proofs.Try.func4 rfl rfl ?_; conv => simp (maxSteps := 2000000) (disch := omega) only [go_sem, Nat.reduceAdd, Nat.reduceSub, Nat.reduceMul, Int.reduceToNat, Nat.reduceEqDiff, Nat.reduceBEq, Nat.reduceBneDiff, Go.Proofs.Try.f4, List.replicate]
    refine callk wSane ?_
    conv => simp (maxSteps := 2000000) (disch := omega) only [go_sem, Nat.reduceAdd, Nat.reduceSub, Nat.reduceMul, Int.reduceToNat, Nat.reduceEqDiff, Nat.reduceBEq, Nat.reduceBneDiff]
    refine callk c1 ?_
    conv => simp (maxSteps := 2000000) (disch := omega) only [go_sem, Nat.reduceAdd, Nat.reduceSub, Nat.reduceMul, Int.reduceToNat, Nat.reduceEqDiff, Nat.reduceBEq, Nat.reduceBneDiff]
    exact ⟨_, rfl, .one (.refl _)⟩
end Go.Slot.T

/-
  BackNarrow: for all arguments of bulk at most 1048576 the statement returns true, and the arguments read as before.
-/
namespace Go.Proofs.Ytieohkidmjglgaa
set_option maxRecDepth 100000
open Go Go.Slot Go.ChangeShapes Go.WideShapes Go.RowKit
theorem spU8_is : spOf Try.prog 8 5 = some [.int .u8] := by kernel_rfl
theorem openU8 {H : Type} {enc : TypeId × Value → H} {W : World} {v : Value} {d : DataW H} {p : List MemPlace} {b : Nat} (hval : Value.okWide Try.prog W .any b 5 v)
    (hd : DataW.Trod enc Try.prog W 0 (fun _ => true) true 5 v d p) (hb : Rows.uptoBulk d ≤ 1048576) : ∃ n : Int, RdB M0 W v (.one (.raw (.int .u8 n))) ∧ 0 ≤ n ∧ n ≤ 255 := by
  obtain ⟨c, h1, h2⟩ := arg_int bulk Try.underlying5 spU8_is hval hd hb
  obtain ⟨n, rfl, h3, h4⟩ := fit_int h1
  exact ⟨n, h2, h3, h4⟩
theorem backNarrow_params : Try.f4.params = #[29, 30, 27, 5] := by kernel_rfl
theorem backNarrow_contract (H : Type) (enc : TypeId × Value → H) (W : World) (base : Nat) (args : Array Value) (ds gs : List (DataW H)) (before : List MemPlace)
    (hval : ∀ (j : Nat) t v, Try.f4.params[j]? = some t → args[j]? = some v → Value.okWide Try.prog W .any base t v)
    (hW : DataW.Whole enc Try.prog Try.f4.params.toList Rows.backNarrowSpec.vars false W args.toList ds gs before) (hk : Rows.uptoSmall H (ds ++ gs) = true) :
    Calls Try.prog 4 args W fun e W' => ∃ v, e = .returned v ∧ Rows.backNarrowSpec.post enc Try.prog Try.f4 false true false false W args v W' := by
  have hW' := hW
  obtain ⟨p, q, hA0, hV, rfl, hfz, hnd⟩ := hW
  have hA : DataW.TrodAll enc Try.prog W 0 (fun _ => true) true Try.f4.params.toList args.toList ds p := hA0
  rw [backNarrow_params] at hA hval
  obtain ⟨v0, v1, v2, v3, d0, d1, d2, d3, p0, p1, p2, p3, rfl, rfl, rfl, h0, h1, h2, h3⟩ := trodAll_four hA
  have hb := bulk_bound hk
  obtain ⟨x0, r0, l0, s0⟩ := openA (hval 0 _ v0 rfl rfl) h0 (hb d0 (by simp))
  obtain ⟨x1, r1, l1, s1⟩ := openSs (hval 1 _ v1 rfl rfl) h1 (hb d1 (by simp))
  obtain ⟨x2, r2, l2, s2⟩ := openFs (hval 2 _ v2 rfl rfl) h2 (hb d2 (by simp))
  obtain ⟨x3, r3, s3⟩ := openU8 (hval 3 _ v3 rfl rfl) h3 (hb d3 (by simp))
  refine (ended (T.wNarrow x0 x1 x2 x3 ⟨l0, l1, s0, s1⟩ ⟨l2, s2⟩ s3) (vs := [v0, v1, v2, v3]) ⟨r0, r1, r2, r3, trivial⟩).mono fun e W' ⟨he, hbel⟩ => ?_
  refine ⟨_, he, law_post (P := Try.prog) (f := Try.f4) (s := Rows.backNarrowSpec) (tb := 4) laid0 (by rw [backNarrow_params]; decide +kernel) rfl (by kernel_rfl) Try.underlying4 (fun ds gs hds hgs => ?_) hW' hbel⟩
  subst hgs
  rw [backNarrow_params] at hds
  obtain ⟨v0, v1, v2, v3, d0, d1, d2, d3, p0, p1, p2, p3, _, rfl, _, _, _, _, _⟩ := trodAll_four hds
  exact ⟨rfl, rfl, rfl⟩
theorem backNarrow_lifted (os : Os) (started : os.Started) (H : Type) (enc : TypeId × Value → H) (F : Stop.Interp) :
    ReturnsInHanded {} Try.checked os 4 .any ((Rows.OpenSpec.upto Rows.backNarrowSpec).pre6 enc Try.prog Try.f4 Rows.backNarrowUptoRow.domain false) (((Rows.OpenSpec.upto Rows.backNarrowSpec).at F).post enc Try.prog Try.f4 false true false false) := by
  refine returnsInHanded_of_cond (C := Try.checked) (s := Rows.OpenSpec.upto Rows.backNarrowSpec) (k := Rows.uptoSmall) rfl ownKnob0 started (by kernel_rfl) Try.func4
    (OpenSpec.witness (enc := enc) (C := Try.checked) (s := Rows.OpenSpec.upto Rows.backNarrowSpec) (k := Rows.uptoSmall) rfl false ⟨#[], #[zA, .slice none 0 0, .slice none 0 0, .int .u8 0], []⟩ 8 (by kernel_rfl) (by kernel_rfl) (by kernel_rfl)
      (x := ([dA, .nil, .nil, .lit (.int .u8 0)], [], [])) (by kernel_rfl) rfl (by kernel_rfl)) ?_
  intro W base args ds gs before hval hW _ hk _
  exact backNarrow_contract H enc W base args ds gs before hval hW hk
theorem backNarrow_over : Rows.backNarrowUptoRow.holds Try.pinned (Rows.OpenSpec.upto Rows.backNarrowSpec) :=
  OpenClaim.holds_of_cond 4 Try.f4 rfl rfl rfl rfl rfl rfl rfl ⟨rfl, rfl, rfl, rfl, rfl⟩ rfl rfl rfl rfl rfl (by kernel_rfl) Try.func4 (by kernel_rfl)
    (of_decide_eq_true (by kernel_rfl)) (by unfold Func.isWrapper; first | (rw [if_pos (by decide +kernel)]; kernel_rfl) | (rw [if_neg (by decide +kernel)]; exact ⟨rfl, rfl⟩))
    (fun os started H enc _ F => backNarrow_lifted os started H enc F)
theorem backNarrow_holds : Rows.BackNarrowUptoSaid := backNarrow_over
end Go.Proofs.Ytieohkidmjglgaa
