/-
  BackBounds: for all arguments of bulk at most 1048576 the statement returns true, and the arguments read as before.
-/
import Derived.Test.YtieohkidmjglgaaZ8
/- The statement BackBounds: its walk. -/
namespace Go.Slot.T
open Go Go.RowKit Go.Slot
open Go.Proofs.Try (prog)
set_option maxRecDepth 10000
set_option maxHeartbeats 4000000

/-- arguments that say more -/
theorem CallsTo.more {P : Program} {f : FuncId} {args args' : List AV} {res : AV} (h : CallsTo P f args res) (hle : LeS args' args) : CallsTo P f args' res :=
  ⟨h.1, fun M w vs hM hr => h.2 M w vs hM (by
    clear h
    induction hle generalizing vs with
    | nil => exact hr
    | cons h1 _ ih =>
      cases vs with
      | nil => exact hr.elim
      | cons v vs => exact ⟨RdB.le h1 hr.1, ih vs hr.2⟩)⟩
theorem insB_of : ∀ {vs : List Rat} {ps : List (Rat × Rat)}, inP vs ps → insB (vs.map Fc.of) (ps.map Sc.of) = true
  | [], [], _ => rfl
  | v :: vs, p :: ps, h => by
    show (decide ((Sc.of p).has (Fc.of v)) && insB (vs.map Fc.of) (ps.map Sc.of)) = true
    rw [decide_eq_true ((has_of p v).2 h.1), insB_of h.2]; rfl
theorem insB_ex : ∀ {v : List Fc} {ps : List (Rat × Rat)}, insB v (ps.map Sc.of) = true → ∃ vs : List Rat, v = vs.map Fc.of ∧ inP vs ps
  | [], [], _ => ⟨[], rfl, trivial⟩
  | [], _ :: _, h => by cases h
  | _ :: _, [], h => by cases h
  | f :: v, p :: ps, h => by
    have h : (decide ((Sc.of p).has f) && insB v (ps.map Sc.of)) = true := h
    rw [Bool.and_eq_true] at h
    have h1 := of_decide_eq_true h.1
    obtain ⟨q, rfl⟩ := Fc.ok_ex h1.2.1
    obtain ⟨vs, rfl, hi⟩ := insB_ex h.2
    exact ⟨q :: vs, rfl, (has_of p q).1 h1, hi⟩
theorem intM1 : CallsTo prog 16 [.one (.raw (.int .i64 (-1)))] (.agg (Fc.of (-1)).C) := rIntF (-1) (by decide)
theorem sameF_true (a : Fc) (h : a.sz ≤ 67108864) : CallsTo prog 22 [.agg a.C, .agg a.C] (.one (.raw (.bool true))) := by
  have := rSameF a a h h
  rwa [decide_eq_true rfl] at this
theorem sameZ : CallsTo prog 24 [.agg Sc.zero.C, .agg [.raw (.int .i64 0), .zc, .raw (.int .i64 0), .zc, .raw (.int .i64 0), .zc, .raw (.int .i64 0), .zc]] (.one (.raw (.bool true))) := by
  have := r10Same Sc.zero Sc.zero (by decide) (by decide)
  rw [decide_eq_true rfl] at this
  exact CallsTo.more this (.cons (.refl _) (.cons zeroS .nil))
theorem wBounds (f : Af) (l : List Sc) (pt : List Fc) (hr : room f l) (hp : roomF pt) :
    CallsTo prog 5 [.agg f.C, .one (.sl 8 (l.map Sc.C)), .one (.sl 4 (pt.map Fc.C))] (.one (.raw (.bool true))) := by
  have c1 := wFew hr
  have c3 := r46FewFracs pt 8 (by decide) hp.1 hp.2
  by_cases h1 : fewC f l
  · rw [decide_eq_true h1] at c1
    by_cases h3 : fewF pt 8
    · rw [decide_eq_true h3] at c3
      have hs := few_small h1
      have cB := cBounds f l hs
      have hbs := bounds_sz h1
      by_cases h5 : Bk.ok f l
      · rw [Fc.er_of h5] at cB
        have cL := cLeast f l hs
        rw [if_pos h5, if_pos h5, Fc.er_of h5] at cL
        have hlsz : ∀ g ∈ Bk.lows f l, g.sz ≤ 6 := lows_sz h1.2.1
        have hfle : f.le 4 := ⟨h1.2.2.1, h1.2.2.2.2⟩
        have cA1 := cAt f (Bk.lows f l) hs.1 (by have := hs.2.1; unfold Bk.lows; simp; omega) (le_mono hfle (by decide)) (fun g hg => by have := hlsz g hg; omega)
        have hv1 : (f.at' (Bk.lows f l)).sz ≤ 112 := at_sz (n := 8) (le_mono hfle (show 4 ≤ 6 by decide)) hlsz h1.2.2.2.1
        have cI1 := wInside (Bk.lows f l) l (by have := hs.2.1; unfold Bk.lows; simp; omega) (by have := hs.2.1; omega) (fun g hg => by have := hlsz g hg; omega) (fun s hs' => by have := h1.2.1 s hs'; omega)
        have m1 : (Fc.of (-1)).sz ≤ 4 := sz_lit _ (by decide) (by decide)
        have cT := cTimesA f (Fc.of (-1)) (by have := hs.1; omega) (le_mono hfle (by decide)) (by omega)
        obtain ⟨k, cs, ps, rfl, rfl, hl, hps⟩ := Bk.ok_ex h5
        have hlen : (Af.of k cs).l.length = cs.length := by simp [Af.of]
        have hlen2 : (ps.map Sc.of).length = ps.length := by simp
        have hlN : ps.length ≤ 8 := by have := h1.1; rwa [hlen2] at this
        rw [bounds_of k cs ps hl hps] at cB hbs
        rw [Fc.er_of ⟨(Af.of_ok k cs _).2 hlen.symm, Fc.of_ok _⟩, times_of] at cT
        have hother : small (Af.of (k * -1) (cs.map (· * -1))) (ps.map Sc.of) := by
          refine ⟨by simp [Af.of]; omega, by omega, ⟨?_, fun g hg => ?_⟩, hs.2.2.2⟩
          · have := Fc.sz_mul_of k (-1)
            have := hfle.1
            show (Fc.of (k * -1)).sz ≤ 4096
            have e : (Af.of k cs).c = Fc.of k := rfl
            rw [e] at this
            omega
          · obtain ⟨q, hq, rfl⟩ := List.mem_map.1 hg
            obtain ⟨c, hc, rfl⟩ := List.mem_map.1 hq
            have := Fc.sz_mul_of c (-1)
            have := hfle.2 (Fc.of c) (List.mem_map.2 ⟨c, hc, rfl⟩)
            omega
        have hok2 : Bk.ok (Af.of (k * -1) (cs.map (· * -1))) (ps.map Sc.of) := (Bk.ok_of _ _ ps).2 ⟨by simpa using hl, hps⟩
        have cL2 := cLeast _ _ hother
        have hl2 : (cs.map (· * (-1 : Rat))).length = ps.length := by simpa using hl
        rw [if_pos hok2, if_pos hok2, Fc.er_of hok2, least_of _ _ ps hl2, range_times k (-1) cs ps hl, if_neg (by decide)] at cL2
        rw [lows_of] at cL2
        rw [lows_of] at hlsz
        rw [least_of k cs ps hl] at cL hv1
        rw [lows_of] at cL cA1 cI1
        rw [Af.at_of k cs _ (lowsQ_len hl), decide_eq_true ⟨(Af.of_ok k cs _).2 (by rw [List.length_map, ← lowsQ_len hl]), oks_map _⟩] at cA1
        rw [show sumQ k cs (lowsQ cs ps) = (rangeQ k cs ps).1 from rfl] at cA1
        rw [insB_of (inP_lo cs ps hl hps)] at cI1
        have hysz : ∀ g ∈ (lowsQ (cs.map (· * (-1 : Rat))) ps).map Fc.of, g.sz ≤ 6 := by
          have := lows_sz (f := Af.of (k * -1) (cs.map (· * -1))) h1.2.1
          rwa [lows_of] at this
        have hylen : cs.length = (lowsQ (cs.map (· * (-1 : Rat))) ps).length := by rw [← lowsQ_len hl2]; simp
        have cA2 := cAt (Af.of k cs) ((lowsQ (cs.map (· * (-1 : Rat))) ps).map Fc.of) hs.1 (by rw [List.length_map, ← hylen]; omega) (le_mono hfle (by decide)) (fun g hg => by have := hysz g hg; omega)
        rw [Af.at_of k cs _ hylen, decide_eq_true ⟨(Af.of_ok k cs _).2 (by rw [List.length_map, ← hylen]), oks_map _⟩, top_value k cs ps hl] at cA2
        have cI2 := wInside ((lowsQ (cs.map (· * (-1 : Rat))) ps).map Fc.of) (ps.map Sc.of) (by rw [List.length_map, ← hylen]; omega) (by omega) (fun g hg => by have := hysz g hg; omega) (fun s hs' => by have := h1.2.1 s hs'; omega)
        rw [insB_of (inP_lo _ ps hl2 hps)] at cI2
        have hR1 : (Fc.of (rangeQ k cs ps).1).sz ≤ 112 := hbs.1
        have hR2 : (Fc.of (rangeQ k cs ps).2).sz ≤ 112 := hbs.2
        have hR3 : (Fc.of ((rangeQ k cs ps).2 * -1)).sz ≤ 116 := by have := Fc.sz_mul_of (rangeQ k cs ps).2 (-1); omega
        have cN := cNegF (Fc.of ((rangeQ k cs ps).2 * -1)) (by omega)
        rw [Fc.neg_of, show -((rangeQ k cs ps).2 * -1) = (rangeQ k cs ps).2 by grind] at cN
        have s1 := sameF_true (Fc.of (rangeQ k cs ps).1) (by omega)
        have s2 := sameF_true (Fc.of (rangeQ k cs ps).2) (by omega)
        have cI3 := wInside pt (ps.map Sc.of) hp.1 (by omega) hp.2 (fun s hs' => by have := h1.2.1 s hs'; omega)
        refine CallsTo.run [] Go.Proofs.Try.func5 rfl rfl ?_; conv => simp (maxSteps := 2000000) (disch := omega) only [go_sem, Nat.reduceAdd, Nat.reduceSub, Nat.reduceMul, Int.reduceToNat, Nat.reduceEqDiff, Nat.reduceBEq, Nat.reduceBneDiff, Go.Proofs.Try.f5, List.replicate]
        refine callk wSane ?_
        conv => simp (maxSteps := 2000000) (disch := omega) only [go_sem, Nat.reduceAdd, Nat.reduceSub, Nat.reduceMul, Int.reduceToNat, Nat.reduceEqDiff, Nat.reduceBEq, Nat.reduceBneDiff]
        refine callk c1 ?_
        conv => simp (maxSteps := 2000000) (disch := omega) only [go_sem, Nat.reduceAdd, Nat.reduceSub, Nat.reduceMul, Int.reduceToNat, Nat.reduceEqDiff, Nat.reduceBEq, Nat.reduceBneDiff]
        refine callk c3 ?_
        conv => simp (maxSteps := 2000000) (disch := omega) only [go_sem, Nat.reduceAdd, Nat.reduceSub, Nat.reduceMul, Int.reduceToNat, Nat.reduceEqDiff, Nat.reduceBEq, Nat.reduceBneDiff]
        refine callk cB ?_
        conv => simp (maxSteps := 2000000) (disch := omega) only [go_sem, Nat.reduceAdd, Nat.reduceSub, Nat.reduceMul, Int.reduceToNat, Nat.reduceEqDiff, Nat.reduceBEq, Nat.reduceBneDiff]
        refine callk cL ?_
        conv => simp (maxSteps := 2000000) (disch := omega) only [go_sem, Nat.reduceAdd, Nat.reduceSub, Nat.reduceMul, Int.reduceToNat, Nat.reduceEqDiff, Nat.reduceBEq, Nat.reduceBneDiff]
        refine callk cA1 ?_
        conv => simp (maxSteps := 2000000) (disch := omega) only [go_sem, Nat.reduceAdd, Nat.reduceSub, Nat.reduceMul, Int.reduceToNat, Nat.reduceEqDiff, Nat.reduceBEq, Nat.reduceBneDiff]
        refine callk intM1 ?_
        conv => simp (maxSteps := 2000000) (disch := omega) only [go_sem, Nat.reduceAdd, Nat.reduceSub, Nat.reduceMul, Int.reduceToNat, Nat.reduceEqDiff, Nat.reduceBEq, Nat.reduceBneDiff]
        refine callk cT ?_
        conv => simp (maxSteps := 2000000) (disch := omega) only [go_sem, Nat.reduceAdd, Nat.reduceSub, Nat.reduceMul, Int.reduceToNat, Nat.reduceEqDiff, Nat.reduceBEq, Nat.reduceBneDiff]
        refine indk (by kernel_rfl) ?_
        conv => simp (maxSteps := 2000000) (disch := omega) only [go_sem, Nat.reduceAdd, Nat.reduceSub, Nat.reduceMul, Int.reduceToNat, Nat.reduceEqDiff, Nat.reduceBEq, Nat.reduceBneDiff]
        refine callk cL2 ?_
        conv => simp (maxSteps := 2000000) (disch := omega) only [go_sem, Nat.reduceAdd, Nat.reduceSub, Nat.reduceMul, Int.reduceToNat, Nat.reduceEqDiff, Nat.reduceBEq, Nat.reduceBneDiff]
        refine callk cA2 ?_
        conv => simp (maxSteps := 2000000) (disch := omega) only [go_sem, Nat.reduceAdd, Nat.reduceSub, Nat.reduceMul, Int.reduceToNat, Nat.reduceEqDiff, Nat.reduceBEq, Nat.reduceBneDiff]
        refine callk cI1 ?_
        conv => simp (maxSteps := 2000000) (disch := omega) only [go_sem, Nat.reduceAdd, Nat.reduceSub, Nat.reduceMul, Int.reduceToNat, Nat.reduceEqDiff, Nat.reduceBEq, Nat.reduceBneDiff]
        refine callk cI2 ?_
        conv => simp (maxSteps := 2000000) (disch := omega) only [go_sem, Nat.reduceAdd, Nat.reduceSub, Nat.reduceMul, Int.reduceToNat, Nat.reduceEqDiff, Nat.reduceBEq, Nat.reduceBneDiff]
        refine callk s1 ?_
        conv => simp (maxSteps := 2000000) (disch := omega) only [go_sem, Nat.reduceAdd, Nat.reduceSub, Nat.reduceMul, Int.reduceToNat, Nat.reduceEqDiff, Nat.reduceBEq, Nat.reduceBneDiff]
        refine callk s1 ?_
        conv => simp (maxSteps := 2000000) (disch := omega) only [go_sem, Nat.reduceAdd, Nat.reduceSub, Nat.reduceMul, Int.reduceToNat, Nat.reduceEqDiff, Nat.reduceBEq, Nat.reduceBneDiff]
        refine callk s2 ?_
        conv => simp (maxSteps := 2000000) (disch := omega) only [go_sem, Nat.reduceAdd, Nat.reduceSub, Nat.reduceMul, Int.reduceToNat, Nat.reduceEqDiff, Nat.reduceBEq, Nat.reduceBneDiff]
        refine callk cN ?_
        conv => simp (maxSteps := 2000000) (disch := omega) only [go_sem, Nat.reduceAdd, Nat.reduceSub, Nat.reduceMul, Int.reduceToNat, Nat.reduceEqDiff, Nat.reduceBEq, Nat.reduceBneDiff]
        refine callk s2 ?_
        conv => simp (maxSteps := 2000000) (disch := omega) only [go_sem, Nat.reduceAdd, Nat.reduceSub, Nat.reduceMul, Int.reduceToNat, Nat.reduceEqDiff, Nat.reduceBEq, Nat.reduceBneDiff]
        refine indk (by kernel_rfl) ?_
        conv => simp (maxSteps := 2000000) (disch := omega) only [go_sem, Nat.reduceAdd, Nat.reduceSub, Nat.reduceMul, Int.reduceToNat, Nat.reduceEqDiff, Nat.reduceBEq, Nat.reduceBneDiff]
        cases hin : insB pt (ps.map Sc.of) with
        | false =>
          rw [hin] at cI3
          refine callk cI3 ?_
          conv => simp (maxSteps := 2000000) (disch := omega) only [go_sem, Nat.reduceAdd, Nat.reduceSub, Nat.reduceMul, Int.reduceToNat, Nat.reduceEqDiff, Nat.reduceBEq, Nat.reduceBneDiff]
          exact ⟨_, rfl, .one (.refl _)⟩
        | true =>
          rw [hin] at cI3
          obtain ⟨vs, rfl, hvs⟩ := insB_ex hin
          have hvl := inP_len hvs
          have cA3 := cAt (Af.of k cs) (vs.map Fc.of) hs.1 (by rw [List.length_map]; omega) (le_mono hfle (by decide)) (fun g hg => by have := h3.2 g hg; omega)
          have hval := at_sz (a := Af.of k cs) (n := 8) hfle h3.2 h1.2.2.2.1
          rw [Af.at_of k cs vs (by omega), decide_eq_true ⟨(Af.of_ok k cs _).2 (by rw [List.length_map]; omega), oks_map _⟩] at cA3
          rw [Af.at_of k cs vs (by omega)] at hval
          have cH := cSpanHas (Sc.of (rangeQ k cs ps)) (Fc.of (sumQ k cs vs)) (by show max _ _ ≤ _; have := hbs; omega) (by omega)
          rw [decide_eq_true ((has_of _ _).2 (range_has k cs vs ps hl hvs))] at cH
          refine callk cI3 ?_
          conv => simp (maxSteps := 2000000) (disch := omega) only [go_sem, Nat.reduceAdd, Nat.reduceSub, Nat.reduceMul, Int.reduceToNat, Nat.reduceEqDiff, Nat.reduceBEq, Nat.reduceBneDiff]
          refine callk cA3 ?_
          conv => simp (maxSteps := 2000000) (disch := omega) only [go_sem, Nat.reduceAdd, Nat.reduceSub, Nat.reduceMul, Int.reduceToNat, Nat.reduceEqDiff, Nat.reduceBEq, Nat.reduceBneDiff]
          refine callk cH ?_
          conv => simp (maxSteps := 2000000) (disch := omega) only [go_sem, Nat.reduceAdd, Nat.reduceSub, Nat.reduceMul, Int.reduceToNat, Nat.reduceEqDiff, Nat.reduceBEq, Nat.reduceBneDiff]
          exact ⟨_, rfl, .one (.refl _)⟩
      · rw [Fc.er_bad h5, show Bk.bounds f l = Sc.zero from if_neg h5] at cB
        refine CallsTo.run [] Go.Proofs.Try.func5 rfl rfl ?_; conv => simp (maxSteps := 2000000) (disch := omega) only [go_sem, Nat.reduceAdd, Nat.reduceSub, Nat.reduceMul, Int.reduceToNat, Nat.reduceEqDiff, Nat.reduceBEq, Nat.reduceBneDiff, Go.Proofs.Try.f5, List.replicate]
        refine callk wSane ?_
        conv => simp (maxSteps := 2000000) (disch := omega) only [go_sem, Nat.reduceAdd, Nat.reduceSub, Nat.reduceMul, Int.reduceToNat, Nat.reduceEqDiff, Nat.reduceBEq, Nat.reduceBneDiff]
        refine callk c1 ?_
        conv => simp (maxSteps := 2000000) (disch := omega) only [go_sem, Nat.reduceAdd, Nat.reduceSub, Nat.reduceMul, Int.reduceToNat, Nat.reduceEqDiff, Nat.reduceBEq, Nat.reduceBneDiff]
        refine callk c3 ?_
        conv => simp (maxSteps := 2000000) (disch := omega) only [go_sem, Nat.reduceAdd, Nat.reduceSub, Nat.reduceMul, Int.reduceToNat, Nat.reduceEqDiff, Nat.reduceBEq, Nat.reduceBneDiff]
        refine callk cB ?_
        conv => simp (maxSteps := 2000000) (disch := omega) only [go_sem, Nat.reduceAdd, Nat.reduceSub, Nat.reduceMul, Int.reduceToNat, Nat.reduceEqDiff, Nat.reduceBEq, Nat.reduceBneDiff]
        refine condd (fun _ => ?_) (fun h => absurd (by decide) h)
        conv => simp (maxSteps := 2000000) (disch := omega) only [go_sem, Nat.reduceAdd, Nat.reduceSub, Nat.reduceMul, Int.reduceToNat, Nat.reduceEqDiff, Nat.reduceBEq, Nat.reduceBneDiff]
        refine callk sameZ ?_
        conv => simp (maxSteps := 2000000) (disch := omega) only [go_sem, Nat.reduceAdd, Nat.reduceSub, Nat.reduceMul, Int.reduceToNat, Nat.reduceEqDiff, Nat.reduceBEq, Nat.reduceBneDiff]
        exact ⟨_, rfl, .one (.refl _)⟩
    · rw [decide_eq_false h3] at c3
      refine CallsTo.run [] Go.Proofs.Try.func5 rfl rfl ?_; conv => simp (maxSteps := 2000000) (disch := omega) only [go_sem, Nat.reduceAdd, Nat.reduceSub, Nat.reduceMul, Int.reduceToNat, Nat.reduceEqDiff, Nat.reduceBEq, Nat.reduceBneDiff, Go.Proofs.Try.f5, List.replicate]
      refine callk wSane ?_
      conv => simp (maxSteps := 2000000) (disch := omega) only [go_sem, Nat.reduceAdd, Nat.reduceSub, Nat.reduceMul, Int.reduceToNat, Nat.reduceEqDiff, Nat.reduceBEq, Nat.reduceBneDiff]
      refine callk c1 ?_
      conv => simp (maxSteps := 2000000) (disch := omega) only [go_sem, Nat.reduceAdd, Nat.reduceSub, Nat.reduceMul, Int.reduceToNat, Nat.reduceEqDiff, Nat.reduceBEq, Nat.reduceBneDiff]
      refine callk c3 ?_
      conv => simp (maxSteps := 2000000) (disch := omega) only [go_sem, Nat.reduceAdd, Nat.reduceSub, Nat.reduceMul, Int.reduceToNat, Nat.reduceEqDiff, Nat.reduceBEq, Nat.reduceBneDiff]
      exact ⟨_, rfl, .one (.refl _)⟩
  · rw [decide_eq_false h1] at c1
    refine CallsTo.run [] Go.Proofs.Try.func5 rfl rfl ?_; conv => simp (maxSteps := 2000000) (disch := omega) only [go_sem, Nat.reduceAdd, Nat.reduceSub, Nat.reduceMul, Int.reduceToNat, Nat.reduceEqDiff, Nat.reduceBEq, Nat.reduceBneDiff, Go.Proofs.Try.f5, List.replicate]
    refine callk wSane ?_
    conv => simp (maxSteps := 2000000) (disch := omega) only [go_sem, Nat.reduceAdd, Nat.reduceSub, Nat.reduceMul, Int.reduceToNat, Nat.reduceEqDiff, Nat.reduceBEq, Nat.reduceBneDiff]
    refine callk c1 ?_
    conv => simp (maxSteps := 2000000) (disch := omega) only [go_sem, Nat.reduceAdd, Nat.reduceSub, Nat.reduceMul, Int.reduceToNat, Nat.reduceEqDiff, Nat.reduceBEq, Nat.reduceBneDiff]
    exact ⟨_, rfl, .one (.refl _)⟩
end Go.Slot.T

/-
  BackBounds: for all arguments of bulk at most 1048576 the statement returns true, and the arguments read as before.
-/
namespace Go.Proofs.Ytieohkidmjglgaa
set_option maxRecDepth 100000
open Go Go.Slot Go.ChangeShapes Go.WideShapes Go.RowKit
theorem backBounds_params : Try.f5.params = #[29, 30, 27] := by kernel_rfl
theorem backBounds_contract (H : Type) (enc : TypeId × Value → H) (W : World) (base : Nat) (args : Array Value) (ds gs : List (DataW H)) (before : List MemPlace)
    (hval : ∀ (j : Nat) t v, Try.f5.params[j]? = some t → args[j]? = some v → Value.okWide Try.prog W .any base t v)
    (hW : DataW.Whole enc Try.prog Try.f5.params.toList Rows.backBoundsSpec.vars false W args.toList ds gs before) (hk : Rows.uptoSmall H (ds ++ gs) = true) :
    Calls Try.prog 5 args W fun e W' => ∃ v, e = .returned v ∧ Rows.backBoundsSpec.post enc Try.prog Try.f5 false true false false W args v W' := by
  have hW' := hW
  obtain ⟨p, q, hA0, hV, rfl, hfz, hnd⟩ := hW
  have hA : DataW.TrodAll enc Try.prog W 0 (fun _ => true) true Try.f5.params.toList args.toList ds p := hA0
  rw [backBounds_params] at hA hval
  obtain ⟨v0, v1, v2, d0, d1, d2, p0, p1, p2, rfl, rfl, rfl, h0, h1, h2⟩ := trodAll_three hA
  have hb := bulk_bound hk
  obtain ⟨x0, r0, l0, s0⟩ := openA (hval 0 _ v0 rfl rfl) h0 (hb d0 (by simp))
  obtain ⟨x1, r1, l1, s1⟩ := openSs (hval 1 _ v1 rfl rfl) h1 (hb d1 (by simp))
  obtain ⟨x2, r2, l2, s2⟩ := openFs (hval 2 _ v2 rfl rfl) h2 (hb d2 (by simp))
  refine (ended (T.wBounds x0 x1 x2 ⟨l0, l1, s0, s1⟩ ⟨l2, s2⟩) (vs := [v0, v1, v2]) ⟨r0, r1, r2, trivial⟩).mono fun e W' ⟨he, hbel⟩ => ?_
  refine ⟨_, he, law_post (P := Try.prog) (f := Try.f5) (s := Rows.backBoundsSpec) (tb := 4) laid0 (by rw [backBounds_params]; decide +kernel) rfl (by kernel_rfl) Try.underlying4 (fun ds gs hds hgs => ?_) hW' hbel⟩
  subst hgs
  rw [backBounds_params] at hds
  obtain ⟨v0, v1, v2, d0, d1, d2, p0, p1, p2, _, rfl, _, _, _, _⟩ := trodAll_three hds
  exact ⟨rfl, rfl, rfl⟩
theorem backBounds_lifted (os : Os) (started : os.Started) (H : Type) (enc : TypeId × Value → H) (F : Stop.Interp) :
    ReturnsInHanded {} Try.checked os 5 .any ((Rows.OpenSpec.upto Rows.backBoundsSpec).pre6 enc Try.prog Try.f5 Rows.backBoundsUptoRow.domain false) (((Rows.OpenSpec.upto Rows.backBoundsSpec).at F).post enc Try.prog Try.f5 false true false false) := by
  refine returnsInHanded_of_cond (C := Try.checked) (s := Rows.OpenSpec.upto Rows.backBoundsSpec) (k := Rows.uptoSmall) rfl ownKnob0 started (by kernel_rfl) Try.func5
    (OpenSpec.witness (enc := enc) (C := Try.checked) (s := Rows.OpenSpec.upto Rows.backBoundsSpec) (k := Rows.uptoSmall) rfl false ⟨#[], #[zA, .slice none 0 0, .slice none 0 0], []⟩ 8 (by kernel_rfl) (by kernel_rfl) (by kernel_rfl)
      (x := ([dA, .nil, .nil], [], [])) (by kernel_rfl) rfl (by kernel_rfl)) ?_
  intro W base args ds gs before hval hW _ hk _
  exact backBounds_contract H enc W base args ds gs before hval hW hk
theorem backBounds_over : Rows.backBoundsUptoRow.holds Try.pinned (Rows.OpenSpec.upto Rows.backBoundsSpec) :=
  OpenClaim.holds_of_cond 5 Try.f5 rfl rfl rfl rfl rfl rfl rfl ⟨rfl, rfl, rfl, rfl, rfl⟩ rfl rfl rfl rfl rfl (by kernel_rfl) Try.func5 (by kernel_rfl)
    (of_decide_eq_true (by kernel_rfl)) (by unfold Func.isWrapper; first | (rw [if_pos (by decide +kernel)]; kernel_rfl) | (rw [if_neg (by decide +kernel)]; exact ⟨rfl, rfl⟩))
    (fun os started H enc _ F => backBounds_lifted os started H enc F)
theorem backBounds_holds : Rows.BackBoundsUptoSaid := backBounds_over
end Go.Proofs.Ytieohkidmjglgaa
