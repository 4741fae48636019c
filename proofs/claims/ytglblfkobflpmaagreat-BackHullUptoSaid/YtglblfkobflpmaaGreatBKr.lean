/-
  BackHull: for all arguments of bulk at most 1048576 the statement returns true, and the arguments read as before.
-/
import Derived.Test.YtglblfkobflpmaaGreatB37
/-
  BackHull: for all arguments of bulk at most 1048576 the statement returns true, and the arguments read as before.
-/
namespace Go.Proofs.YtglblfkobflpmaaGreat
set_option maxRecDepth 100000
open Go Go.Slot Go.Hp Go.Hp.T Go.ChangeShapes Go.WideShapes Go.RowKit
theorem backHull_params : Tryz.f3.params = #[24, 25, 26] := by kernel_rfl
theorem backHull_contract (H : Type) (enc : TypeId × Value → H) (W : World) (base : Nat) (args : Array Value) (ds gs : List (DataW H)) (before : List MemPlace)
    (hval : ∀ (j : Nat) t v, Tryz.f3.params[j]? = some t → args[j]? = some v → Value.okWide Tryz.prog W .any base t v)
    (hW : DataW.Whole enc Tryz.prog Tryz.f3.params.toList Rows.backHullSpec.vars false W args.toList ds gs before) (hk : Rows.uptoSmall H (ds ++ gs) = true) :
    Calls Tryz.prog 3 args W fun e W' => ∃ v, e = .returned v ∧ Rows.backHullSpec.post enc Tryz.prog Tryz.f3 false true false false W args v W' := by
  have hW' := hW
  obtain ⟨p, q, hA0, hV, rfl, hfz, hnd⟩ := hW
  have hA : DataW.TrodAll enc Tryz.prog W 0 (fun _ => true) true Tryz.f3.params.toList args.toList ds p := hA0
  rw [backHull_params] at hA hval
  obtain ⟨v0, v1, v2, d0, d1, d2, p0, p1, p2, rfl, rfl, rfl, h0, h1, h2⟩ := trodAll_three hA
  have hb := vq1 hk
  obtain ⟨x0, r0, s0⟩ := xky (hval 0 _ v0 rfl rfl) h0 (hb d0 (by simp))
  obtain ⟨x1, r1, s1⟩ := yk9 (hval 1 _ v1 rfl rfl) h1 (hb d1 (by simp))
  obtain ⟨x2, r2, s2⟩ := vee (hval 2 _ v2 rfl rfl) h2 (hb d2 (by simp))
  refine (ended (zep x0 x1 x2 s0 s1.1 s1.2 s2.1 s2.2) (vs := [v0, v1, v2]) ⟨r0, r1, r2, trivial⟩).mono fun e W' ⟨he, hbel⟩ => ?_
  refine ⟨_, he, yfo (P := Tryz.prog) (f := Tryz.f3) (s := Rows.backHullSpec) (tb := 4) wwh (by rw [backHull_params]; decide +kernel) rfl (by kernel_rfl) Tryz.underlying4 (fun ds gs hds hgs => ?_) hW' hbel⟩
  subst hgs
  rw [backHull_params] at hds
  obtain ⟨v0, v1, v2, d0, d1, d2, p0, p1, p2, _, rfl, _, _, _, _⟩ := trodAll_three hds
  exact ⟨rfl, rfl, rfl⟩
theorem backHull_lifted (os : Os) (started : os.Started) (H : Type) (enc : TypeId × Value → H) (F : Stop.Interp) :
    ReturnsInHanded {} Tryz.checked os 3 .any ((Rows.OpenSpec.upto Rows.backHullSpec).pre6 enc Tryz.prog Tryz.f3 Rows.backHullUptoRow.domain false) (((Rows.OpenSpec.upto Rows.backHullSpec).at F).post enc Tryz.prog Tryz.f3 false true false false) := by
  refine returnsInHanded_of_cond (C := Tryz.checked) (s := Rows.OpenSpec.upto Rows.backHullSpec) (k := Rows.uptoSmall) rfl x5g started (by kernel_rfl) Tryz.func3
    (OpenSpec.witness (enc := enc) (C := Tryz.checked) (s := Rows.OpenSpec.upto Rows.backHullSpec) (k := Rows.uptoSmall) rfl false ⟨#[], #[zE, .slice none 0 0, .slice none 0 0], []⟩ 8 (by kernel_rfl) (by kernel_rfl) (by kernel_rfl)
      (x := ([dE, .nil, .nil], [], [])) (by kernel_rfl) rfl (by kernel_rfl)) ?_
  intro W base args ds gs before hval hW _ hk _
  exact backHull_contract H enc W base args ds gs before hval hW hk
theorem backHull_over : Rows.backHullUptoRow.holds Tryz.pinned (Rows.OpenSpec.upto Rows.backHullSpec) :=
  OpenClaim.holds_of_cond 3 Tryz.f3 rfl rfl rfl rfl rfl rfl rfl ⟨rfl, rfl, rfl, rfl, rfl⟩ rfl rfl rfl rfl rfl (by kernel_rfl) Tryz.func3 (by kernel_rfl)
    (of_decide_eq_true (by kernel_rfl)) (by unfold Func.isWrapper; first | (rw [if_pos (by decide +kernel)]; kernel_rfl) | (rw [if_neg (by decide +kernel)]; exact ⟨rfl, rfl⟩))
    (fun os started H enc _ F => backHull_lifted os started H enc F)
theorem backHull_holds : Rows.BackHullUptoSaid := backHull_over
end Go.Proofs.YtglblfkobflpmaaGreat
