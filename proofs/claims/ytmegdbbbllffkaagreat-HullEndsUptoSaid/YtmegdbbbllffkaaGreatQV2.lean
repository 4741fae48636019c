/-
  HullEnds: for all arguments of bulk at most 1048576 the statement returns true, and the arguments read as before.
-/
import Derived.Test.YtmegdbbbllffkaaGreatQ39
import Derived.Test.YtmegdbbbllffkaaGreatQS5
/-
  HullEnds: for all arguments of bulk at most 1048576 the statement returns true, and the arguments read as before.
-/
namespace Go.Proofs.YtmegdbbbllffkaaGreat
set_option maxRecDepth 100000
open Go Go.Slot Go.Hp Go.Hp.T Go.ChangeShapes Go.WideShapes Go.RowKit
theorem hullEnds_params : Tryz.f8.params = #[24, 25] := by kernel_rfl
theorem hullEnds_contract (H : Type) (enc : TypeId × Value → H) (W : World) (base : Nat) (args : Array Value) (ds gs : List (DataW H)) (before : List MemPlace)
    (hval : ∀ (j : Nat) t v, Tryz.f8.params[j]? = some t → args[j]? = some v → Value.okWide Tryz.prog W .any base t v)
    (hW : DataW.Whole enc Tryz.prog Tryz.f8.params.toList Rows.hullEndsSpec.vars false W args.toList ds gs before) (hk : Rows.uptoSmall H (ds ++ gs) = true) :
    Calls Tryz.prog 8 args W fun e W' => ∃ v, e = .returned v ∧ Rows.hullEndsSpec.post enc Tryz.prog Tryz.f8 false true false false W args v W' := by
  have hW' := hW
  obtain ⟨p, q, hA0, hV, rfl, hfz, hnd⟩ := hW
  have hA : DataW.TrodAll enc Tryz.prog W 0 (fun _ => true) true Tryz.f8.params.toList args.toList ds p := hA0
  rw [hullEnds_params] at hA hval
  obtain ⟨v0, v1, d0, d1, p0, p1, rfl, rfl, rfl, h0, h1⟩ := trodAll_two hA
  have hb := w8i hk
  obtain ⟨x0, r0, s0⟩ := v80 (hval 0 _ v0 rfl rfl) h0 (hb d0 (by simp))
  obtain ⟨x1, r1, s1⟩ := y93 (hval 1 _ v1 rfl rfl) h1 (hb d1 (by simp))
  refine (ended (wEnds17 x0 x1 s0 s1.1 s1.2) (vs := [v0, v1]) ⟨r0, r1, trivial⟩).mono fun e W' ⟨he, hbel⟩ => ?_
  refine ⟨_, he, vmu (P := Tryz.prog) (f := Tryz.f8) (s := Rows.hullEndsSpec) (tb := 4) wi8 (by rw [hullEnds_params]; decide +kernel) rfl (by kernel_rfl) Tryz.underlying4 (fun ds gs hds hgs => ?_) hW' hbel⟩
  subst hgs
  rw [hullEnds_params] at hds
  obtain ⟨v0, v1, d0, d1, p0, p1, _, rfl, _, _, _⟩ := trodAll_two hds
  exact ⟨rfl, rfl, rfl⟩
theorem hullEnds_lifted (os : Os) (started : os.Started) (H : Type) (enc : TypeId × Value → H) (F : Stop.Interp) :
    ReturnsInHanded {} Tryz.checked os 8 .any ((Rows.OpenSpec.upto Rows.hullEndsSpec).pre6 enc Tryz.prog Tryz.f8 Rows.hullEndsUptoRow.domain false) (((Rows.OpenSpec.upto Rows.hullEndsSpec).at F).post enc Tryz.prog Tryz.f8 false true false false) := by
  refine returnsInHanded_of_cond (C := Tryz.checked) (s := Rows.OpenSpec.upto Rows.hullEndsSpec) (k := Rows.uptoSmall) rfl y56 started (by kernel_rfl) Tryz.func8
    (OpenSpec.witness (enc := enc) (C := Tryz.checked) (s := Rows.OpenSpec.upto Rows.hullEndsSpec) (k := Rows.uptoSmall) rfl false ⟨#[], #[zE, .slice none 0 0], []⟩ 8 (by kernel_rfl) (by kernel_rfl) (by kernel_rfl)
      (x := ([dE, .nil], [], [])) (by kernel_rfl) rfl (by kernel_rfl)) ?_
  intro W base args ds gs before hval hW _ hk _
  exact hullEnds_contract H enc W base args ds gs before hval hW hk
theorem hullEnds_over : Rows.hullEndsUptoRow.holds Tryz.pinned (Rows.OpenSpec.upto Rows.hullEndsSpec) :=
  OpenClaim.holds_of_cond 8 Tryz.f8 rfl rfl rfl rfl rfl rfl rfl ⟨rfl, rfl, rfl, rfl, rfl⟩ rfl rfl rfl rfl rfl (by kernel_rfl) Tryz.func8 (by kernel_rfl)
    (of_decide_eq_true (by kernel_rfl)) (by unfold Func.isWrapper; first | (rw [if_pos (by decide +kernel)]; kernel_rfl) | (rw [if_neg (by decide +kernel)]; exact ⟨rfl, rfl⟩))
    (fun os started H enc _ F => hullEnds_lifted os started H enc F)
theorem hullEnds_holds : Rows.HullEndsUptoSaid := hullEnds_over
end Go.Proofs.YtmegdbbbllffkaaGreat
