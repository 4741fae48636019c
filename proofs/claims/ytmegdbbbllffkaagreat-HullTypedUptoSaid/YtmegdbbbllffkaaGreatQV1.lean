/-
  HullTyped: for all arguments of bulk at most 1048576 the statement returns true, and the arguments read as before.
-/
import Derived.Test.YtmegdbbbllffkaaGreatQ40
import Derived.Test.YtmegdbbbllffkaaGreatQS4
/-
  HullTyped: for all arguments of bulk at most 1048576 the statement returns true, and the arguments read as before.
-/
namespace Go.Proofs.YtmegdbbbllffkaaGreat
set_option maxRecDepth 100000
open Go Go.Slot Go.Hp Go.Hp.T Go.ChangeShapes Go.WideShapes Go.RowKit
theorem hullTyped_params : Tryz.f5.params = #[24, 25, 26, 47] := by kernel_rfl
theorem hullTyped_contract (H : Type) (enc : TypeId × Value → H) (W : World) (base : Nat) (args : Array Value) (ds gs : List (DataW H)) (before : List MemPlace)
    (hval : ∀ (j : Nat) t v, Tryz.f5.params[j]? = some t → args[j]? = some v → Value.okWide Tryz.prog W .any base t v)
    (hW : DataW.Whole enc Tryz.prog Tryz.f5.params.toList Rows.hullTypedSpec.vars false W args.toList ds gs before) (hk : Rows.uptoSmall H (ds ++ gs) = true) :
    Calls Tryz.prog 5 args W fun e W' => ∃ v, e = .returned v ∧ Rows.hullTypedSpec.post enc Tryz.prog Tryz.f5 false true false false W args v W' := by
  have hW' := hW
  obtain ⟨p, q, hA0, hV, rfl, hfz, hnd⟩ := hW
  have hA : DataW.TrodAll enc Tryz.prog W 0 (fun _ => true) true Tryz.f5.params.toList args.toList ds p := hA0
  rw [hullTyped_params] at hA hval
  obtain ⟨v0, v1, v2, v3, d0, d1, d2, d3, p0, p1, p2, p3, rfl, rfl, rfl, h0, h1, h2, h3⟩ := trodAll_four hA
  have hb := w8i hk
  obtain ⟨x0, r0, s0⟩ := v80 (hval 0 _ v0 rfl rfl) h0 (hb d0 (by simp))
  obtain ⟨x1, r1, s1⟩ := y93 (hval 1 _ v1 rfl rfl) h1 (hb d1 (by simp))
  obtain ⟨x2, r2, s2⟩ := vf8 (hval 2 _ v2 rfl rfl) h2 (hb d2 (by simp))
  obtain ⟨x3, r3, s3⟩ := wag (hval 3 _ v3 rfl rfl) h3 (hb d3 (by simp))
  refine (ended (wTyped17 x0 x1 x2 x3 ⟨s0, s1.1, s2.1, s1.2, s2.2⟩ s3) (vs := [v0, v1, v2, v3]) ⟨r0, r1, r2, r3, trivial⟩).mono fun e W' ⟨he, hbel⟩ => ?_
  refine ⟨_, he, vmu (P := Tryz.prog) (f := Tryz.f5) (s := Rows.hullTypedSpec) (tb := 4) wi8 (by rw [hullTyped_params]; decide +kernel) rfl (by kernel_rfl) Tryz.underlying4 (fun ds gs hds hgs => ?_) hW' hbel⟩
  subst hgs
  rw [hullTyped_params] at hds
  obtain ⟨v0, v1, v2, v3, d0, d1, d2, d3, p0, p1, p2, p3, _, rfl, _, _, _, _, _⟩ := trodAll_four hds
  exact ⟨rfl, rfl, rfl⟩
theorem hullTyped_lifted (os : Os) (started : os.Started) (H : Type) (enc : TypeId × Value → H) (F : Stop.Interp) :
    ReturnsInHanded {} Tryz.checked os 5 .any ((Rows.OpenSpec.upto Rows.hullTypedSpec).pre6 enc Tryz.prog Tryz.f5 Rows.hullTypedUptoRow.domain false) (((Rows.OpenSpec.upto Rows.hullTypedSpec).at F).post enc Tryz.prog Tryz.f5 false true false false) := by
  refine returnsInHanded_of_cond (C := Tryz.checked) (s := Rows.OpenSpec.upto Rows.hullTypedSpec) (k := Rows.uptoSmall) rfl y56 started (by kernel_rfl) Tryz.func5
    (OpenSpec.witness (enc := enc) (C := Tryz.checked) (s := Rows.OpenSpec.upto Rows.hullTypedSpec) (k := Rows.uptoSmall) rfl false ⟨#[], #[zE, .slice none 0 0, .slice none 0 0, .slice none 0 0], []⟩ 8 (by kernel_rfl) (by kernel_rfl) (by kernel_rfl)
      (x := ([dE, .nil, .nil, .nil], [], [])) (by kernel_rfl) rfl (by kernel_rfl)) ?_
  intro W base args ds gs before hval hW _ hk _
  exact hullTyped_contract H enc W base args ds gs before hval hW hk
theorem hullTyped_over : Rows.hullTypedUptoRow.holds Tryz.pinned (Rows.OpenSpec.upto Rows.hullTypedSpec) :=
  OpenClaim.holds_of_cond 5 Tryz.f5 rfl rfl rfl rfl rfl rfl rfl ⟨rfl, rfl, rfl, rfl, rfl⟩ rfl rfl rfl rfl rfl (by kernel_rfl) Tryz.func5 (by kernel_rfl)
    (of_decide_eq_true (by kernel_rfl)) (by unfold Func.isWrapper; first | (rw [if_pos (by decide +kernel)]; kernel_rfl) | (rw [if_neg (by decide +kernel)]; exact ⟨rfl, rfl⟩))
    (fun os started H enc _ F => hullTyped_lifted os started H enc F)
theorem hullTyped_holds : Rows.HullTypedUptoSaid := hullTyped_over
end Go.Proofs.YtmegdbbbllffkaaGreat
