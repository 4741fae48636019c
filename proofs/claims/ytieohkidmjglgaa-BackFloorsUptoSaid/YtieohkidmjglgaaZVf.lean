/-
  BackFloors: for all arguments of bulk at most 1048576 the statement returns true, and the arguments read as before.
-/
import Derived.Test.YtieohkidmjglgaaZ8
/-
  BackFloors: for all arguments of bulk at most 1048576 the statement returns true, and the arguments read as before.
-/
namespace Go.Proofs.Ytieohkidmjglgaa
set_option maxRecDepth 100000
open Go Go.Slot Go.ChangeShapes Go.WideShapes Go.RowKit
theorem backFloors_params : Try.f3.params = #[29, 30, 26, 27] := by kernel_rfl
theorem backFloors_contract (H : Type) (enc : TypeId × Value → H) (W : World) (base : Nat) (args : Array Value) (ds gs : List (DataW H)) (before : List MemPlace)
    (hval : ∀ (j : Nat) t v, Try.f3.params[j]? = some t → args[j]? = some v → Value.okWide Try.prog W .any base t v)
    (hW : DataW.Whole enc Try.prog Try.f3.params.toList Rows.backFloorsSpec.vars false W args.toList ds gs before) (hk : Rows.uptoSmall H (ds ++ gs) = true) :
    Calls Try.prog 3 args W fun e W' => ∃ v, e = .returned v ∧ Rows.backFloorsSpec.post enc Try.prog Try.f3 false true false false W args v W' := by
  have hW' := hW
  obtain ⟨p, q, hA0, hV, rfl, hfz, hnd⟩ := hW
  have hA : DataW.TrodAll enc Try.prog W 0 (fun _ => true) true Try.f3.params.toList args.toList ds p := hA0
  rw [backFloors_params] at hA hval
  obtain ⟨v0, v1, v2, v3, d0, d1, d2, d3, p0, p1, p2, p3, rfl, rfl, rfl, h0, h1, h2, h3⟩ := trodAll_four hA
  have hb := bulk_bound hk
  obtain ⟨x0, r0, l0, s0⟩ := openA (hval 0 _ v0 rfl rfl) h0 (hb d0 (by simp))
  obtain ⟨x1, r1, l1, s1⟩ := openSs (hval 1 _ v1 rfl rfl) h1 (hb d1 (by simp))
  obtain ⟨x2, r2, s2⟩ := openF (hval 2 _ v2 rfl rfl) h2 (hb d2 (by simp))
  obtain ⟨x3, r3, l3, s3⟩ := openFs (hval 3 _ v3 rfl rfl) h3 (hb d3 (by simp))
  refine (ended (T.wFloors x0 x1 x2 x3 ⟨l0, l1, s0, s1⟩ s2 ⟨l3, s3⟩) (vs := [v0, v1, v2, v3]) ⟨r0, r1, r2, r3, trivial⟩).mono fun e W' ⟨he, hbel⟩ => ?_
  refine ⟨_, he, law_post (P := Try.prog) (f := Try.f3) (s := Rows.backFloorsSpec) (tb := 4) laid0 (by rw [backFloors_params]; decide +kernel) rfl (by kernel_rfl) Try.underlying4 (fun ds gs hds hgs => ?_) hW' hbel⟩
  subst hgs
  rw [backFloors_params] at hds
  obtain ⟨v0, v1, v2, v3, d0, d1, d2, d3, p0, p1, p2, p3, _, rfl, _, _, _, _, _⟩ := trodAll_four hds
  exact ⟨rfl, rfl, rfl⟩
theorem backFloors_lifted (os : Os) (started : os.Started) (H : Type) (enc : TypeId × Value → H) (F : Stop.Interp) :
    ReturnsInHanded {} Try.checked os 3 .any ((Rows.OpenSpec.upto Rows.backFloorsSpec).pre6 enc Try.prog Try.f3 Rows.backFloorsUptoRow.domain false) (((Rows.OpenSpec.upto Rows.backFloorsSpec).at F).post enc Try.prog Try.f3 false true false false) := by
  refine returnsInHanded_of_cond (C := Try.checked) (s := Rows.OpenSpec.upto Rows.backFloorsSpec) (k := Rows.uptoSmall) rfl ownKnob0 started (by kernel_rfl) Try.func3
    (OpenSpec.witness (enc := enc) (C := Try.checked) (s := Rows.OpenSpec.upto Rows.backFloorsSpec) (k := Rows.uptoSmall) rfl false ⟨#[], #[zA, .slice none 0 0, zF, .slice none 0 0], []⟩ 8 (by kernel_rfl) (by kernel_rfl) (by kernel_rfl)
      (x := ([dA, .nil, dF, .nil], [], [])) (by kernel_rfl) rfl (by kernel_rfl)) ?_
  intro W base args ds gs before hval hW _ hk _
  exact backFloors_contract H enc W base args ds gs before hval hW hk
theorem backFloors_over : Rows.backFloorsUptoRow.holds Try.pinned (Rows.OpenSpec.upto Rows.backFloorsSpec) :=
  OpenClaim.holds_of_cond 3 Try.f3 rfl rfl rfl rfl rfl rfl rfl ⟨rfl, rfl, rfl, rfl, rfl⟩ rfl rfl rfl rfl rfl (by kernel_rfl) Try.func3 (by kernel_rfl)
    (of_decide_eq_true (by kernel_rfl)) (by unfold Func.isWrapper; first | (rw [if_pos (by decide +kernel)]; kernel_rfl) | (rw [if_neg (by decide +kernel)]; exact ⟨rfl, rfl⟩))
    (fun os started H enc _ F => backFloors_lifted os started H enc F)
theorem backFloors_holds : Rows.BackFloorsUptoSaid := backFloors_over
end Go.Proofs.Ytieohkidmjglgaa
