/-
  RecipeWhole: for all arguments of bulk at most 1048576, where the package variable lexer.signs reads as start-up lays it (tied to the text), the statement returns true, and the arguments read as before.
-/
import Derived.Test.YtkbkjjahlafhoaaGreatDoorQ36
import Derived.Test.YtkbkjjahlafhoaaGreatDoorQ4g
import Derived.Test.YtkbkjjahlafhoaaGreatDoorCards
import Derived.Test.YtkbkjjahlafhoaaGreatDoorTie
import Derived.SevenTiedAt
import Derived.Carry
/-
  RecipeWhole: for all arguments of bulk at most 1048576, where the package variable lexer.signs reads as start-up lays it (tied to the text), the statement returns true, and the arguments read as before.
-/
namespace Go.Proofs.YtkbkjjahlafhoaaGreatDoor
set_option maxRecDepth 100000
open Go Go.Slot Go.Hp Go.Hp.T Go.ChangeShapes Go.WideShapes Go.RowKit
theorem recipeWhole_params : Tryz.f3.params = #[31, 3, 32, 33] := by kernel_rfl
theorem recipeWhole_contract (H : Type) (enc : TypeId × Value → H) (W : World) (base : Nat) (args : Array Value) (ds gs : List (DataW H)) (before : List MemPlace)
    (hval : ∀ (j : Nat) t v, Tryz.f3.params[j]? = some t → args[j]? = some v → Value.okWide Tryz.prog W .any base t v)
    (hW : DataW.Whole enc Tryz.prog Tryz.f3.params.toList Rows.recipeWholeSpec.vars false W args.toList ds gs before) (hk : Rows.uptoSmall H (ds ++ gs) = true) (hl : laidMetH Tryz.prog yfy W) :
    Calls Tryz.prog 3 args W fun e W' => ∃ v, e = .returned v ∧ Rows.recipeWholeSpec.post enc Tryz.prog Tryz.f3 false true false false W args v W' := by
  have hW' := hW
  obtain ⟨p, q, hA0, hV, rfl, hfz, hnd⟩ := hW
  have hA : DataW.TrodAll enc Tryz.prog W 0 (fun _ => true) true Tryz.f3.params.toList args.toList ds p := hA0
  rw [recipeWhole_params] at hA hval
  obtain ⟨v0, v1, v2, v3, d0, d1, d2, d3, p0, p1, p2, p3, rfl, rfl, rfl, h0, h1, h2, h3⟩ := trodAll_four hA
  have hb := z8p hk
  obtain ⟨x0, r0, s0⟩ := z4z (hval 0 _ v0 rfl rfl) h0 (hb d0 (by simp))
  obtain ⟨x1, r1⟩ := xoa (hval 1 _ v1 rfl rfl) h1 (hb d1 (by simp))
  obtain ⟨x2, r2, s2⟩ := x78 (hval 2 _ v2 rfl rfl) h2 (hb d2 (by simp))
  obtain ⟨x3, r3, s3⟩ := v9u (hval 3 _ v3 rfl rfl) h3 (hb d3 (by simp))
  refine (ended (wWhole rfl x0 x1 x2 x3 s0 s2 s3) (wdb hl) (vs := [v0, v1, v2, v3]) ⟨r0, r1, r2, r3, trivial⟩).mono fun e W' ⟨he, hbel⟩ => ?_
  refine ⟨_, he, xvv (P := Tryz.prog) (f := Tryz.f3) (s := Rows.recipeWholeSpec) (tb := 4) yx4 (by rw [recipeWhole_params]; decide +kernel) rfl (by kernel_rfl) Tryz.underlying4 (fun ds gs hds hgs => ?_) hW' hbel⟩
  subst hgs
  rw [recipeWhole_params] at hds
  obtain ⟨v0, v1, v2, v3, d0, d1, d2, d3, p0, p1, p2, p3, _, rfl, _, _, _, _, _⟩ := trodAll_four hds
  exact ⟨rfl, rfl, rfl⟩
theorem recipeWhole_lifted (os : Os) (started : os.Started) (H : Type) (enc : TypeId × Value → H) (F : Stop.Interp) :
    ReturnsInHanded {} Tryz.checked os 3 .any ((Rows.OpenSpec.upto Rows.recipeWholeSpec).preRow enc Tryz.prog Tryz.f3 Rows.recipeWholeUptoRow.domain false yfy) (((Rows.OpenSpec.upto Rows.recipeWholeSpec).at F).post enc Tryz.prog Tryz.f3 false true false false) := by
  refine returnsInHanded_of_row (C := Tryz.checked) (s := Rows.OpenSpec.upto Rows.recipeWholeSpec) yp4 started (by kernel_rfl) Tryz.func3
    (v64 (enc := enc) (C := Tryz.checked) (s := Rows.OpenSpec.upto Rows.recipeWholeSpec) (k := Rows.uptoSmall) rfl false 140 #[zH, .int .i64 0, .slice none 0 0, .slice none 0 0] 8 (World.shaped_of_RefB (by kernel_rfl) (by kernel_rfl)) (by kernel_rfl)
      (x := ([dH, dI, .nil, .nil], [], [])) (by kernel_rfl) rfl (by kernel_rfl) (by kernel_rfl) (zxi os _)) ?_
  intro W base args ds gs before hval hW _ hk _ hl _ _
  exact recipeWhole_contract H enc W base args ds gs before hval hW (hk _ rfl) hl
theorem recipeWhole_over : Rows.recipeWholeUptoRow.holds Tryz.pinned (Rows.OpenSpec.upto Rows.recipeWholeSpec) :=
  OpenClaim.holds_of_cond 3 Tryz.f3 rfl rfl rfl rfl rfl rfl rfl ⟨rfl, rfl, rfl, rfl, rfl⟩ rfl rfl rfl rfl rfl (by kernel_rfl) Tryz.func3 (by kernel_rfl)
    (of_decide_eq_true (by kernel_rfl)) (by unfold Func.isWrapper; first | (rw [if_pos (by decide +kernel)]; kernel_rfl) | (rw [if_neg (by decide +kernel)]; exact ⟨rfl, rfl⟩))
    (fun os started H enc _ F => by rw [OpenClaim.pre_eq_preRow]; exact recipeWhole_lifted os started H enc F)
theorem recipeWhole_holds : Rows.RecipeWholeUptoCardSaid :=
  Claim7.holds_tied_plain_at .later [] [.data] true (true, "2ffb57943643cbba0f82d558da07fc531c756fa5ff0ce22ce2be6aedafebb745") true
    recipeWhole_over (fun _ h => by cases h) (by kernel_rfl) (fun _ h => by cases h) recipeWholeUpto_row_tie rfl ⟨rfl, rfl⟩ (by kernel_rfl) rfl
    (fun f fn hf hfn => by
      obtain rfl : f = 3 := Option.some.inj ((show Tryz.prog.funcNamed Rows.recipeWholeUptoRow.func = some 3 by kernel_rfl).symm.trans hf) |>.symm
      obtain rfl : fn = Tryz.f3 := (Option.some.inj (Tryz.func3.symm.trans hfn)).symm
      exact ⟨by kernel_rfl, fun j t ht => by
        rw [recipeWhole_params] at ht
        have hm : t ∈ [31, 3, 32, 33] := by simpa using Array.mem_of_getElem? ht
        have hall : ([31, 3, 32, 33].all fun u => !Tryz.prog.wantsStandIn u) = true := by kernel_rfl
        exact (show Tryz.prog.wantsStandIn t = false by simpa using List.all_eq_true.1 hall t hm)⟩)
    (by kernel_rfl)
end Go.Proofs.YtkbkjjahlafhoaaGreatDoor
