/-
  RecipeLinear: for all arguments of bulk at most 1048576, where the package variable lexer.signs reads as start-up lays it (tied to the text), the statement returns true, and the arguments read as before.
-/
import Derived.Test.YtkbkjjahlafhoaaGreatDoorZ36
import Derived.Test.YtkbkjjahlafhoaaGreatDoorZ3r
import Derived.Test.YtkbkjjahlafhoaaGreatDoorCards
import Derived.Test.YtkbkjjahlafhoaaGreatDoorTie
import Derived.SevenTiedAt
import Derived.Carry
/-
  RecipeLinear: for all arguments of bulk at most 1048576, where the package variable lexer.signs reads as start-up lays it (tied to the text), the statement returns true, and the arguments read as before.
-/
namespace Go.Proofs.YtkbkjjahlafhoaaGreatDoor
set_option maxRecDepth 100000
open Go Go.Slot Go.Hp Go.Hp.T Go.ChangeShapes Go.WideShapes Go.RowKit
theorem recipeLinear_params : Tryz.f5.params = #[41, 33, 33] := by kernel_rfl
theorem recipeLinear_contract (H : Type) (enc : TypeId × Value → H) (W : World) (base : Nat) (args : Array Value) (ds gs : List (DataW H)) (before : List MemPlace)
    (hval : ∀ (j : Nat) t v, Tryz.f5.params[j]? = some t → args[j]? = some v → Value.okWide Tryz.prog W .any base t v)
    (hW : DataW.Whole enc Tryz.prog Tryz.f5.params.toList Rows.recipeLinearSpec.vars false W args.toList ds gs before) (hk : Rows.uptoSmall H (ds ++ gs) = true) (hl : laidMetH Tryz.prog weq W) :
    Calls Tryz.prog 5 args W fun e W' => ∃ v, e = .returned v ∧ Rows.recipeLinearSpec.post enc Tryz.prog Tryz.f5 false true false false W args v W' := by
  have hW' := hW
  obtain ⟨p, q, hA0, hV, rfl, hfz, hnd⟩ := hW
  have hA : DataW.TrodAll enc Tryz.prog W 0 (fun _ => true) true Tryz.f5.params.toList args.toList ds p := hA0
  rw [recipeLinear_params] at hA hval
  obtain ⟨v0, v1, v2, d0, d1, d2, p0, p1, p2, rfl, rfl, rfl, h0, h1, h2⟩ := trodAll_three hA
  have hb := zqa hk
  obtain ⟨x0, r0, s0⟩ := v3n (hval 0 _ v0 rfl rfl) h0 (hb d0 (by simp))
  obtain ⟨x1, r1, s1⟩ := xfy (hval 1 _ v1 rfl rfl) h1 (hb d1 (by simp))
  obtain ⟨x2, r2, s2⟩ := xfy (hval 2 _ v2 rfl rfl) h2 (hb d2 (by simp))
  refine (ended (wLinear rfl x0 x1 x2 s0 s1 s2) (wlj hl) (vs := [v0, v1, v2]) ⟨r0, r1, r2, trivial⟩).mono fun e W' ⟨he, hbel⟩ => ?_
  refine ⟨_, he, zh8 (P := Tryz.prog) (f := Tryz.f5) (s := Rows.recipeLinearSpec) (tb := 4) zy4 (by rw [recipeLinear_params]; decide +kernel) rfl (by kernel_rfl) Tryz.underlying4 (fun ds gs hds hgs => ?_) hW' hbel⟩
  subst hgs
  rw [recipeLinear_params] at hds
  obtain ⟨v0, v1, v2, d0, d1, d2, p0, p1, p2, _, rfl, _, _, _, _⟩ := trodAll_three hds
  exact ⟨rfl, rfl, rfl⟩
theorem recipeLinear_lifted (os : Os) (started : os.Started) (H : Type) (enc : TypeId × Value → H) (F : Stop.Interp) :
    ReturnsInHanded {} Tryz.checked os 5 .any ((Rows.OpenSpec.upto Rows.recipeLinearSpec).preRow enc Tryz.prog Tryz.f5 Rows.recipeLinearUptoRow.domain false weq) (((Rows.OpenSpec.upto Rows.recipeLinearSpec).at F).post enc Tryz.prog Tryz.f5 false true false false) := by
  refine returnsInHanded_of_row (C := Tryz.checked) (s := Rows.OpenSpec.upto Rows.recipeLinearSpec) v0n started (by kernel_rfl) Tryz.func5
    (v9n (enc := enc) (C := Tryz.checked) (s := Rows.OpenSpec.upto Rows.recipeLinearSpec) (k := Rows.uptoSmall) rfl false 140 #[zL, .slice none 0 0, .slice none 0 0] 8 (World.shaped_of_RefB (by kernel_rfl) (by kernel_rfl)) (by kernel_rfl)
      (x := ([dL, .nil, .nil], [], [])) (by kernel_rfl) rfl (by kernel_rfl) (by kernel_rfl) (y26 os _)) ?_
  intro W base args ds gs before hval hW _ hk _ hl _ _
  exact recipeLinear_contract H enc W base args ds gs before hval hW (hk _ rfl) hl
theorem recipeLinear_over : Rows.recipeLinearUptoRow.holds Tryz.pinned (Rows.OpenSpec.upto Rows.recipeLinearSpec) :=
  OpenClaim.holds_of_cond 5 Tryz.f5 rfl rfl rfl rfl rfl rfl rfl ⟨rfl, rfl, rfl, rfl, rfl⟩ rfl rfl rfl rfl rfl (by kernel_rfl) Tryz.func5 (by kernel_rfl)
    (of_decide_eq_true (by kernel_rfl)) (by unfold Func.isWrapper; first | (rw [if_pos (by decide +kernel)]; kernel_rfl) | (rw [if_neg (by decide +kernel)]; exact ⟨rfl, rfl⟩))
    (fun os started H enc _ F => by rw [OpenClaim.pre_eq_preRow]; exact recipeLinear_lifted os started H enc F)
theorem recipeLinear_holds : Rows.RecipeLinearUptoCardSaid :=
  Claim7.holds_tied_plain_at .later [] [.data] true (true, "2ffb57943643cbba0f82d558da07fc531c756fa5ff0ce22ce2be6aedafebb745") true
    recipeLinear_over (fun _ h => by cases h) (by kernel_rfl) (fun _ h => by cases h) recipeLinearUpto_row_tie rfl ⟨rfl, rfl⟩ (by kernel_rfl) rfl
    (fun f fn hf hfn => by
      obtain rfl : f = 5 := Option.some.inj ((show Tryz.prog.funcNamed Rows.recipeLinearUptoRow.func = some 5 by kernel_rfl).symm.trans hf) |>.symm
      obtain rfl : fn = Tryz.f5 := (Option.some.inj (Tryz.func5.symm.trans hfn)).symm
      exact ⟨by kernel_rfl, fun j t ht => by
        rw [recipeLinear_params] at ht
        have hm : t ∈ [41, 33, 33] := by simpa using Array.mem_of_getElem? ht
        have hall : ([41, 33, 33].all fun u => !Tryz.prog.wantsStandIn u) = true := by kernel_rfl
        exact (show Tryz.prog.wantsStandIn t = false by simpa using List.all_eq_true.1 hall t hm)⟩)
    (by kernel_rfl)
end Go.Proofs.YtkbkjjahlafhoaaGreatDoor
