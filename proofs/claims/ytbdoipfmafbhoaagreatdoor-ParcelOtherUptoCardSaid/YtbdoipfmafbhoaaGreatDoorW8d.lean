/-
  ParcelOther: for all arguments of bulk at most 1048576, where the package variable lexer.signs reads as start-up lays it (tied to the text), the statement returns true, and the arguments read as before.
-/
import Derived.Test.YtbdoipfmafbhoaaGreatDoorW36
import Derived.Test.YtbdoipfmafbhoaaGreatDoorW7t
import Derived.Test.YtbdoipfmafbhoaaGreatDoorCards
import Derived.Test.YtbdoipfmafbhoaaGreatDoorTie
import Derived.SevenTiedAt
import Derived.Carry
/-
  ParcelOther: for all arguments of bulk at most 1048576, where the package variable lexer.signs reads as start-up lays it (tied to the text), the statement returns true, and the arguments read as before.
-/
namespace Go.Proofs.YtbdoipfmafbhoaaGreatDoor
set_option maxRecDepth 100000
open Go Go.Slot Go.Hp Go.Hp.T Go.ChangeShapes Go.WideShapes Go.RowKit
theorem parcelOther_params : Tryz.f7.params = #[31, 3] := by kernel_rfl
theorem parcelOther_contract (H : Type) (enc : TypeId × Value → H) (W : World) (base : Nat) (args : Array Value) (ds gs : List (DataW H)) (before : List MemPlace)
    (hval : ∀ (j : Nat) t v, Tryz.f7.params[j]? = some t → args[j]? = some v → Value.okWide Tryz.prog W .any base t v)
    (hW : DataW.Whole enc Tryz.prog Tryz.f7.params.toList Rows.parcelOtherSpec.vars false W args.toList ds gs before) (hk : Rows.uptoSmall H (ds ++ gs) = true) (hl : laidMetH Tryz.prog xtn W) :
    Calls Tryz.prog 7 args W fun e W' => ∃ v, e = .returned v ∧ Rows.parcelOtherSpec.post enc Tryz.prog Tryz.f7 false true false false W args v W' := by
  have hW' := hW
  obtain ⟨p, q, hA0, hV, rfl, hfz, hnd⟩ := hW
  have hA : DataW.TrodAll enc Tryz.prog W 0 (fun _ => true) true Tryz.f7.params.toList args.toList ds p := hA0
  rw [parcelOther_params] at hA hval
  obtain ⟨v0, v1, d0, d1, p0, p1, rfl, rfl, rfl, h0, h1⟩ := trodAll_two hA
  have hb := yq1 hk
  obtain ⟨x0, r0, s0⟩ := xzt (hval 0 _ v0 rfl rfl) h0 (hb d0 (by simp))
  obtain ⟨x1, r1⟩ := xkn (hval 1 _ v1 rfl rfl) h1 (hb d1 (by simp))
  refine (ended (wParcelOther rfl x0 x1 s0) (x21 hl) (vs := [v0, v1]) ⟨r0, r1, trivial⟩).mono fun e W' ⟨he, hbel⟩ => ?_
  refine ⟨_, he, w8s (P := Tryz.prog) (f := Tryz.f7) (s := Rows.parcelOtherSpec) (tb := 4) zmy (by rw [parcelOther_params]; decide +kernel) rfl (by kernel_rfl) Tryz.underlying4 (fun ds gs hds hgs => ?_) hW' hbel⟩
  subst hgs
  rw [parcelOther_params] at hds
  obtain ⟨v0, v1, d0, d1, p0, p1, _, rfl, _, _, _⟩ := trodAll_two hds
  exact ⟨rfl, rfl, rfl⟩
theorem parcelOther_lifted (os : Os) (started : os.Started) (H : Type) (enc : TypeId × Value → H) (F : Stop.Interp) :
    ReturnsInHanded {} Tryz.checked os 7 .any ((Rows.OpenSpec.upto Rows.parcelOtherSpec).preRow enc Tryz.prog Tryz.f7 Rows.parcelOtherUptoRow.domain false xtn) (((Rows.OpenSpec.upto Rows.parcelOtherSpec).at F).post enc Tryz.prog Tryz.f7 false true false false) := by
  refine returnsInHanded_of_row (C := Tryz.checked) (s := Rows.OpenSpec.upto Rows.parcelOtherSpec) ygm started (by kernel_rfl) Tryz.func7
    (zsp (enc := enc) (C := Tryz.checked) (s := Rows.OpenSpec.upto Rows.parcelOtherSpec) (k := Rows.uptoSmall) rfl false 140 #[zH, .int .i64 0] 8 (World.shaped_of_RefB (by kernel_rfl) (by kernel_rfl)) (by kernel_rfl)
      (x := ([dH, dI], [], [])) (by kernel_rfl) rfl (by kernel_rfl) (by kernel_rfl) (x94 os _)) ?_
  intro W base args ds gs before hval hW _ hk _ hl _ _
  exact parcelOther_contract H enc W base args ds gs before hval hW (hk _ rfl) hl
theorem parcelOther_over : Rows.parcelOtherUptoRow.holds Tryz.pinned (Rows.OpenSpec.upto Rows.parcelOtherSpec) :=
  OpenClaim.holds_of_cond 7 Tryz.f7 rfl rfl rfl rfl rfl rfl rfl ⟨rfl, rfl, rfl, rfl, rfl⟩ rfl rfl rfl rfl rfl (by kernel_rfl) Tryz.func7 (by kernel_rfl)
    (of_decide_eq_true (by kernel_rfl)) (by unfold Func.isWrapper; first | (rw [if_pos (by decide +kernel)]; kernel_rfl) | (rw [if_neg (by decide +kernel)]; exact ⟨rfl, rfl⟩))
    (fun os started H enc _ F => by rw [OpenClaim.pre_eq_preRow]; exact parcelOther_lifted os started H enc F)
theorem parcelOther_holds : Rows.ParcelOtherUptoCardSaid :=
  Claim7.holds_tied_plain_at .later [] [.data] true (true, "e18da2293ac64dcd7932406f0e0750abad80e508b5be8909867a5307fa2d012e") true
    parcelOther_over (fun _ h => by cases h) (by kernel_rfl) (fun _ h => by cases h) parcelOtherUpto_row_tie rfl ⟨rfl, rfl⟩ (by kernel_rfl) rfl
    (fun f fn hf hfn => by
      obtain rfl : f = 7 := Option.some.inj ((show Tryz.prog.funcNamed Rows.parcelOtherUptoRow.func = some 7 by kernel_rfl).symm.trans hf) |>.symm
      obtain rfl : fn = Tryz.f7 := (Option.some.inj (Tryz.func7.symm.trans hfn)).symm
      exact ⟨by kernel_rfl, fun j t ht => by
        rw [parcelOther_params] at ht
        have hm : t ∈ [31, 3] := by simpa using Array.mem_of_getElem? ht
        have hall : ([31, 3].all fun u => !Tryz.prog.wantsStandIn u) = true := by kernel_rfl
        exact (show Tryz.prog.wantsStandIn t = false by simpa using List.all_eq_true.1 hall t hm)⟩)
    (by kernel_rfl)
end Go.Proofs.YtbdoipfmafbhoaaGreatDoor
