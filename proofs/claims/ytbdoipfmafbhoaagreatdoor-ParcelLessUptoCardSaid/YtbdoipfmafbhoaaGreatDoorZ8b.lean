/-
  ParcelLess: for all arguments of bulk at most 1048576, where the package variable lexer.signs reads as start-up lays it (tied to the text), the statement returns true, and the arguments read as before.
-/
import Derived.Test.YtbdoipfmafbhoaaGreatDoorZ35
import Derived.Test.YtbdoipfmafbhoaaGreatDoorZ7k
import Derived.Test.YtbdoipfmafbhoaaGreatDoorCards
import Derived.Test.YtbdoipfmafbhoaaGreatDoorTie
import Derived.SevenTiedAt
import Derived.Carry
/-
  ParcelLess: for all arguments of bulk at most 1048576, where the package variable lexer.signs reads as start-up lays it (tied to the text), the statement returns true, and the arguments read as before.
-/
namespace Go.Proofs.YtbdoipfmafbhoaaGreatDoor
set_option maxRecDepth 100000
open Go Go.Slot Go.Hp Go.Hp.T Go.ChangeShapes Go.WideShapes Go.RowKit
theorem parcelLess_params : Tryz.f5.params = #[31, 3, 5] := by kernel_rfl
theorem parcelLess_contract (H : Type) (enc : TypeId × Value → H) (W : World) (base : Nat) (args : Array Value) (ds gs : List (DataW H)) (before : List MemPlace)
    (hval : ∀ (j : Nat) t v, Tryz.f5.params[j]? = some t → args[j]? = some v → Value.okWide Tryz.prog W .any base t v)
    (hW : DataW.Whole enc Tryz.prog Tryz.f5.params.toList Rows.parcelLessSpec.vars false W args.toList ds gs before) (hk : Rows.uptoSmall H (ds ++ gs) = true) (hl : laidMetH Tryz.prog wv6 W) :
    Calls Tryz.prog 5 args W fun e W' => ∃ v, e = .returned v ∧ Rows.parcelLessSpec.post enc Tryz.prog Tryz.f5 false true false false W args v W' := by
  have hW' := hW
  obtain ⟨p, q, hA0, hV, rfl, hfz, hnd⟩ := hW
  have hA : DataW.TrodAll enc Tryz.prog W 0 (fun _ => true) true Tryz.f5.params.toList args.toList ds p := hA0
  rw [parcelLess_params] at hA hval
  obtain ⟨v0, v1, v2, d0, d1, d2, p0, p1, p2, rfl, rfl, rfl, h0, h1, h2⟩ := trodAll_three hA
  have hb := xvi hk
  obtain ⟨x0, r0, s0⟩ := xt6 (hval 0 _ v0 rfl rfl) h0 (hb d0 (by simp))
  obtain ⟨x1, r1⟩ := y8i (hval 1 _ v1 rfl rfl) h1 (hb d1 (by simp))
  obtain ⟨x2, r2, s2⟩ := yz1 (hval 2 _ v2 rfl rfl) h2 (hb d2 (by simp))
  refine (ended (wParcelLess rfl x0 x1 x2 s0 s2.1 s2.2) (wu3 hl) (vs := [v0, v1, v2]) ⟨r0, r1, r2, trivial⟩).mono fun e W' ⟨he, hbel⟩ => ?_
  refine ⟨_, he, v2t (P := Tryz.prog) (f := Tryz.f5) (s := Rows.parcelLessSpec) (tb := 4) xvp (by rw [parcelLess_params]; decide +kernel) rfl (by kernel_rfl) Tryz.underlying4 (fun ds gs hds hgs => ?_) hW' hbel⟩
  subst hgs
  rw [parcelLess_params] at hds
  obtain ⟨v0, v1, v2, d0, d1, d2, p0, p1, p2, _, rfl, _, _, _, _⟩ := trodAll_three hds
  exact ⟨rfl, rfl, rfl⟩
theorem parcelLess_lifted (os : Os) (started : os.Started) (H : Type) (enc : TypeId × Value → H) (F : Stop.Interp) :
    ReturnsInHanded {} Tryz.checked os 5 .any ((Rows.OpenSpec.upto Rows.parcelLessSpec).preRow enc Tryz.prog Tryz.f5 Rows.parcelLessUptoRow.domain false wv6) (((Rows.OpenSpec.upto Rows.parcelLessSpec).at F).post enc Tryz.prog Tryz.f5 false true false false) := by
  refine returnsInHanded_of_row (C := Tryz.checked) (s := Rows.OpenSpec.upto Rows.parcelLessSpec) ymz started (by kernel_rfl) Tryz.func5
    (wdw (enc := enc) (C := Tryz.checked) (s := Rows.OpenSpec.upto Rows.parcelLessSpec) (k := Rows.uptoSmall) rfl false 140 #[zH, .int .i64 0, .int .u8 0] 8 (World.shaped_of_RefB (by kernel_rfl) (by kernel_rfl)) (by kernel_rfl)
      (x := ([dH, dI, .lit (.int .u8 0)], [], [])) (by kernel_rfl) rfl (by kernel_rfl) (by kernel_rfl) (voq os _)) ?_
  intro W base args ds gs before hval hW _ hk _ hl _ _
  exact parcelLess_contract H enc W base args ds gs before hval hW (hk _ rfl) hl
theorem parcelLess_over : Rows.parcelLessUptoRow.holds Tryz.pinned (Rows.OpenSpec.upto Rows.parcelLessSpec) :=
  OpenClaim.holds_of_cond 5 Tryz.f5 rfl rfl rfl rfl rfl rfl rfl ⟨rfl, rfl, rfl, rfl, rfl⟩ rfl rfl rfl rfl rfl (by kernel_rfl) Tryz.func5 (by kernel_rfl)
    (of_decide_eq_true (by kernel_rfl)) (by unfold Func.isWrapper; first | (rw [if_pos (by decide +kernel)]; kernel_rfl) | (rw [if_neg (by decide +kernel)]; exact ⟨rfl, rfl⟩))
    (fun os started H enc _ F => by rw [OpenClaim.pre_eq_preRow]; exact parcelLess_lifted os started H enc F)
theorem parcelLess_holds : Rows.ParcelLessUptoCardSaid :=
  Claim7.holds_tied_plain_at .later [] [.data] true (true, "e18da2293ac64dcd7932406f0e0750abad80e508b5be8909867a5307fa2d012e") true
    parcelLess_over (fun _ h => by cases h) (by kernel_rfl) (fun _ h => by cases h) parcelLessUpto_row_tie rfl ⟨rfl, rfl⟩ (by kernel_rfl) rfl
    (fun f fn hf hfn => by
      obtain rfl : f = 5 := Option.some.inj ((show Tryz.prog.funcNamed Rows.parcelLessUptoRow.func = some 5 by kernel_rfl).symm.trans hf) |>.symm
      obtain rfl : fn = Tryz.f5 := (Option.some.inj (Tryz.func5.symm.trans hfn)).symm
      exact ⟨by kernel_rfl, fun j t ht => by
        rw [parcelLess_params] at ht
        have hm : t ∈ [31, 3, 5] := by simpa using Array.mem_of_getElem? ht
        have hall : ([31, 3, 5].all fun u => !Tryz.prog.wantsStandIn u) = true := by kernel_rfl
        exact (show Tryz.prog.wantsStandIn t = false by simpa using List.all_eq_true.1 hall t hm)⟩)
    (by kernel_rfl)
end Go.Proofs.YtbdoipfmafbhoaaGreatDoor
