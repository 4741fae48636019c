/-
  CallCircles: for all arguments of bulk at most 1048576, where the four listed package variables read as start-up lays them (tied to the text), the statement returns true, and the arguments read as before.
-/
import Derived.Test.YtocdljjhobaabaaGreatDoorZ36
import Derived.Test.YtocdljjhobaabaaGreatDoorZ2d
import Derived.Test.YtocdljjhobaabaaGreatDoorCards
import Derived.Test.YtocdljjhobaabaaGreatDoorTie
import Derived.SevenTiedAt
import Derived.Carry
/-
  CallCircles: for all arguments of bulk at most 1048576, where the four listed package variables read as start-up lays them (tied to the text), the statement returns true, and the arguments read as before.
-/
namespace Go.Proofs.YtocdljjhobaabaaGreatDoor
set_option maxRecDepth 100000
open Go Go.Slot Go.Hp Go.Hp.T Go.ChangeShapes Go.WideShapes Go.RowKit
theorem callCircles_params : Tryz.f5.params = #[22] := by kernel_rfl
theorem callCircles_contract (H : Type) (enc : TypeId × Value → H) (W : World) (base : Nat) (args : Array Value) (ds gs : List (DataW H)) (before : List MemPlace)
    (hval : ∀ (j : Nat) t v, Tryz.f5.params[j]? = some t → args[j]? = some v → Value.okWide Tryz.prog W .any base t v)
    (hW : DataW.Whole enc Tryz.prog Tryz.f5.params.toList Rows.callCirclesSpec.vars false W args.toList ds gs before) (hk : Rows.uptoSmall H (ds ++ gs) = true) (hl : laidMetH Tryz.prog zcr W) :
    Calls Tryz.prog 5 args W fun e W' => ∃ v, e = .returned v ∧ Rows.callCirclesSpec.post enc Tryz.prog Tryz.f5 false true false false W args v W' := by
  have hW' := hW
  obtain ⟨p, q, hA0, hV, rfl, hfz, hnd⟩ := hW
  have hA : DataW.TrodAll enc Tryz.prog W 0 (fun _ => true) true Tryz.f5.params.toList args.toList ds p := hA0
  rw [callCircles_params] at hA hval
  obtain ⟨v0, d0, rfl, rfl, h0⟩ := trodAll_one hA
  have hb := vft hk
  obtain ⟨x0, r0, s0⟩ := ys2 (hval 0 _ v0 rfl rfl) h0 (hb d0 (by simp))
  refine (ended (wCallCircles rfl x0 s0.1 s0.2) (x64 hl) (vs := [v0]) ⟨r0, trivial⟩).mono fun e W' ⟨he, hbel⟩ => ?_
  refine ⟨_, he, xhr (P := Tryz.prog) (f := Tryz.f5) (s := Rows.callCirclesSpec) (tb := 4) xjr (by rw [callCircles_params]; decide +kernel) rfl (by kernel_rfl) Tryz.underlying4 (fun ds gs hds hgs => ?_) hW' hbel⟩
  subst hgs
  rw [callCircles_params] at hds
  obtain ⟨v0, d0, _, rfl, _⟩ := trodAll_one hds
  exact ⟨rfl, rfl, rfl⟩
theorem callCircles_lifted (os : Os) (started : os.Started) (H : Type) (enc : TypeId × Value → H) (F : Stop.Interp) :
    ReturnsInHanded {} Tryz.checked os 5 .any ((Rows.OpenSpec.upto Rows.callCirclesSpec).preRow enc Tryz.prog Tryz.f5 Rows.callCirclesUptoRow.domain false zcr) (((Rows.OpenSpec.upto Rows.callCirclesSpec).at F).post enc Tryz.prog Tryz.f5 false true false false) := by
  refine returnsInHanded_of_row (C := Tryz.checked) (s := Rows.OpenSpec.upto Rows.callCirclesSpec) xsk started (by kernel_rfl) Tryz.func5
    (x4m (enc := enc) (C := Tryz.checked) (s := Rows.OpenSpec.upto Rows.callCirclesSpec) (k := Rows.uptoSmall) rfl false 140 #[.slice none 0 0] 8 (World.shaped_of_RefB (by kernel_rfl) (by kernel_rfl)) (by kernel_rfl)
      (x := ([.nil], [], [])) (by kernel_rfl) rfl (by kernel_rfl) (by kernel_rfl) (zof os _)) ?_
  intro W base args ds gs before hval hW _ hk _ hl _ _
  exact callCircles_contract H enc W base args ds gs before hval hW (hk _ rfl) hl
theorem callCircles_over : Rows.callCirclesUptoRow.holds Tryz.pinned (Rows.OpenSpec.upto Rows.callCirclesSpec) :=
  OpenClaim.holds_of_cond 5 Tryz.f5 rfl rfl rfl rfl rfl rfl rfl ⟨rfl, rfl, rfl, rfl, rfl⟩ rfl rfl rfl rfl rfl (by kernel_rfl) Tryz.func5 (by kernel_rfl)
    (of_decide_eq_true (by kernel_rfl)) (by unfold Func.isWrapper; first | (rw [if_pos (by decide +kernel)]; kernel_rfl) | (rw [if_neg (by decide +kernel)]; exact ⟨rfl, rfl⟩))
    (fun os started H enc _ F => by rw [OpenClaim.pre_eq_preRow]; exact callCircles_lifted os started H enc F)
theorem callCircles_holds : Rows.CallCirclesUptoCardSaid :=
  Claim7.holds_tied_plain_at .later [] [.data, .data, .data, .data] true (true, "7ec44e6808199d0521d0a14f4343c82b61d0be80c65346cf66d8338f6b6326a5") false
    callCircles_over (fun _ h => by cases h) (by kernel_rfl) (fun _ h => by cases h) callCirclesUpto_row_tie rfl ⟨rfl, rfl⟩ (by kernel_rfl) rfl
    (fun f fn hf hfn => by
      obtain rfl : f = 5 := Option.some.inj ((show Tryz.prog.funcNamed Rows.callCirclesUptoRow.func = some 5 by kernel_rfl).symm.trans hf) |>.symm
      obtain rfl : fn = Tryz.f5 := (Option.some.inj (Tryz.func5.symm.trans hfn)).symm
      exact ⟨by kernel_rfl, fun j t ht => by
        rw [callCircles_params] at ht
        have hm : t ∈ [22] := by simpa using Array.mem_of_getElem? ht
        have hall : ([22].all fun u => !Tryz.prog.wantsStandIn u) = true := by kernel_rfl
        exact (show Tryz.prog.wantsStandIn t = false by simpa using List.all_eq_true.1 hall t hm)⟩)
    (by kernel_rfl)
end Go.Proofs.YtocdljjhobaabaaGreatDoor
