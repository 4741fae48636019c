/-
  CallTypes: for all arguments of bulk at most 1048576, where the four listed package variables read as start-up lays them (tied to the text), the statement returns true, and the arguments read as before.
-/
import Derived.Test.YtocdljjhobaabaaGreatDoorY33
import Derived.Test.YtocdljjhobaabaaGreatDoorY2e
import Derived.Test.YtocdljjhobaabaaGreatDoorCards
import Derived.Test.YtocdljjhobaabaaGreatDoorTie
import Derived.SevenTiedAt
import Derived.Carry
/-
  CallTypes: for all arguments of bulk at most 1048576, where the four listed package variables read as start-up lays them (tied to the text), the statement returns true, and the arguments read as before.
-/
namespace Go.Proofs.YtocdljjhobaabaaGreatDoor
set_option maxRecDepth 100000
open Go Go.Slot Go.Hp Go.Hp.T Go.ChangeShapes Go.WideShapes Go.RowKit
theorem callTypes_params : Tryz.f6.params = #[22, 5, 23, 44, 45] := by kernel_rfl
theorem callTypes_contract (H : Type) (enc : TypeId × Value → H) (W : World) (base : Nat) (args : Array Value) (ds gs : List (DataW H)) (before : List MemPlace)
    (hval : ∀ (j : Nat) t v, Tryz.f6.params[j]? = some t → args[j]? = some v → Value.okWide Tryz.prog W .any base t v)
    (hW : DataW.Whole enc Tryz.prog Tryz.f6.params.toList Rows.callTypesSpec.vars false W args.toList ds gs before) (hk : Rows.uptoSmall H (ds ++ gs) = true) (hl : laidMetH Tryz.prog zcr W) :
    Calls Tryz.prog 6 args W fun e W' => ∃ v, e = .returned v ∧ Rows.callTypesSpec.post enc Tryz.prog Tryz.f6 false true false false W args v W' := by
  have hW' := hW
  obtain ⟨p, q, hA0, hV, rfl, hfz, hnd⟩ := hW
  have hA : DataW.TrodAll enc Tryz.prog W 0 (fun _ => true) true Tryz.f6.params.toList args.toList ds p := hA0
  rw [callTypes_params] at hA hval
  obtain ⟨v0, v1, v2, v3, v4, d0, d1, d2, d3, d4, p0, p1, p2, p3, p4, rfl, rfl, rfl, h0, h1, h2, h3, h4⟩ := xm1 hA
  have hb := vft hk
  obtain ⟨x0, r0, s0⟩ := ys2 (hval 0 _ v0 rfl rfl) h0 (hb d0 (by simp))
  obtain ⟨x1, r1, s1⟩ := xcw (hval 1 _ v1 rfl rfl) h1 (hb d1 (by simp))
  obtain ⟨x2, r2, s2⟩ := yne (hval 2 _ v2 rfl rfl) h2 (hb d2 (by simp))
  obtain ⟨x3, r3, s3⟩ := z4t (hval 3 _ v3 rfl rfl) h3 (hb d3 (by simp))
  obtain ⟨x4, r4, s4⟩ := v6k (hval 4 _ v4 rfl rfl) h4 (hb d4 (by simp))
  refine (ended (wCallTypes rfl x0 x1 x2 x3 x4 s0.1 s0.2 s1.1 s1.2 s2.1 s2.2 s3.1 s3.2 s4.1 s4.2) (x64 hl) (vs := [v0, v1, v2, v3, v4]) ⟨r0, r1, r2, r3, r4, trivial⟩).mono fun e W' ⟨he, hbel⟩ => ?_
  refine ⟨_, he, xhr (P := Tryz.prog) (f := Tryz.f6) (s := Rows.callTypesSpec) (tb := 4) xjr (by rw [callTypes_params]; decide +kernel) rfl (by kernel_rfl) Tryz.underlying4 (fun ds gs hds hgs => ?_) hW' hbel⟩
  subst hgs
  rw [callTypes_params] at hds
  obtain ⟨v0, v1, v2, v3, v4, d0, d1, d2, d3, d4, p0, p1, p2, p3, p4, _, rfl, _, _, _, _, _, _⟩ := xm1 hds
  exact ⟨rfl, rfl, rfl⟩
theorem callTypes_lifted (os : Os) (started : os.Started) (H : Type) (enc : TypeId × Value → H) (F : Stop.Interp) :
    ReturnsInHanded {} Tryz.checked os 6 .any ((Rows.OpenSpec.upto Rows.callTypesSpec).preRow enc Tryz.prog Tryz.f6 Rows.callTypesUptoRow.domain false zcr) (((Rows.OpenSpec.upto Rows.callTypesSpec).at F).post enc Tryz.prog Tryz.f6 false true false false) := by
  refine returnsInHanded_of_row (C := Tryz.checked) (s := Rows.OpenSpec.upto Rows.callTypesSpec) xsk started (by kernel_rfl) Tryz.func6
    (x4m (enc := enc) (C := Tryz.checked) (s := Rows.OpenSpec.upto Rows.callTypesSpec) (k := Rows.uptoSmall) rfl false 140 #[.slice none 0 0, .int .u8 0, .slice none 0 0, .slice none 0 0, .slice none 0 0] 8 (World.shaped_of_RefB (by kernel_rfl) (by kernel_rfl)) (by kernel_rfl)
      (x := ([.nil, .lit (.int .u8 0), .nil, .nil, .nil], [], [])) (by kernel_rfl) rfl (by kernel_rfl) (by kernel_rfl) (zof os _)) ?_
  intro W base args ds gs before hval hW _ hk _ hl _ _
  exact callTypes_contract H enc W base args ds gs before hval hW (hk _ rfl) hl
theorem callTypes_over : Rows.callTypesUptoRow.holds Tryz.pinned (Rows.OpenSpec.upto Rows.callTypesSpec) :=
  OpenClaim.holds_of_cond 6 Tryz.f6 rfl rfl rfl rfl rfl rfl rfl ⟨rfl, rfl, rfl, rfl, rfl⟩ rfl rfl rfl rfl rfl (by kernel_rfl) Tryz.func6 (by kernel_rfl)
    (of_decide_eq_true (by kernel_rfl)) (by unfold Func.isWrapper; first | (rw [if_pos (by decide +kernel)]; kernel_rfl) | (rw [if_neg (by decide +kernel)]; exact ⟨rfl, rfl⟩))
    (fun os started H enc _ F => by rw [OpenClaim.pre_eq_preRow]; exact callTypes_lifted os started H enc F)
theorem callTypes_holds : Rows.CallTypesUptoCardSaid :=
  Claim7.holds_tied_plain_at .later [] [.data, .data, .data, .data] true (true, "7ec44e6808199d0521d0a14f4343c82b61d0be80c65346cf66d8338f6b6326a5") false
    callTypes_over (fun _ h => by cases h) (by kernel_rfl) (fun _ h => by cases h) callTypesUpto_row_tie rfl ⟨rfl, rfl⟩ (by kernel_rfl) rfl
    (fun f fn hf hfn => by
      obtain rfl : f = 6 := Option.some.inj ((show Tryz.prog.funcNamed Rows.callTypesUptoRow.func = some 6 by kernel_rfl).symm.trans hf) |>.symm
      obtain rfl : fn = Tryz.f6 := (Option.some.inj (Tryz.func6.symm.trans hfn)).symm
      exact ⟨by kernel_rfl, fun j t ht => by
        rw [callTypes_params] at ht
        have hm : t ∈ [22, 5, 23, 44, 45] := by simpa using Array.mem_of_getElem? ht
        have hall : ([22, 5, 23, 44, 45].all fun u => !Tryz.prog.wantsStandIn u) = true := by kernel_rfl
        exact (show Tryz.prog.wantsStandIn t = false by simpa using List.all_eq_true.1 hall t hm)⟩)
    (by kernel_rfl)
end Go.Proofs.YtocdljjhobaabaaGreatDoor
