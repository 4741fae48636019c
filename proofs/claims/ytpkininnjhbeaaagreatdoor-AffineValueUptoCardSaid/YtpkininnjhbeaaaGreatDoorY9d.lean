/-
  AffineValue: for all arguments of bulk at most 1048576, where the package variable lexer.signs reads as start-up lays it (tied to the text), the statement returns true, and the arguments read as before.
-/
import Derived.Test.YtpkininnjhbeaaaGreatDoorY38
import Derived.Test.YtpkininnjhbeaaaGreatDoorYWp
import Derived.Test.YtpkininnjhbeaaaGreatDoorCards
import Derived.Test.YtpkininnjhbeaaaGreatDoorTie
import Derived.SevenTiedAt
import Derived.Carry
/-
  AffineValue: for all arguments of bulk at most 1048576, where the package variable lexer.signs reads as start-up lays it (tied to the text), the statement returns true, and the arguments read as before.
-/
namespace Go.Proofs.YtpkininnjhbeaaaGreatDoor
set_option maxRecDepth 100000
open Go Go.Slot Go.Hp Go.Hp.T Go.ChangeShapes Go.WideShapes Go.RowKit
theorem affineValue_params : Tryz.f6.params = #[24, 25, 26, 34] := by kernel_rfl
theorem affineValue_contract (H : Type) (enc : TypeId × Value → H) (W : World) (base : Nat) (args : Array Value) (ds gs : List (DataW H)) (before : List MemPlace)
    (hval : ∀ (j : Nat) t v, Tryz.f6.params[j]? = some t → args[j]? = some v → Value.okWide Tryz.prog W .any base t v)
    (hW : DataW.Whole enc Tryz.prog Tryz.f6.params.toList Rows.affineValueSpec.vars false W args.toList ds gs before) (hk : Rows.uptoSmall H (ds ++ gs) = true) (hl : laidMetH Tryz.prog z8o W) :
    Calls Tryz.prog 6 args W fun e W' => ∃ v, e = .returned v ∧ Rows.affineValueSpec.post enc Tryz.prog Tryz.f6 false true false false W args v W' := by
  have hW' := hW
  obtain ⟨p, q, hA0, hV, rfl, hfz, hnd⟩ := hW
  have hA : DataW.TrodAll enc Tryz.prog W 0 (fun _ => true) true Tryz.f6.params.toList args.toList ds p := hA0
  rw [affineValue_params] at hA hval
  obtain ⟨v0, v1, v2, v3, d0, d1, d2, d3, p0, p1, p2, p3, rfl, rfl, rfl, h0, h1, h2, h3⟩ := trodAll_four hA
  have hb := vq1 hk
  obtain ⟨x0, r0, s0⟩ := xky (hval 0 _ v0 rfl rfl) h0 (hb d0 (by simp))
  obtain ⟨x1, r1, s1⟩ := yor (hval 1 _ v1 rfl rfl) h1 (hb d1 (by simp))
  obtain ⟨x2, r2, s2⟩ := vee (hval 2 _ v2 rfl rfl) h2 (hb d2 (by simp))
  obtain ⟨x3, r3, s3⟩ := w2j (hval 3 _ v3 rfl rfl) h3 (hb d3 (by simp))
  refine (ended (wAffValue x0 x1 x2 x3 ⟨s0, s1.1, s2.1, s1.2, s2.2⟩ s3) (v5u hl) (vs := [v0, v1, v2, v3]) ⟨r0, r1, r2, r3, trivial⟩).mono fun e W' ⟨he, hbel⟩ => ?_
  refine ⟨_, he, yfo (P := Tryz.prog) (f := Tryz.f6) (s := Rows.affineValueSpec) (tb := 4) wwh (by rw [affineValue_params]; decide +kernel) rfl (by kernel_rfl) Tryz.underlying4 (fun ds gs hds hgs => ?_) hW' hbel⟩
  subst hgs
  rw [affineValue_params] at hds
  obtain ⟨v0, v1, v2, v3, d0, d1, d2, d3, p0, p1, p2, p3, _, rfl, _, _, _, _, _⟩ := trodAll_four hds
  exact ⟨rfl, rfl, rfl⟩
theorem affineValue_lifted (os : Os) (started : os.Started) (H : Type) (enc : TypeId × Value → H) (F : Stop.Interp) :
    ReturnsInHanded {} Tryz.checked os 6 .any ((Rows.OpenSpec.upto Rows.affineValueSpec).preRow enc Tryz.prog Tryz.f6 Rows.affineValueUptoRow.domain false z8o) (((Rows.OpenSpec.upto Rows.affineValueSpec).at F).post enc Tryz.prog Tryz.f6 false true false false) := by
  refine returnsInHanded_of_row (C := Tryz.checked) (s := Rows.OpenSpec.upto Rows.affineValueSpec) x5g started (by kernel_rfl) Tryz.func6
    (wyu (enc := enc) (C := Tryz.checked) (s := Rows.OpenSpec.upto Rows.affineValueSpec) (k := Rows.uptoSmall) rfl false 140 #[zE, .slice none 0 0, .slice none 0 0, .slice none 0 0] 8 (World.shaped_of_RefB (by kernel_rfl) (by kernel_rfl)) (by kernel_rfl)
      (x := ([dE, .nil, .nil, .nil], [], [])) (by kernel_rfl) rfl (by kernel_rfl) (by kernel_rfl) (zsu os _)) ?_
  intro W base args ds gs before hval hW _ hk _ hl _ _
  exact affineValue_contract H enc W base args ds gs before hval hW (hk _ rfl) hl
theorem affineValue_over : Rows.affineValueUptoRow.holds Tryz.pinned (Rows.OpenSpec.upto Rows.affineValueSpec) :=
  OpenClaim.holds_of_cond 6 Tryz.f6 rfl rfl rfl rfl rfl rfl rfl ⟨rfl, rfl, rfl, rfl, rfl⟩ rfl rfl rfl rfl rfl (by kernel_rfl) Tryz.func6 (by kernel_rfl)
    (of_decide_eq_true (by kernel_rfl)) (by unfold Func.isWrapper; first | (rw [if_pos (by decide +kernel)]; kernel_rfl) | (rw [if_neg (by decide +kernel)]; exact ⟨rfl, rfl⟩))
    (fun os started H enc _ F => by rw [OpenClaim.pre_eq_preRow]; exact affineValue_lifted os started H enc F)
theorem affineValue_holds : Rows.AffineValueUptoCardSaid :=
  Claim7.holds_tied_plain_at .later [] [.data] true (true, "3862d81d16611c9b4209bf860c7ce9fb839d3754358c9462dcae52b887b1b12a") false
    affineValue_over (fun _ h => by cases h) (by kernel_rfl) (fun _ h => by cases h) affineValueUpto_row_tie rfl ⟨rfl, rfl⟩ (by kernel_rfl) rfl
    (fun f fn hf hfn => by
      obtain rfl : f = 6 := Option.some.inj ((show Tryz.prog.funcNamed Rows.affineValueUptoRow.func = some 6 by kernel_rfl).symm.trans hf) |>.symm
      obtain rfl : fn = Tryz.f6 := (Option.some.inj (Tryz.func6.symm.trans hfn)).symm
      exact ⟨by kernel_rfl, fun j t ht => by
        rw [affineValue_params] at ht
        have hm : t ∈ [24, 25, 26, 34] := by simpa using Array.mem_of_getElem? ht
        have hall : ([24, 25, 26, 34].all fun u => !Tryz.prog.wantsStandIn u) = true := by kernel_rfl
        exact (show Tryz.prog.wantsStandIn t = false by simpa using List.all_eq_true.1 hall t hm)⟩)
    (by kernel_rfl)
end Go.Proofs.YtpkininnjhbeaaaGreatDoor
