/-
  ValueNamed: for all arguments of bulk at most 1048576, where the package variable lexer.signs reads as start-up lays it (tied to the text), the statement returns true, and the arguments read as before.
-/
import Derived.Test.YtmegdbbbllffkaaGreatDoorY37
import Derived.Test.YtmegdbbbllffkaaGreatDoorY39
import Derived.Test.YtmegdbbbllffkaaGreatDoorCards
import Derived.Test.YtmegdbbbllffkaaGreatDoorTie
import Derived.SevenTiedAt
import Derived.Carry
/-
  ValueNamed: for all arguments of bulk at most 1048576, where the package variable lexer.signs reads as start-up lays it (tied to the text), the statement returns true, and the arguments read as before.
-/
namespace Go.Proofs.YtmegdbbbllffkaaGreatDoor
set_option maxRecDepth 100000
open Go Go.Slot Go.Hp Go.Hp.T Go.ChangeShapes Go.WideShapes Go.RowKit
theorem valueNamed_params : Tryz.f6.params = #[24, 24, 9, 25, 26] := by kernel_rfl
theorem valueNamed_contract (H : Type) (enc : TypeId × Value → H) (W : World) (base : Nat) (args : Array Value) (ds gs : List (DataW H)) (before : List MemPlace)
    (hval : ∀ (j : Nat) t v, Tryz.f6.params[j]? = some t → args[j]? = some v → Value.okWide Tryz.prog W .any base t v)
    (hW : DataW.Whole enc Tryz.prog Tryz.f6.params.toList Rows.valueNamedSpec.vars false W args.toList ds gs before) (hk : Rows.uptoSmall H (ds ++ gs) = true) (hl : laidMetH Tryz.prog v74 W) :
    Calls Tryz.prog 6 args W fun e W' => ∃ v, e = .returned v ∧ Rows.valueNamedSpec.post enc Tryz.prog Tryz.f6 false true false false W args v W' := by
  have hW' := hW
  obtain ⟨p, q, hA0, hV, rfl, hfz, hnd⟩ := hW
  have hA : DataW.TrodAll enc Tryz.prog W 0 (fun _ => true) true Tryz.f6.params.toList args.toList ds p := hA0
  rw [valueNamed_params] at hA hval
  obtain ⟨v0, v1, v2, v3, v4, d0, d1, d2, d3, d4, p0, p1, p2, p3, p4, rfl, rfl, rfl, h0, h1, h2, h3, h4⟩ := zgu hA
  have hb := yzr hk
  obtain ⟨x0, r0, s0⟩ := wzh (hval 0 _ v0 rfl rfl) h0 (hb d0 (by simp))
  obtain ⟨x1, r1, s1⟩ := wzh (hval 1 _ v1 rfl rfl) h1 (hb d1 (by simp))
  obtain ⟨x2, r2, s2⟩ := vdr (hval 2 _ v2 rfl rfl) h2 (hb d2 (by simp))
  obtain ⟨x3, r3, s3⟩ := xe0 (hval 3 _ v3 rfl rfl) h3 (hb d3 (by simp))
  obtain ⟨x4, r4, s4⟩ := z2w (hval 4 _ v4 rfl rfl) h4 (hb d4 (by simp))
  refine (ended (w8d x0 x1 x2 x3 x4 ⟨s0, s3.1, s4.1, s3.2, s4.2⟩ s1 (Nat.le_trans s2 (by decide))) (vtv hl) (vs := [v0, v1, v2, v3, v4]) ⟨r0, r1, r2, r3, r4, trivial⟩).mono fun e W' ⟨he, hbel⟩ => ?_
  refine ⟨_, he, xw8 (P := Tryz.prog) (f := Tryz.f6) (s := Rows.valueNamedSpec) (tb := 4) x2q (by rw [valueNamed_params]; decide +kernel) rfl (by kernel_rfl) Tryz.underlying4 (fun ds gs hds hgs => ?_) hW' hbel⟩
  subst hgs
  rw [valueNamed_params] at hds
  obtain ⟨v0, v1, v2, v3, v4, d0, d1, d2, d3, d4, p0, p1, p2, p3, p4, _, rfl, _, _, _, _, _, _⟩ := zgu hds
  exact ⟨rfl, rfl, rfl⟩
theorem valueNamed_lifted (os : Os) (started : os.Started) (H : Type) (enc : TypeId × Value → H) (F : Stop.Interp) :
    ReturnsInHanded {} Tryz.checked os 6 .any ((Rows.OpenSpec.upto Rows.valueNamedSpec).preRow enc Tryz.prog Tryz.f6 Rows.valueNamedUptoRow.domain false v74) (((Rows.OpenSpec.upto Rows.valueNamedSpec).at F).post enc Tryz.prog Tryz.f6 false true false false) := by
  refine returnsInHanded_of_row (C := Tryz.checked) (s := Rows.OpenSpec.upto Rows.valueNamedSpec) x53 started (by kernel_rfl) Tryz.func6
    (we9 (enc := enc) (C := Tryz.checked) (s := Rows.OpenSpec.upto Rows.valueNamedSpec) (k := Rows.uptoSmall) rfl false 14 #[zE, zE, .string ⟨#[]⟩, .slice none 0 0, .slice none 0 0] 8 (World.shaped_of_RefB (by kernel_rfl) (by kernel_rfl)) (by kernel_rfl)
      (x := ([dE, dE, dS, .nil, .nil], [], [])) (by kernel_rfl) rfl (by kernel_rfl) (by kernel_rfl) (wxj os _)) ?_
  intro W base args ds gs before hval hW _ hk _ hl _ _
  exact valueNamed_contract H enc W base args ds gs before hval hW (hk _ rfl) hl
theorem valueNamed_over : Rows.valueNamedUptoRow.holds Tryz.pinned (Rows.OpenSpec.upto Rows.valueNamedSpec) :=
  OpenClaim.holds_of_cond 6 Tryz.f6 rfl rfl rfl rfl rfl rfl rfl ⟨rfl, rfl, rfl, rfl, rfl⟩ rfl rfl rfl rfl rfl (by kernel_rfl) Tryz.func6 (by kernel_rfl)
    (of_decide_eq_true (by kernel_rfl)) (by unfold Func.isWrapper; first | (rw [if_pos (by decide +kernel)]; kernel_rfl) | (rw [if_neg (by decide +kernel)]; exact ⟨rfl, rfl⟩))
    (fun os started H enc _ F => by rw [OpenClaim.pre_eq_preRow]; exact valueNamed_lifted os started H enc F)
theorem valueNamed_holds : Rows.ValueNamedUptoCardSaid :=
  Claim7.holds_tied_plain_at .later [] [.data] true (true, "c8aa3b844e18a121a6c40505afdab6025a97fdd1dfa787709dcee25fdd0e1ee7") false
    valueNamed_over (fun _ h => by cases h) (by kernel_rfl) (fun _ h => by cases h) valueNamedUpto_row_tie rfl ⟨rfl, rfl⟩ (by kernel_rfl) rfl
    (fun f fn hf hfn => by
      obtain rfl : f = 6 := Option.some.inj ((show Tryz.prog.funcNamed Rows.valueNamedUptoRow.func = some 6 by kernel_rfl).symm.trans hf) |>.symm
      obtain rfl : fn = Tryz.f6 := (Option.some.inj (Tryz.func6.symm.trans hfn)).symm
      exact ⟨by kernel_rfl, fun j t ht => by
        rw [valueNamed_params] at ht
        have hm : t ∈ [24, 24, 9, 25, 26] := by simpa using Array.mem_of_getElem? ht
        have hall : ([24, 24, 9, 25, 26].all fun u => !Tryz.prog.wantsStandIn u) = true := by kernel_rfl
        exact (show Tryz.prog.wantsStandIn t = false by simpa using List.all_eq_true.1 hall t hm)⟩)
    (by kernel_rfl)
end Go.Proofs.YtmegdbbbllffkaaGreatDoor
