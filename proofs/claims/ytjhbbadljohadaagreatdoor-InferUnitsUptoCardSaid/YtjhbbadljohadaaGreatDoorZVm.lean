/-
  InferUnits: for all arguments of bulk at most 1048576, where the package variable lexer.signs reads as start-up lays it (tied to the text), the statement returns true, and the arguments read as before.
-/
import Derived.Test.YtjhbbadljohadaaGreatDoorZ36
import Derived.Test.YtjhbbadljohadaaGreatDoorZ39
import Derived.Test.YtjhbbadljohadaaGreatDoorCards
import Derived.Test.YtjhbbadljohadaaGreatDoorTie
import Derived.SevenTiedAt
/-
  InferUnits: for all arguments of bulk at most 1048576, where the package variable lexer.signs reads as start-up lays it (tied to the text), the statement returns true, and the arguments read as before.
-/
namespace Go.Proofs.YtjhbbadljohadaaGreatDoor
set_option maxRecDepth 100000
open Go Go.Slot Go.Hp Go.Hp.T Go.ChangeShapes Go.WideShapes Go.RowKit
theorem rewr_sm (a b : ByteArray) (k : Int) (hb : b.size ≤ 1073741824) : ∀ x : Ex, x.Sm → (Ex.rewr a b k x).Sm := by
  refine Ex.ind (fun x ih hx => ?_)
  rw [Ex.rewr_eq]
  refine .mk _ (by show (x.args.map _).length ≤ _; rw [List.length_map]; exact hx.len) (by show (bif _ then b else x.unit).size ≤ _; cases (decide (x.op = 0) && seq x.unit a) with | true => exact hb | false => exact hx.u) hx.s (fun z hz => ?_)
  obtain ⟨z', h1, rfl⟩ := List.mem_map.1 (show z ∈ x.args.map (Ex.rewr a b k) from hz)
  exact ih z' h1 (hx.arg z' h1)
theorem inferUnits_params : Tryz.f5.params = #[24, 9, 9, 42, 25, 26] := by kernel_rfl
theorem inferUnits_contract (H : Type) (enc : TypeId × Value → H) (W : World) (base : Nat) (args : Array Value) (ds gs : List (DataW H)) (before : List MemPlace)
    (hval : ∀ (j : Nat) t v, Tryz.f5.params[j]? = some t → args[j]? = some v → Value.okWide Tryz.prog W .any base t v)
    (hW : DataW.Whole enc Tryz.prog Tryz.f5.params.toList Rows.inferUnitsSpec.vars false W args.toList ds gs before) (hk : Rows.uptoSmall H (ds ++ gs) = true) (hl : laidMetH Tryz.prog laidL W) :
    Calls Tryz.prog 5 args W fun e W' => ∃ v, e = .returned v ∧ Rows.inferUnitsSpec.post enc Tryz.prog Tryz.f5 false true false false W args v W' := by
  have hW' := hW
  obtain ⟨p, q, hA0, hV, rfl, hfz, hnd⟩ := hW
  have hA : DataW.TrodAll enc Tryz.prog W 0 (fun _ => true) true Tryz.f5.params.toList args.toList ds p := hA0
  rw [inferUnits_params] at hA hval
  obtain ⟨v0, v1, v2, v3, v4, v5, d0, d1, d2, d3, d4, d5, p0, p1, p2, p3, p4, p5, rfl, rfl, rfl, h0, h1, h2, h3, h4, h5⟩ := trodAll_six hA
  have hb := bulk_bound hk
  obtain ⟨x0, r0, s0⟩ := openEx (hval 0 _ v0 rfl rfl) h0 (hb d0 (by simp))
  obtain ⟨x1, r1, s1⟩ := openStr (hval 1 _ v1 rfl rfl) h1 (hb d1 (by simp))
  obtain ⟨x2, r2, s2⟩ := openStr (hval 2 _ v2 rfl rfl) h2 (hb d2 (by simp))
  obtain ⟨x3, r3, s3⟩ := openU16 (hval 3 _ v3 rfl rfl) h3 (hb d3 (by simp))
  obtain ⟨x4, r4, s4⟩ := openVrs (hval 4 _ v4 rfl rfl) h4 (hb d4 (by simp))
  obtain ⟨x5, r5, s5⟩ := openTbs (hval 5 _ v5 rfl rfl) h5 (hb d5 (by simp))
  refine (ended (wUnits x0 x1 x2 x3 x4 x5 s0 (rewr_sm x1 x2 x3 (Nat.le_trans s2 (by decide)) x0 s0) (Nat.le_trans s1 (by decide)) (Nat.le_trans s2 (by decide)) s3.1 s3.2 (Nat.le_trans s4.1 (by decide)) (Nat.le_trans s5.1 (by decide)) s4.2 s5.2 (lawUnits1 x0 x1 x2 x3 x4 x5 s3.1 s3.2) (lawUnits2 x0 x4 x5)) (globOk hl) (vs := [v0, v1, v2, v3, v4, v5]) ⟨r0, r1, r2, r3, r4, r5, trivial⟩).mono fun e W' ⟨he, hbel⟩ => ?_
  refine ⟨_, he, law_post (P := Tryz.prog) (f := Tryz.f5) (s := Rows.inferUnitsSpec) (tb := 4) laid0 (by rw [inferUnits_params]; decide +kernel) rfl (by kernel_rfl) Tryz.underlying4 (fun ds gs hds hgs => ?_) hW' hbel⟩
  subst hgs
  rw [inferUnits_params] at hds
  obtain ⟨v0, v1, v2, v3, v4, v5, d0, d1, d2, d3, d4, d5, p0, p1, p2, p3, p4, p5, _, rfl, _, _, _, _, _, _, _⟩ := trodAll_six hds
  exact ⟨rfl, rfl, rfl⟩
theorem inferUnits_lifted (os : Os) (started : os.Started) (H : Type) (enc : TypeId × Value → H) (F : Stop.Interp) :
    ReturnsInHanded {} Tryz.checked os 5 .any ((Rows.OpenSpec.upto Rows.inferUnitsSpec).preRow enc Tryz.prog Tryz.f5 Rows.inferUnitsUptoRow.domain false laidL) (((Rows.OpenSpec.upto Rows.inferUnitsSpec).at F).post enc Tryz.prog Tryz.f5 false true false false) := by
  refine returnsInHanded_of_row (C := Tryz.checked) (s := Rows.OpenSpec.upto Rows.inferUnitsSpec) ownKnob0 started (by kernel_rfl) Tryz.func5
    (witness_door (enc := enc) (C := Tryz.checked) (s := Rows.OpenSpec.upto Rows.inferUnitsSpec) (k := Rows.uptoSmall) rfl false 14 #[zE, .string ⟨#[]⟩, .string ⟨#[]⟩, .int .u16 0, .slice none 0 0, .slice none 0 0] 8 (World.shaped_of_RefB (by kernel_rfl) (by kernel_rfl)) (by kernel_rfl)
      (x := ([dE, dS, dS, .lit (.int .u16 0), .nil, .nil], [], [])) (by kernel_rfl) rfl (by kernel_rfl) (by kernel_rfl) (door_met os _)) ?_
  intro W base args ds gs before hval hW _ hk _ hl _ _
  exact inferUnits_contract H enc W base args ds gs before hval hW (hk _ rfl) hl
theorem inferUnits_over : Rows.inferUnitsUptoRow.holds Tryz.pinned (Rows.OpenSpec.upto Rows.inferUnitsSpec) :=
  OpenClaim.holds_of_cond 5 Tryz.f5 rfl rfl rfl rfl rfl rfl rfl ⟨rfl, rfl, rfl, rfl, rfl⟩ rfl rfl rfl rfl rfl (by kernel_rfl) Tryz.func5 (by kernel_rfl)
    (of_decide_eq_true (by kernel_rfl)) (by unfold Func.isWrapper; first | (rw [if_pos (by decide +kernel)]; kernel_rfl) | (rw [if_neg (by decide +kernel)]; exact ⟨rfl, rfl⟩))
    (fun os started H enc _ F => by rw [OpenClaim.pre_eq_preRow]; exact inferUnits_lifted os started H enc F)
theorem inferUnits_holds : Rows.InferUnitsUptoCardSaid :=
  Claim7.holds_tied_plain_at .later [] [.data] true (true, "a29a41f324062f604455abc4ade03a896896e75212cae0bd9527bed103ef5564") false
    inferUnits_over (fun _ h => by cases h) (by kernel_rfl) (fun _ h => by cases h) inferUnitsUpto_row_tie rfl ⟨rfl, rfl⟩ (by kernel_rfl) rfl
    (fun f fn hf hfn => by
      obtain rfl : f = 5 := Option.some.inj ((show Tryz.prog.funcNamed Rows.inferUnitsUptoRow.func = some 5 by kernel_rfl).symm.trans hf) |>.symm
      obtain rfl : fn = Tryz.f5 := (Option.some.inj (Tryz.func5.symm.trans hfn)).symm
      exact ⟨by kernel_rfl, fun j t ht => by
        rw [inferUnits_params] at ht
        have hm : t ∈ [24, 9, 9, 42, 25, 26] := by simpa using Array.mem_of_getElem? ht
        have hall : ([24, 9, 9, 42, 25, 26].all fun u => !Tryz.prog.wantsStandIn u) = true := by kernel_rfl
        exact (show Tryz.prog.wantsStandIn t = false by simpa using List.all_eq_true.1 hall t hm)⟩)
    (by kernel_rfl)
end Go.Proofs.YtjhbbadljohadaaGreatDoor
