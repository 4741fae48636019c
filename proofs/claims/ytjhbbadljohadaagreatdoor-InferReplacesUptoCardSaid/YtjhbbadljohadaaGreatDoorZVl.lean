/-
  InferReplaces: for all arguments of bulk at most 1048576, where the package variable lexer.signs reads as start-up lays it (tied to the text), the statement returns true, and the arguments read as before.
-/
import Derived.Test.YtjhbbadljohadaaGreatDoorZ36
import Derived.Test.YtjhbbadljohadaaGreatDoorZ38
import Derived.Test.YtjhbbadljohadaaGreatDoorCards
import Derived.Test.YtjhbbadljohadaaGreatDoorTie
import Derived.SevenTiedAt
/-
  InferReplaces: for all arguments of bulk at most 1048576, where the package variable lexer.signs reads as start-up lays it (tied to the text), the statement returns true, and the arguments read as before.
-/
namespace Go.Proofs.YtjhbbadljohadaaGreatDoor
set_option maxRecDepth 100000
open Go Go.Slot Go.Hp Go.Hp.T Go.ChangeShapes Go.WideShapes Go.RowKit
theorem repl_sm (nm : ByteArray) (y : Ex) (hy : y.Sm) : ∀ x : Ex, x.Sm → (Ex.repl nm y x).Sm := by
  refine Ex.ind (fun x ih hx => ?_)
  rw [Ex.repl_eq]
  cases (decide (x.op = 1) && seq x.name nm) with
  | true => exact hy
  | false =>
    refine .mk _ (by show (x.args.map _).length ≤ _; rw [List.length_map]; exact hx.len) hx.u hx.s (fun z hz => ?_)
    obtain ⟨z', h1, rfl⟩ := List.mem_map.1 (show z ∈ x.args.map (Ex.repl nm y) from hz)
    exact ih z' h1 (hx.arg z' h1)
theorem inferReplaces_params : Tryz.f4.params = #[24, 24, 5, 25, 26] := by kernel_rfl
theorem inferReplaces_contract (H : Type) (enc : TypeId × Value → H) (W : World) (base : Nat) (args : Array Value) (ds gs : List (DataW H)) (before : List MemPlace)
    (hval : ∀ (j : Nat) t v, Tryz.f4.params[j]? = some t → args[j]? = some v → Value.okWide Tryz.prog W .any base t v)
    (hW : DataW.Whole enc Tryz.prog Tryz.f4.params.toList Rows.inferReplacesSpec.vars false W args.toList ds gs before) (hk : Rows.uptoSmall H (ds ++ gs) = true) (hl : laidMetH Tryz.prog laidL W) :
    Calls Tryz.prog 4 args W fun e W' => ∃ v, e = .returned v ∧ Rows.inferReplacesSpec.post enc Tryz.prog Tryz.f4 false true false false W args v W' := by
  have hW' := hW
  obtain ⟨p, q, hA0, hV, rfl, hfz, hnd⟩ := hW
  have hA : DataW.TrodAll enc Tryz.prog W 0 (fun _ => true) true Tryz.f4.params.toList args.toList ds p := hA0
  rw [inferReplaces_params] at hA hval
  obtain ⟨v0, v1, v2, v3, v4, d0, d1, d2, d3, d4, p0, p1, p2, p3, p4, rfl, rfl, rfl, h0, h1, h2, h3, h4⟩ := trodAll_five hA
  have hb := bulk_bound hk
  obtain ⟨x0, r0, s0⟩ := openEx (hval 0 _ v0 rfl rfl) h0 (hb d0 (by simp))
  obtain ⟨x1, r1, s1⟩ := openEx (hval 1 _ v1 rfl rfl) h1 (hb d1 (by simp))
  obtain ⟨x2, r2, s2⟩ := openU8 (hval 2 _ v2 rfl rfl) h2 (hb d2 (by simp))
  obtain ⟨x3, r3, s3⟩ := openVrs (hval 3 _ v3 rfl rfl) h3 (hb d3 (by simp))
  obtain ⟨x4, r4, s4⟩ := openTbs (hval 4 _ v4 rfl rfl) h4 (hb d4 (by simp))
  refine (ended (wReplaces x0 x1 x2 x3 x4 s0 s1 (fun nm => repl_sm nm x1 s1 x0 s0) s2.1 s2.2 (Nat.le_trans s3.1 (by decide)) (Nat.le_trans s4.1 (by decide)) s3.2 s4.2 (lawReplaces x0 x1 x3 x4)) (globOk hl) (vs := [v0, v1, v2, v3, v4]) ⟨r0, r1, r2, r3, r4, trivial⟩).mono fun e W' ⟨he, hbel⟩ => ?_
  refine ⟨_, he, law_post (P := Tryz.prog) (f := Tryz.f4) (s := Rows.inferReplacesSpec) (tb := 4) laid0 (by rw [inferReplaces_params]; decide +kernel) rfl (by kernel_rfl) Tryz.underlying4 (fun ds gs hds hgs => ?_) hW' hbel⟩
  subst hgs
  rw [inferReplaces_params] at hds
  obtain ⟨v0, v1, v2, v3, v4, d0, d1, d2, d3, d4, p0, p1, p2, p3, p4, _, rfl, _, _, _, _, _, _⟩ := trodAll_five hds
  exact ⟨rfl, rfl, rfl⟩
theorem inferReplaces_lifted (os : Os) (started : os.Started) (H : Type) (enc : TypeId × Value → H) (F : Stop.Interp) :
    ReturnsInHanded {} Tryz.checked os 4 .any ((Rows.OpenSpec.upto Rows.inferReplacesSpec).preRow enc Tryz.prog Tryz.f4 Rows.inferReplacesUptoRow.domain false laidL) (((Rows.OpenSpec.upto Rows.inferReplacesSpec).at F).post enc Tryz.prog Tryz.f4 false true false false) := by
  refine returnsInHanded_of_row (C := Tryz.checked) (s := Rows.OpenSpec.upto Rows.inferReplacesSpec) ownKnob0 started (by kernel_rfl) Tryz.func4
    (witness_door (enc := enc) (C := Tryz.checked) (s := Rows.OpenSpec.upto Rows.inferReplacesSpec) (k := Rows.uptoSmall) rfl false 14 #[zE, zE, .int .u8 0, .slice none 0 0, .slice none 0 0] 8 (World.shaped_of_RefB (by kernel_rfl) (by kernel_rfl)) (by kernel_rfl)
      (x := ([dE, dE, .lit (.int .u8 0), .nil, .nil], [], [])) (by kernel_rfl) rfl (by kernel_rfl) (by kernel_rfl) (door_met os _)) ?_
  intro W base args ds gs before hval hW _ hk _ hl _ _
  exact inferReplaces_contract H enc W base args ds gs before hval hW (hk _ rfl) hl
theorem inferReplaces_over : Rows.inferReplacesUptoRow.holds Tryz.pinned (Rows.OpenSpec.upto Rows.inferReplacesSpec) :=
  OpenClaim.holds_of_cond 4 Tryz.f4 rfl rfl rfl rfl rfl rfl rfl ⟨rfl, rfl, rfl, rfl, rfl⟩ rfl rfl rfl rfl rfl (by kernel_rfl) Tryz.func4 (by kernel_rfl)
    (of_decide_eq_true (by kernel_rfl)) (by unfold Func.isWrapper; first | (rw [if_pos (by decide +kernel)]; kernel_rfl) | (rw [if_neg (by decide +kernel)]; exact ⟨rfl, rfl⟩))
    (fun os started H enc _ F => by rw [OpenClaim.pre_eq_preRow]; exact inferReplaces_lifted os started H enc F)
theorem inferReplaces_holds : Rows.InferReplacesUptoCardSaid :=
  Claim7.holds_tied_plain_at .later [] [.data] true (true, "a29a41f324062f604455abc4ade03a896896e75212cae0bd9527bed103ef5564") false
    inferReplaces_over (fun _ h => by cases h) (by kernel_rfl) (fun _ h => by cases h) inferReplacesUpto_row_tie rfl ⟨rfl, rfl⟩ (by kernel_rfl) rfl
    (fun f fn hf hfn => by
      obtain rfl : f = 4 := Option.some.inj ((show Tryz.prog.funcNamed Rows.inferReplacesUptoRow.func = some 4 by kernel_rfl).symm.trans hf) |>.symm
      obtain rfl : fn = Tryz.f4 := (Option.some.inj (Tryz.func4.symm.trans hfn)).symm
      exact ⟨by kernel_rfl, fun j t ht => by
        rw [inferReplaces_params] at ht
        have hm : t ∈ [24, 24, 5, 25, 26] := by simpa using Array.mem_of_getElem? ht
        have hall : ([24, 24, 5, 25, 26].all fun u => !Tryz.prog.wantsStandIn u) = true := by kernel_rfl
        exact (show Tryz.prog.wantsStandIn t = false by simpa using List.all_eq_true.1 hall t hm)⟩)
    (by kernel_rfl)
end Go.Proofs.YtjhbbadljohadaaGreatDoor
