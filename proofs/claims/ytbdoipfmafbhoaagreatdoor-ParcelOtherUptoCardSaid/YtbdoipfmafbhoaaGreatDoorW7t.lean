/- Walk: kitbaglaw28.ParcelOther. -/
import Derived.Test.YtbdoipfmafbhoaaGreatDoorW7s
/- Walk: kitbaglaw28.ParcelOther. -/
namespace Go.Hp.T
open Go Go.RowKit Go.Slot Go.Hp Go.Slot.T
open Go.Proofs.Tryz (prog)
attribute [local irreducible] hide RH
set_option maxRecDepth 10000
set_option maxHeartbeats 8000000
variable {Γ : List (Nat × List Cell)}
theorem few_step {s : Sht} (h : fewS s = true) {x : Rcp} (hx : x ∈ s.recipes) {y : Stp} (hy : y ∈ x.steps) : (∀ p ∈ y.inn, p.size ≤ 60) ∧ ∀ p ∈ y.out, p.size ≤ 60 := by
  unfold fewS at h
  simp only [Bool.and_eq_true] at h
  have h1 := List.all_eq_true.1 h.2.1 x hx
  unfold okR zp1 at h1
  simp only [Bool.and_eq_true] at h1
  have h2 := List.all_eq_true.1 h1.1.2 y hy
  unfold zto wa5 at h2
  simp only [Bool.and_eq_true] at h2
  refine ⟨fun p hp => ?_, fun p hp => ?_⟩
  · have := List.all_eq_true.1 h2.1.2 p hp
    unfold sz60 at this
    have := of_decide_eq_true this
    omega
  · have := List.all_eq_true.1 h2.2.1.2 p hp
    unfold sz60 at this
    have := of_decide_eq_true this
    omega
theorem cal_sz {l : List ByteArray} (h : ∀ p ∈ l, p.size ≤ 60) : ∀ p ∈ cal l, p.size ≤ 1073741824 := fun p hp => by
  obtain ⟨q, hq, rfl⟩ := List.mem_map.1 hp
  have := h q hq
  rw [ByteArray.size_append, show pfx.size = 2 from rfl]
  omega
theorem oth_sm {s : Sht} {x : Rcp} (hs : s.Sm) (hf : fewS s = true) (hx : x ∈ s.recipes) : (othS s x).Sm := by
  have hr := hs.r x hx
  obtain ⟨h1, h2, h3, h4, h5, h6, h7, h8, h9, i, n, t, f, c, p, o, rr⟩ := hs
  refine ⟨show (5 : Nat) ≤ 1073741824 by decide, h2, Nat.le_trans (List.length_filter_le _ _) h3, show (0 : Nat) ≤ 1073741824 by decide, show (0 : Nat) ≤ 1073741824 by decide, ?_, h7, h8, show (1 : Nat) ≤ 1073741824 by decide, i, fun y hy => n y (List.mem_filter.1 hy).1, fun y hy => (by cases hy), fun y hy => (by cases hy), fun y hy => ?_, p, o, fun y hy => ?_⟩
  · show ((s.cells.filter (keepC x)).map cellO).length ≤ _
    rw [List.length_map]
    exact Nat.le_trans (List.length_filter_le _ _) h6
  · obtain ⟨z, hz, rfl⟩ := List.mem_map.1 hy
    have hz' := c z (List.mem_filter.1 hz).1
    exact ⟨hz'.1, hz'.2.1, .mk _ (show (0 : Nat) ≤ 1073741824 by decide) (show (0 : Nat) ≤ 1073741824 by decide) (show (0 : Nat) ≤ 1073741824 by decide) (fun w hw => by cases hw)⟩
  · have ey : y = ⟨x.kind, x.steps.map calS⟩ := by simpa [othS] using hy
    subst ey
    refine ⟨hr.1, by rw [List.length_map]; exact hr.2.1, fun z hz => ?_⟩
    obtain ⟨w, hw, rfl⟩ := List.mem_map.1 hz
    have a := hr.2.2 w hw
    have b := few_step hf hx hw
    exact ⟨by show (cal w.inn).length ≤ _; unfold cal; rw [List.length_map]; exact a.il, by show (cal w.out).length ≤ _; unfold cal; rw [List.length_map]; exact a.ol, a.cl, cal_sz b.1, cal_sz b.2, a.c, a.n⟩
abbrev othC (s : Sht) (x : Rcp) : List Cell := [cS ⟨#[111, 116, 104, 101, 114]⟩, .sl 6 (s.imports.map Imp.C), .sl 3 ((s.inputs.filter (keepI x)).map Inp.C), .sl 3 [], .sl 7 [], .sl 7 ((cellsO s x).map Cel.C), .sl 3 (s.ports.map Por.C), .sl 3 (s.stores.map Sto.C), .sl 2 [[cS x.kind, .sl 6 ((x.steps.map calS).map Stp.C)]]]
theorem wParcelOther (hG : x7m Γ 0 = .elt sgC) (s : Sht) (r : Int) (hs : s.Sm) : CallsD Γ prog 7 [.agg (shtC s), .one (cI r)] (.one (cB true)) := by
  have c0 := vru (Γ := Γ) hG
  have c1 := wch (Γ := Γ) s hs
  have cr := xqo (Γ := Γ) s hs
  have c2 := zbj (Γ := Γ) s r hs
  have c3 := zvm (Γ := Γ) s r hs
  have hrl := hs.rl
  by_cases hin : y4x s = true ∧ 0 ≤ r ∧ r < s.recipes.length
  · obtain ⟨hR, h0, h1⟩ := hin
    have law := other_law hR h0 h1
    have hrn : r.toNat < s.recipes.length := by omega
    have hmem := wax hrn
    have hx := hs.r _ hmem
    have hsm := fun h => oth_sm hs h hmem
    have cr' := fun h => xqo (Γ := Γ) _ (hsm h)
    have c2' := fun h => zbj (Γ := Γ) _ 0 (hsm h)
    have c3' := fun h => zvm (Γ := Γ) _ 0 (hsm h)
    have cc := cCells (Γ := Γ) s (s.recipes.getD r.toNat default) hs hx.2.1 hx.2.2
    have ct := fun w => zpr (Γ := Γ) (s.recipes.getD r.toNat default).steps 0 w hx.2.1
    have hil := hs.nl
    have hxl := hx.2.1
    have hcal : ∀ y ∈ (s.recipes.getD r.toNat default).steps, CallsD Γ prog 22 [.one (xan y.inn)] (.one (xan (cal y.inn))) ∧ CallsD Γ prog 22 [.one (xan y.out)] (.one (xan (cal y.out))) := fun y hy => ⟨cCalled _ (hx.2.2 y hy).il (hx.2.2 y hy).i, cCalled _ (hx.2.2 y hy).ol (hx.2.2 y hy).o⟩
    have hbl : (z4k s r).2.2.length ≤ 1073741824 := by
      have sp := xmt s r
      generalize z4k s r = k at *
      cases sp <;> simp
    have csm := cSame (Γ := Γ) _ hbl
    rw [hR] at cr
    clear hsm hx hR
    cases hfew : fewS s with
    | false =>
      rw [hfew] at c1
      refine CallsD.run [] Go.Proofs.Tryz.func7 rfl rfl rfl ?_; simp only [Go.Proofs.Tryz.f7]; refine hgR ?_
      repeat' ((first | refine hfk ?_ ?_ <;> intros | refine hik ?_ | with_reducible first | refine y5k (c0) ?_ | refine x4p (c0) ?_ | refine y5k (c1) ?_ | refine x4p (c1) ?_) <;> refine hgS ?_)
      all_goals exact RLe.ofEq rfl
    | true =>
      rw [hfew] at c1
      have cr' := cr' hfew
      have c2' := c2' hfew
      have c3' := c3' hfew
      clear hfew
      refine CallsD.run [] Go.Proofs.Tryz.func7 rfl rfl rfl ?_; simp only [Go.Proofs.Tryz.f7]; refine hgR ?_
      repeat' ((first | refine hfk ?_ ?_ <;> intros | refine hik ?_ | with_reducible first | refine y5k (c0) ?_ | refine x4p (c0) ?_ | refine y5k (c1) ?_ | refine x4p (c1) ?_ | refine y5k (cr) ?_ | refine x4p (cr) ?_) <;> refine hgS ?_)
      all_goals try (exfalso; omega)
      clear c0 c1 cr
      refine wwt [1, 2, 5, 6, 7] (fun p : Nat × List Stp => [(8, .one (.dat (cI p.1)))]) (fun p => [.box ((shtC s).map .dat) (some 31), .box ((rcpC (s.recipes.getD r.toNat default)).map .dat) (some 43), .box [.dat (cS (s.recipes.getD r.toNat default).kind), .sl 3 6 0 p.2.length] (some 43), .arr (.sl 6 (p.2.map Stp.C)) 0 (some 50)])
        (fun p => p.1 ≤ (s.recipes.getD r.toNat default).steps.length ∧ p.2 = ((s.recipes.getD r.toNat default).steps.take p.1).map calS) (fun p => (s.recipes.getD r.toNat default).steps.length - p.1) (0, []) ⟨Nat.zero_le _, by simp⟩ ?_ ?_
      · refine hg ?_
        refine StH.trans (StH.xeu 2 1 (es := 6) (c := .sl 6 []) (T := some 50) rfl rfl rfl (fun r hr => by cases hr) rfl) ?_
        refine hg ?_
        exact StH.same svl rfl
      rintro ⟨i, acc⟩ ⟨hi, ha⟩
      dsimp only at hi ha
      have hal : acc.length ≤ 1073741824 := by rw [ha]; simp; omega
      refine hg ?_
      refine zcl (fun hlt _ => ?_) (fun hlt _ => ?_)
      · have hlt' : i < (s.recipes.getD r.toNat default).steps.length := by omega
        obtain ⟨k1, k2⟩ := hcal _ (wax hlt')
        have ha' : acc ++ [calS ((s.recipes.getD r.toNat default).steps.getD i default)] = ((s.recipes.getD r.toNat default).steps.take (i + 1)).map calS := by
          rw [ha, x1q hlt', List.map_append]
          rfl
        clear law cr' c2' c3' cc ct csm hcal c2 c3 ha
        refine hg ?_
        repeat' ((first | refine hfk ?_ ?_ <;> intros | refine hik ?_ | with_reducible first | refine y5k (k1) ?_ | refine x4p (k1) ?_ | refine y5k (k2) ?_ | refine x4p (k2) ?_) <;> refine hgS ?_)
        refine ⟨(i + 1, acc ++ [calS ((s.recipes.getD r.toNat default).steps.getD i default)]), ⟨by dsimp only; omega, ha'⟩, by dsimp only; omega, ?_⟩
        refine StH.back [1, 2, 5, 6, 7, 8] 3 5 4 rfl rfl rfl rfl rfl (by kernel_rfl) ?_
        simp only [List.map_append, List.map_cons, List.map_nil]
        conv => simp (maxSteps := 2000000) (disch := omega) only [go_sem, Nat.reduceAdd, Nat.reduceSub, Nat.reduceMul, Int.reduceToNat, Nat.reduceEqDiff, Nat.reduceBEq, Nat.reduceBneDiff, Nat.reduceLT, Int.reduceEq, Int.reduceLT, Int.reduceLE, Int.reduceNeg, Int.reduceAdd, Int.reduceSub, Int.reduceMul, List.length_append, List.length_singleton]
        exact StH.same svl rfl
      rw [List.take_of_length_le (show (s.recipes.getD r.toNat default).steps.length ≤ i by omega)] at ha
      subst ha
      clear hcal hlt hi
      refine hg ?_
      repeat' ((first | refine hfk ?_ ?_ <;> intros | refine hik ?_ | with_reducible first | refine y5k (cc) ?_ | refine x4p (cc) ?_) <;> refine hgS ?_)
      clear cc
      refine wwt [1, 2, 5, 6, 10] (fun p : Nat × List Inp => [(11, .one (.dat (cI p.1)))]) (fun p => [.box ((shtC s).map .dat) (some 31), .box ((rcpC (s.recipes.getD r.toNat default)).map .dat) (some 43), .box [.dat (cS (s.recipes.getD r.toNat default).kind), .sl 3 6 0 (s.recipes.getD r.toNat default).steps.length] (some 43), .arr (.sl 6 (((s.recipes.getD r.toNat default).steps.map calS).map Stp.C)) ((s.recipes.getD r.toNat default).steps.length * 6) (some 50),
          .box [.dat (cS ⟨#[111, 116, 104, 101, 114]⟩), .dat (.sl 6 (s.imports.map Imp.C)), .sl 5 3 0 p.2.length, .sl 6 3 0 0, .sl 7 7 0 0, .dat (.sl 7 ((cellsO s (s.recipes.getD r.toNat default)).map Cel.C)), .dat (.sl 3 (s.ports.map Por.C)), .dat (.sl 3 (s.stores.map Sto.C)), .dat (.sl 2 [[cS (s.recipes.getD r.toNat default).kind, .sl 6 (((s.recipes.getD r.toNat default).steps.map calS).map Stp.C)]])] (some 31),
          .arr (.sl 3 (p.2.map Inp.C)) 0 (some 58), .arr (.sl 3 []) 0 (some 65), .arr (.sl 7 []) 0 (some 71)])
        (fun p => p.1 ≤ s.inputs.length ∧ p.2 = (s.inputs.take p.1).filter (keepI (s.recipes.getD r.toNat default))) (fun p => s.inputs.length - p.1) (0, []) ⟨Nat.zero_le _, by simp⟩ ?_ ?_
      · refine hg ?_
        refine StH.trans (StH.xeu 4 2 (es := 3) (c := .sl 3 []) (T := some 58) rfl rfl rfl (fun r hr => by cases hr) rfl) ?_
        refine hg ?_
        refine StH.trans (StH.xeu 4 3 (es := 3) (c := .sl 3 []) (T := some 65) rfl rfl rfl (fun r hr => by cases hr) rfl) ?_
        refine hg ?_
        refine StH.trans (StH.xeu 4 4 (es := 7) (c := .sl 7 []) (T := some 71) rfl rfl rfl (fun r hr => by cases hr) rfl) ?_
        refine hg ?_
        exact StH.same svl rfl
      rintro ⟨j, acc⟩ ⟨hj, ha⟩
      dsimp only at hj ha
      have hal : acc.length ≤ 1073741824 := by
        rw [ha]
        exact Nat.le_trans (List.length_filter_le _ _) (by simp; omega)
      refine hg ?_
      refine zcl (fun hlt _ => ?_) (fun hlt _ => ?_)
      · have hlt' : j < s.inputs.length := by omega
        have hf : (s.inputs.take (j + 1)).filter (keepI (s.recipes.getD r.toNat default)) = acc ++ bif keepI (s.recipes.getD r.toNat default) (s.inputs.getD j default) then [s.inputs.getD j default] else [] := by
          rw [x1q hlt', List.filter_append, ← ha, List.filter_cons]
          cases keepI (s.recipes.getD r.toNat default) (s.inputs.getD j default) <;> rfl
        have ct := ct (s.inputs.getD j default).name
        unfold keepI at hf
        clear ha law cr' c2' c3' csm c2 c3
        cases hq : seq (s.inputs.getD j default).kind (s.recipes.getD r.toNat default).kind with
        | true =>
          rw [hq, Bool.true_or, cond_true] at hf
          clear ct
          refine hg1 @hq ?_
          repeat' ((first | refine hfk ?_ ?_ <;> intros | refine hik ?_) <;> refine hgS ?_)
          refine ⟨(j + 1, acc ++ [s.inputs.getD j default]), ⟨by dsimp only; omega, hf.symm⟩, by dsimp only; omega, ?_⟩
          refine StH.back [1, 2, 5, 6, 10, 11] 5 8 8 rfl rfl rfl rfl rfl (by kernel_rfl) ?_
          simp only [List.map_append, List.map_cons, List.map_nil]
          conv => simp (maxSteps := 2000000) (disch := omega) only [go_sem, Nat.reduceAdd, Nat.reduceSub, Nat.reduceMul, Int.reduceToNat, Nat.reduceEqDiff, Nat.reduceBEq, Nat.reduceBneDiff, Nat.reduceLT, Int.reduceEq, Int.reduceLT, Int.reduceLE, Int.reduceNeg, Int.reduceAdd, Int.reduceSub, Int.reduceMul, List.length_append, List.length_singleton]
          exact StH.same svl rfl
        | false =>
          rw [hq, Bool.false_or] at hf
          generalize xwf (s.recipes.getD r.toNat default).steps 0 (s.inputs.getD j default).name = q at *
          by_cases hq0 : 0 < (q : Int)
          · rw [decide_eq_true hq0, cond_true] at hf
            refine hg1 @hq ?_
            repeat' ((first | refine hfk ?_ ?_ <;> intros | refine hik ?_ | with_reducible first | refine y5k (ct) ?_ | refine x4p (ct) ?_) <;> refine hgS ?_)
            all_goals try (exfalso; omega)
            refine ⟨(j + 1, acc ++ [s.inputs.getD j default]), ⟨by dsimp only; omega, hf.symm⟩, by dsimp only; omega, ?_⟩
            refine StH.back [1, 2, 5, 6, 10, 11] 5 8 8 rfl rfl rfl rfl rfl (by kernel_rfl) ?_
            simp only [List.map_append, List.map_cons, List.map_nil]
            conv => simp (maxSteps := 2000000) (disch := omega) only [go_sem, Nat.reduceAdd, Nat.reduceSub, Nat.reduceMul, Int.reduceToNat, Nat.reduceEqDiff, Nat.reduceBEq, Nat.reduceBneDiff, Nat.reduceLT, Int.reduceEq, Int.reduceLT, Int.reduceLE, Int.reduceNeg, Int.reduceAdd, Int.reduceSub, Int.reduceMul, List.length_append, List.length_singleton]
            exact StH.same svl rfl
          · rw [decide_eq_false hq0, cond_false, List.append_nil] at hf
            refine hg1 @hq ?_
            repeat' ((first | refine hfk ?_ ?_ <;> intros | refine hik ?_ | with_reducible first | refine y5k (ct) ?_ | refine x4p (ct) ?_) <;> refine hgS ?_)
            all_goals try (exfalso; omega)
            exact ⟨(j + 1, acc), ⟨by dsimp only; omega, hf.symm⟩, by dsimp only; omega, StH.same svl rfl⟩
      rw [List.take_of_length_le (show s.inputs.length ≤ j by omega)] at ha
      subst ha
      have cr2 : CallsD Γ prog 15 [.agg (othC s (s.recipes.getD r.toNat default))] (.one (cB (y4x (othS s (s.recipes.getD r.toNat default))))) := cr'
      have k2 : CallsD Γ prog 10 [.agg (othC s (s.recipes.getD r.toNat default)), .one (cI 0)] _ := c2'
      have k3 : CallsD Γ prog 13 [.agg (othC s (s.recipes.getD r.toNat default)), .one (cI 0)] _ := c3'
      clear cr' c2' c3' ct hlt hj
      generalize y4x (othS s (s.recipes.getD r.toNat default)) = q at *
      cases q with
      | false =>
        clear law k2 k3 c2 c3 csm
        refine hg ?_
        repeat' ((first | refine hfk ?_ ?_ <;> intros | refine hik ?_ | with_reducible first | refine y5k (cr2) ?_ | refine x4p (cr2) ?_) <;> refine hgS ?_)
        exact RLe.ofEq rfl
      | true =>
        rw [law rfl] at k2 k3
        generalize z4k s r = k at *
        obtain ⟨e, a, bl⟩ := k
        dsimp only at c2 c3 k2 k3 csm hbl
        clear law
        refine hg ?_
        repeat' ((first | refine hfk ?_ ?_ <;> intros | refine hik ?_ | with_reducible first | refine y5k (cr2) ?_ | refine x4p (cr2) ?_ | refine y5k (c2) ?_ | refine x4p (c2) ?_ | refine y5k (k2) ?_ | refine x4p (k2) ?_ | refine y5k (c3) ?_ | refine x4p (c3) ?_ | refine y5k (k3) ?_ | refine x4p (k3) ?_ | refine y5k (csm) ?_ | refine x4p (csm) ?_) <;> refine hgS ?_)
        all_goals exact RLe.ofEq rfl
  · have hn : ∀ b, y4x s = b → b = true → ¬ (0 ≤ r ∧ r < s.recipes.length) := fun b e e' h => hin ⟨e.trans e', h⟩
    generalize y4x s = q at *
    have hn := hn q rfl
    generalize fewS s = b at *
    clear hin hs c2 c3
    cases q with
    | true =>
      have hn := hn rfl
      cases b with
      | true =>
        refine CallsD.run [] Go.Proofs.Tryz.func7 rfl rfl rfl ?_; simp only [Go.Proofs.Tryz.f7]; refine hgR ?_
        repeat' ((first | refine hfk ?_ ?_ <;> intros | refine hik ?_ | with_reducible first | refine y5k (c0) ?_ | refine x4p (c0) ?_ | refine y5k (c1) ?_ | refine x4p (c1) ?_ | refine y5k (cr) ?_ | refine x4p (cr) ?_) <;> refine hgS ?_)
        all_goals first | (exfalso; omega) | exact RLe.ofEq rfl
      | false =>
        refine CallsD.run [] Go.Proofs.Tryz.func7 rfl rfl rfl ?_; simp only [Go.Proofs.Tryz.f7]; refine hgR ?_
        repeat' ((first | refine hfk ?_ ?_ <;> intros | refine hik ?_ | with_reducible first | refine y5k (c0) ?_ | refine x4p (c0) ?_ | refine y5k (c1) ?_ | refine x4p (c1) ?_ | refine y5k (cr) ?_ | refine x4p (cr) ?_) <;> refine hgS ?_)
        all_goals first | (exfalso; omega) | exact RLe.ofEq rfl
    | false =>
      clear hn
      cases b with
      | true =>
        refine CallsD.run [] Go.Proofs.Tryz.func7 rfl rfl rfl ?_; simp only [Go.Proofs.Tryz.f7]; refine hgR ?_
        repeat' ((first | refine hfk ?_ ?_ <;> intros | refine hik ?_ | with_reducible first | refine y5k (c0) ?_ | refine x4p (c0) ?_ | refine y5k (c1) ?_ | refine x4p (c1) ?_ | refine y5k (cr) ?_ | refine x4p (cr) ?_) <;> refine hgS ?_)
        all_goals first | (exfalso; omega) | exact RLe.ofEq rfl
      | false =>
        refine CallsD.run [] Go.Proofs.Tryz.func7 rfl rfl rfl ?_; simp only [Go.Proofs.Tryz.f7]; refine hgR ?_
        repeat' ((first | refine hfk ?_ ?_ <;> intros | refine hik ?_ | with_reducible first | refine y5k (c0) ?_ | refine x4p (c0) ?_ | refine y5k (c1) ?_ | refine x4p (c1) ?_ | refine y5k (cr) ?_ | refine x4p (cr) ?_) <;> refine hgS ?_)
        all_goals first | (exfalso; omega) | exact RLe.ofEq rfl
end Go.Hp.T
