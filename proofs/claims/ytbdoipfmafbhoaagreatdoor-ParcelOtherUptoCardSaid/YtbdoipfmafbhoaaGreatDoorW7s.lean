/- Contracts: kitbaglaw28.same, called, cells. -/
import Derived.Test.YtbdoipfmafbhoaaGreatDoorW7r
import Derived.Test.YtbdoipfmafbhoaaGreatDoorW37
/- Contracts: kitbaglaw28.same, called, cells. -/
namespace Go.Hp.T
open Go Go.RowKit Go.Slot Go.Hp Go.Slot.T
open Go.Proofs.Tryz (prog)
attribute [local irreducible] hide RH
set_option maxRecDepth 10000
set_option maxHeartbeats 8000000
variable {Γ : List (Nat × List Cell)}
theorem CallsD.uz1 {f : FuncId} {args : List AV} {n : Nat} {rows : List (List Cell)} (k : Nat) (h : CallsD Γ prog f args (.one (.sl n rows))) : CallsD Γ prog f args (.one (.sl n (uzLL k rows))) :=
  ⟨h.1, fun M w vs hM hg hr => (h.2 M w vs hM hg hr).mono (fun _ _ ⟨v, h1, h2, h3, h4⟩ => by
    have h3' : RdC M _ v (.sl n rows) := h3
    have h5 := RdC.uz k h3'
    rw [Go.Hp.uz] at h5
    exact ⟨v, h1, h2, h5, fun hh => by cases hh⟩)⟩
theorem cSame (l : List Int) (hl : l.length ≤ 1073741824) : CallsD Γ prog 12 [.one (.ints .i64 l), .one (.ints .i64 l)] (.one (cB true)) := by
  refine CallsD.run [] Go.Proofs.Tryz.func12 rfl rfl rfl ?_; simp only [Go.Proofs.Tryz.f12]; refine hgR ?_
  repeat' ((first | refine hfk ?_ ?_ <;> intros | refine hik ?_) <;> refine hgS ?_)
  refine wwt [0, 1] (fun i : Nat => [(5, .one (.dat (cI i)))]) (fun _ => []) (fun i => i ≤ l.length) (fun i => l.length - i) 0 (Nat.zero_le _) ?_ ?_
  · refine hg ?_
    exact StH.same svl rfl
  intro i hi
  refine hg ?_
  refine zcl (fun hlt _ => ?_) (fun hlt _ => ?_)
  · have hlt' : i < l.length := by omega
    refine hg ?_
    repeat' ((first | refine hfk ?_ ?_ <;> intros | refine hik ?_) <;> refine hgS ?_)
    exact ⟨i + 1, by omega, by omega, StH.same svl rfl⟩
  · refine hg ?_
    repeat' ((first | refine hfk ?_ ?_ <;> intros | refine hik ?_) <;> refine hgS ?_)
    exact RLe.ofEq rfl
theorem pfx_eq : ({ data := #[120, 95] } : ByteArray) = pfx := rfl
theorem cCalled (l : List ByteArray) (hl : l.length ≤ 1073741824) (hs : ∀ s ∈ l, s.size ≤ 1073741824) : CallsD Γ prog 22 [.one (xan l)] (.one (xan (cal l))) := by
  unfold cal
  refine CallsD.run [] Go.Proofs.Tryz.func22 rfl rfl rfl ?_; simp only [Go.Proofs.Tryz.f22]; refine hgR ?_
  repeat' ((first | refine hfk ?_ ?_ <;> intros | refine hik ?_) <;> refine hgS ?_)
  refine wwt [0] (fun p : Nat × List ByteArray => [(3, .one (.sl 0 1 0 p.2.length)), (4, .one (.dat (cI p.1)))]) (fun p => [.arr (xan p.2) 0 (some 9)])
    (fun p => p.1 ≤ l.length ∧ p.2 = (l.take p.1).map fun s => pfx ++ s) (fun p => l.length - p.1) (0, []) ⟨Nat.zero_le _, by simp⟩ ?_ ?_
  · refine hg ?_
    refine StH.trans (StH.empty (d := 3) (es := 1) (c := .sl 1 []) (T := some 9) rfl rfl (fun r hr => by cases hr) rfl) ?_
    refine hg ?_
    exact StH.same svl rfl
  rintro ⟨i, acc⟩ ⟨hi, ha⟩
  dsimp only at hi ha
  have hal : acc.length ≤ 1073741824 := by rw [ha]; simp; omega
  refine hg ?_
  refine zcl (fun hlt _ => ?_) (fun hlt _ => ?_)
  · have hlt' : i < l.length := by omega
    have hz := hs _ (wax hlt')
    have l1 : (pfx.size + (l.getD i default).size ≤ 9223372036854775807) = True := eq_true (by rw [show pfx.size = 2 from rfl]; omega)
    refine hg2 @pfx_eq @l1 ?_
    repeat' ((first | refine hfk ?_ ?_ <;> intros | refine hik ?_) <;> refine hgS ?_)
    refine ⟨(i + 1, acc ++ [pfx ++ l.getD i default]), ⟨by dsimp only; omega, ?_⟩, by dsimp only; omega, ?_⟩
    · dsimp only
      rw [ha, List.take_succ_eq_append_getElem hlt', List.getD_eq_getElem?_getD, List.getElem?_eq_getElem hlt', List.map_append]
      simp
    refine StH.back [0, 3, 4] 0 1 1 rfl rfl rfl rfl rfl (by kernel_rfl) ?_
    simp only [List.map_append, List.map_cons, List.map_nil]
    conv => simp (maxSteps := 2000000) (disch := omega) only [go_sem, Nat.reduceAdd, Nat.reduceSub, Nat.reduceMul, Int.reduceToNat, Nat.reduceEqDiff, Nat.reduceBEq, Nat.reduceBneDiff, Nat.reduceLT, Int.reduceEq, Int.reduceLT, Int.reduceLE, Int.reduceNeg, Int.reduceAdd, Int.reduceSub, Int.reduceMul, List.length_append, List.length_singleton]
    exact StH.same svl (by simp only [xan, List.map_append, List.map_cons, List.map_nil]; rfl)
  rw [List.take_of_length_le (show l.length ≤ i by omega)] at ha
  rw [← ha]
  clear ha hlt hi hs
  refine hg ?_
  repeat' ((first | refine hfk ?_ ?_ <;> intros | refine hik ?_) <;> refine hgS ?_)
  exact RLe.ofEq rfl
theorem any_take {α : Type} [Inhabited α] {p : α → Bool} {l : List α} {i : Nat} (h : i < l.length) : (l.take (i + 1)).any p = ((l.take i).any p || p (l.getD i default)) := by
  rw [List.take_succ_eq_append_getElem h, List.any_append, List.getD_eq_getElem?_getD, List.getElem?_eq_getElem h]
  simp
def celZ (c : Cel) : List Cell := [cS c.name, cS c.unit, cI 0, cI 0, cS ⟨#[]⟩, cS ⟨#[]⟩, .zc]
theorem cCells0 (s : Sht) (x : Rcp) (hs : s.Sm) (hxl : x.steps.length ≤ 1073741824) (hx : ∀ y ∈ x.steps, y.Sm) : CallsD Γ prog 23 [.agg (shtC s), .agg (rcpC x)] (.one (.sl 7 ((s.cells.filter (keepC x)).map celZ))) := by
  have hcl := hs.cl
  clear hs
  refine CallsD.run [] Go.Proofs.Tryz.func23 rfl rfl rfl ?_; simp only [Go.Proofs.Tryz.f23]; refine hgR ?_
  repeat' ((first | refine hfk ?_ ?_ <;> intros | refine hik ?_) <;> refine hgS ?_)
  refine wwt [2, 3] (fun p : Nat × List Cel => [(5, .one (.sl 2 7 0 p.2.length)), (6, .one (.dat (cI p.1)))]) (fun p => [.box ((shtC s).map .dat) (some 31), .box ((rcpC x).map .dat) (some 43), .arr (.sl 7 (p.2.map celZ)) 0 (some 76)])
    (fun p => p.1 ≤ s.cells.length ∧ p.2 = (s.cells.take p.1).filter (keepC x)) (fun p => s.cells.length - p.1) (0, []) ⟨Nat.zero_le _, by simp⟩ ?_ ?_
  · refine hg ?_
    refine StH.trans (StH.empty (d := 5) (es := 7) (c := .sl 7 []) (T := some 76) rfl rfl (fun r hr => by cases hr) rfl) ?_
    refine hg ?_
    exact StH.same svl rfl
  rintro ⟨i, acc⟩ ⟨hi, ha⟩
  dsimp only at hi ha
  have hal : acc.length ≤ 1073741824 := by
    rw [ha]
    exact Nat.le_trans (List.length_filter_le _ _) (by simp; omega)
  refine hg ?_
  refine zcl (fun hlt _ => ?_) (fun hlt _ => ?_)
  · have hlt' : i < s.cells.length := by omega
    have hf : (s.cells.take (i + 1)).filter (keepC x) = (s.cells.take i).filter (keepC x) ++ bif keepC x (s.cells.getD i default) then [s.cells.getD i default] else [] := by
      rw [List.take_succ_eq_append_getElem hlt', List.filter_append, List.getD_eq_getElem?_getD, List.getElem?_eq_getElem hlt']
      simp only [Option.getD_some]
      cases hq : keepC x s.cells[i] <;> simp [hq]
    rw [← ha] at hf
    clear ha
    refine hg ?_
    refine wwt [2, 3, 5, 6] (fun z : Nat × Bool => [(7, .one (.dat (cB z.2))), (8, .one (.dat (cI z.1)))]) (fun _ => [.box ((shtC s).map .dat) (some 31), .box ((rcpC x).map .dat) (some 43), .arr (.sl 7 (acc.map celZ)) 0 (some 76)])
      (fun z => z.1 ≤ x.steps.length ∧ (x.steps.take z.1).any (fun y => decide (0 < (cntS y.cells (s.cells.getD i default).name : Int))) = z.2) (fun z => x.steps.length - z.1) (0, false) ⟨Nat.zero_le _, by simp⟩ ?_ ?_
    · refine hg ?_
      exact StH.same svl rfl
    rintro ⟨k, z⟩ ⟨hk1, hk2⟩
    dsimp only at hk1 hk2
    refine hg ?_
    refine zcl (fun hlt2 _ => ?_) (fun hlt2 _ => ?_)
    · have hlt2' : k < x.steps.length := by omega
      have hn : (x.steps.take (k + 1)).any (fun y => decide (0 < (cntS y.cells (s.cells.getD i default).name : Int))) = (z || decide (0 < (cntS (x.steps.getD k default).cells (s.cells.getD i default).name : Int))) := by
        rw [any_take hlt2', hk2]
      have cc := ywy (Γ := Γ) (x.steps.getD k default).cells (s.cells.getD i default).name (hx _ (wax hlt2')).cl
      generalize cntS (x.steps.getD k default).cells (s.cells.getD i default).name = q at *
      clear hk2 hf hx
      cases z with
      | true =>
        rw [Bool.true_or] at hn
        refine hg ?_
        repeat' ((first | refine hfk ?_ ?_ <;> intros | refine hik ?_) <;> refine hgS ?_)
        all_goals exact ⟨(k + 1, true), ⟨by dsimp only; omega, hn⟩, by dsimp only; omega, StH.same svl rfl⟩
      | false =>
        rw [Bool.false_or] at hn
        refine hg ?_
        repeat' ((first | refine hfk ?_ ?_ <;> intros | refine hik ?_ | with_reducible first | refine y5k (cc) ?_ | refine x4p (cc) ?_) <;> refine hgS ?_)
        all_goals exact ⟨(k + 1, decide (0 < (q : Int))), ⟨by dsimp only; omega, hn⟩, by dsimp only; omega, StH.same svl rfl⟩
    have hkz : keepC x (s.cells.getD i default) = z := by
      unfold keepC
      rw [← hk2, List.take_of_length_le (show x.steps.length ≤ k by omega)]
    rw [hkz] at hf
    clear hkz hk2 hx
    cases z with
    | true =>
      rw [cond_true] at hf
      refine hg ?_
      repeat' ((first | refine hfk ?_ ?_ <;> intros | refine hik ?_) <;> refine hgS ?_)
      refine ⟨(i + 1, acc ++ [s.cells.getD i default]), ⟨by dsimp only; omega, hf.symm⟩, by dsimp only; omega, ?_⟩
      refine StH.back [2, 3, 5, 6] 2 3 3 rfl rfl rfl rfl rfl (by kernel_rfl) ?_
      simp only [List.map_append, List.map_cons, List.map_nil]
      conv => simp (maxSteps := 2000000) (disch := omega) only [go_sem, Nat.reduceAdd, Nat.reduceSub, Nat.reduceMul, Int.reduceToNat, Nat.reduceEqDiff, Nat.reduceBEq, Nat.reduceBneDiff, Nat.reduceLT, Int.reduceEq, Int.reduceLT, Int.reduceLE, Int.reduceNeg, Int.reduceAdd, Int.reduceSub, Int.reduceMul, List.length_append, List.length_singleton]
      exact StH.same svl rfl
    | false =>
      rw [cond_false, List.append_nil] at hf
      refine hg ?_
      repeat' ((first | refine hfk ?_ ?_ <;> intros | refine hik ?_) <;> refine hgS ?_)
      exact ⟨(i + 1, acc), ⟨by dsimp only; omega, hf.symm⟩, by dsimp only; omega, StH.same svl rfl⟩
  rw [List.take_of_length_le (show s.cells.length ≤ i by omega)] at ha
  rw [← ha]
  clear ha hlt hi hx
  refine hg ?_
  repeat' ((first | refine hfk ?_ ?_ <;> intros | refine hik ?_) <;> refine hgS ?_)
  exact RLe.ofEq rfl
theorem cCells (s : Sht) (x : Rcp) (hs : s.Sm) (hxl : x.steps.length ≤ 1073741824) (hx : ∀ y ∈ x.steps, y.Sm) : CallsD Γ prog 23 [.agg (shtC s), .agg (rcpC x)] (.one (.sl 7 ((cellsO s x).map Cel.C))) := by
  have h := CallsD.uz1 5 (cCells0 (Γ := Γ) s x hs hxl hx)
  rw [yx3, List.map_map] at h
  unfold cellsO
  rw [List.map_map]
  exact h
end Go.Hp.T
