/- Law 19: AffineConstant: the walk. -/
import Derived.Test.YtpkininnjhbeaaaGreatDoorX36
import Derived.Test.YtpkininnjhbeaaaGreatDoorX35
/- Law 19: AffineConstant: the walk. -/
namespace Go.Hp.T
open Go Go.RowKit Go.Slot Go.Hp Go.Slot.T
open Go.Proofs.Tryz (prog)
set_option maxRecDepth 100000
set_option maxHeartbeats 8000000
attribute [local irreducible] hide
theorem CallsD.argUz {Γ : List (Nat × List Cell)} {f : FuncId} {a b : AV} {c c' : Cell} {res : AV} (k : Nat) (h : CallsD Γ prog f [a, .one c', b] res) (e : uz k c = c') : CallsD Γ prog f [a, .one c, b] res :=
  ⟨h.1, fun M w vs hM hgl hr => h.2 M w vs hM hgl (by
    match vs, hr with
    | [u, v, x], hr =>
      subst e
      exact ⟨hr.1, RdC.uz k hr.2.1, hr.2.2.1, trivial⟩)⟩
/-- a slope without variables as it is made -/
def slZ (s : Sl) : List Cell := [cS s.name, .raw (.int .i64 s.f.c.s), .ints .i64 s.f.c.L, .raw (.int .i64 s.f.c.t), .ints .i64 s.f.c.M, .zc]
theorem slZ_uz (ss : List Sl) : uz 4 (.sl 6 (ss.map slZ)) = .sl 6 ((ss.map fun s => (⟨s.name, ⟨s.f.c, []⟩⟩ : Sl)).map Sl.C) := by
  rw [uz, wqn, List.map_map, List.map_map]
  congr 1
theorem slZ_eq (s : Sl) : slZ s = [cS s.name, .raw (.int .i64 s.f.c.s), .ints .i64 s.f.c.L, .raw (.int .i64 s.f.c.t), .ints .i64 s.f.c.M, .zc] := rfl
def bdZ (s : Sl) : List Cell := [cS s.name, .raw (.int .i64 s.f.c.s), .ints .i64 s.f.c.L, .raw (.int .i64 s.f.c.t), .ints .i64 s.f.c.M]
theorem bdZ_eq (s : Sl) : bdZ s = [cS s.name, .raw (.int .i64 s.f.c.s), .ints .i64 s.f.c.L, .raw (.int .i64 s.f.c.t), .ints .i64 s.f.c.M] := rfl
theorem wConstRun (x : Ex) (ss : List Sl) (ms : List Tb) (r : Th × Int) (w : Rs × Int) (hl : ss.length ≤ 6)
    (f1 : CallsD Gs prog 9 [.agg (exC x), .one (.sl 6 (ss.map Sl.C)), .one (.sl 3 (ms.map Tb.C))] (.one (cB true)))
    (o1 : CallsD Gs prog 10 [.agg (exC x), .one (.sl 6 (ss.map slZ)), .one (.sl 3 (ms.map Tb.C))] (afR r))
    (v1 : CallsD Gs prog 24 [.agg (exC x), .one (.sl 5 (ss.map bdZ)), .one (.sl 3 (ms.map Tb.C))] (rsR w))
    (law : (∃ q, r = (⟨false, false, some q, []⟩, 0) ∧ w = (⟨false, false, some q⟩, 0) ∧ CallsD Gs prog 22 [.agg (qC (some q)), .agg (qC (some q))] (.one (cB true))) ∨ (∃ b, r = (⟨false, false, none, []⟩, 13) ∧ w = (⟨true, b, none⟩, 0)) ∨ ∃ e t i v, e ≠ 0 ∧ r = (⟨false, false, none, []⟩, e) ∧ w = (⟨t, i, v⟩, e)) :
    CallsD Gs prog 5 [.agg (exC x), .one (.sl 6 (ss.map Sl.C)), .one (.sl 3 (ms.map Tb.C))] (.one (cB true)) := by
  have s0 := xg8
  refine CallsD.run [] Go.Proofs.Tryz.func5 rfl rfl rfl ?_; simp only [Go.Proofs.Tryz.f5]; refine hgR ?_
  repeat' ((first | refine hfk ?_ ?_ <;> intros | refine hik ?_ | with_reducible first | refine wml (s0) ?_ | refine ysj (s0) ?_ | refine wml (f1) ?_ | refine ysj (f1) ?_) <;> refine hgS ?_)
  refine x20 [1, 2, 3, 7] (fun i : Nat => [(8, .one (.sl 1 6 0 i)), (9, .one (.dat (cI i)))]) (fun i => [.box ((exC x).map .dat) (some 24), .arr (.sl 6 ((ss.take i).map slZ)) 0 (some 42)])
    (fun i => i ≤ ss.length) (fun i => ss.length - i) 0 (Nat.zero_le _) ?_ ?_
  · refine hg ?_
    refine StH.trans (StH.empty (d := 8) (es := 6) (c := .sl 6 []) (T := some 42) rfl rfl (fun r hr => by cases hr) rfl) ?_
    refine hg ?_
    exact StH.same svl rfl
  intro i hi
  have hz : (ss.take i).length = i := by rw [List.length_take]; omega
  refine hg1 @hz ?_
  refine vt2 (fun hlt _ => ?_) (fun hlt _ => ?_)
  · have hlt' : i < ss.length := by omega
    have ht : (ss.take i).map slZ ++ [[cS (ss.getD i default).name, .raw (.int .i64 (ss.getD i default).f.c.s), .ints .i64 (ss.getD i default).f.c.L, .raw (.int .i64 (ss.getD i default).f.c.t), .ints .i64 (ss.getD i default).f.c.M, .zc]] = (ss.take (i + 1)).map slZ := by
      rw [wcz hlt', List.map_append]; rfl
    clear law o1 v1
    refine hg ?_
    repeat' ((first | refine hfk ?_ ?_ <;> intros | refine hik ?_) <;> refine hgS ?_)
    refine ⟨i + 1, by omega, by omega, ?_⟩
    rw [← ht]
    rw [List.length_take, Nat.min_eq_left (by omega)]
    exact StH.back [1, 2, 3, 7, 8, 9] 1 2 2 rfl rfl rfl rfl rfl (by kernel_rfl) (StH.same svl rfl)
  have e : i = ss.length := by omega
  subst e
  rw [List.take_length]
  clear hz hlt hi
  refine hg ?_
  refine x20 [1, 2, 3, 7, 8] (fun i : Nat => [(10, .one (.sl 2 5 0 i)), (11, .one (.dat (cI i)))]) (fun i => [.box ((exC x).map .dat) (some 24), .arr (.sl 6 (ss.map slZ)) 0 (some 42), .arr (.sl 5 ((ss.take i).map bdZ)) 0 (some 59)])
    (fun i => i ≤ ss.length) (fun i => ss.length - i) 0 (Nat.zero_le _) ?_ ?_
  · refine hg ?_
    refine StH.trans (StH.empty (d := 10) (es := 5) (c := .sl 5 []) (T := some 59) rfl rfl (fun r hr => by cases hr) rfl) ?_
    refine hg ?_
    exact StH.same svl rfl
  intro i hi
  have hz : (ss.take i).length = i := by rw [List.length_take]; omega
  refine hg1 @hz ?_
  refine vt2 (fun hlt _ => ?_) (fun hlt _ => ?_)
  · have hlt' : i < ss.length := by omega
    have ht : (ss.take i).map bdZ ++ [[cS (ss.getD i default).name, .raw (.int .i64 (ss.getD i default).f.c.s), .ints .i64 (ss.getD i default).f.c.L, .raw (.int .i64 (ss.getD i default).f.c.t), .ints .i64 (ss.getD i default).f.c.M]] = (ss.take (i + 1)).map bdZ := by
      rw [wcz hlt', List.map_append]; rfl
    clear law o1 v1
    refine hg1 @slZ_eq ?_
    repeat' ((first | refine hfk ?_ ?_ <;> intros | refine hik ?_) <;> refine hgS ?_)
    refine ⟨i + 1, by omega, by omega, ?_⟩
    rw [← ht]
    rw [List.length_take, Nat.min_eq_left (by omega)]
    exact StH.back [1, 2, 3, 7, 8, 10, 11] 2 3 3 rfl rfl rfl rfl rfl (by kernel_rfl) (StH.same svl rfl)
  have e : i = ss.length := by omega
  subst e
  rw [List.take_length]
  clear hz hlt hi
  rcases law with ⟨q, rfl, rfl, s1⟩ | ⟨b, rfl, rfl⟩ | ⟨e, t, i, v, he, rfl, rfl⟩
  · refine hg ?_
    repeat' ((first | refine hfk ?_ ?_ <;> intros | refine hik ?_ | with_reducible first | refine wml (o1) ?_ | refine ysj (o1) ?_ | refine wml (v1) ?_ | refine ysj (v1) ?_ | refine wml (s1) ?_ | refine ysj (s1) ?_) <;> refine hgS ?_)
    all_goals refine lfE ?_; first | exact trivial | rfl
  · refine hg ?_
    repeat' ((first | refine hfk ?_ ?_ <;> intros | refine hik ?_ | with_reducible first | refine wml (o1) ?_ | refine ysj (o1) ?_ | refine wml (v1) ?_ | refine ysj (v1) ?_) <;> refine hgS ?_)
    all_goals refine lfE ?_; first | exact trivial | rfl
  · refine hg ?_
    repeat' ((first | refine hfk ?_ ?_ <;> intros | refine hik ?_ | with_reducible first | refine wml (o1) ?_ | refine ysj (o1) ?_ | refine wml (v1) ?_ | refine ysj (v1) ?_) <;> refine hgS ?_)
    all_goals first
      | (exfalso; omega)
      | refine lfE ?_; first | exact trivial | rfl
theorem wAffConstant (x : Ex) (ss : List Sl) (ms : List Tb) (h : Ar19 x ss ms) :
    CallsD Gs prog 5 [.agg (exC x), .one (.sl 6 (ss.map Sl.C)), .one (.sl 3 (ms.map Tb.C))] (.one (cB true)) := by
  have f1 := h.few (Γ := Gs)
  cases hf : yw7 x ss ms with
  | false =>
    rw [hf] at f1
    refine CallsD.run [] Go.Proofs.Tryz.func5 rfl rfl rfl ?_; simp only [Go.Proofs.Tryz.f5]; refine hgR ?_
    repeat' ((first | refine hfk ?_ ?_ <;> intros | refine hik ?_ | with_reducible first | refine wml (xg8) ?_ | refine ysj (xg8) ?_ | refine wml (f1) ?_ | refine ysj (f1) ?_) <;> refine hgS ?_)
    all_goals refine lfE ?_; first | exact trivial | rfl
  | true =>
    rw [hf] at f1
    obtain ⟨k1, k2⟩ := wl2 hf
    have o0 := xtn (Γ := Gs) x (ss.map fun s => ⟨s.name, ⟨s.f.c, []⟩⟩) ms h.x (by rw [List.length_map]; exact k1) h.m (fun s hs => by
      obtain ⟨y, hy, rfl⟩ := List.mem_map.1 hs
      exact ⟨(h.ss y hy).1, Nat.zero_le _, (k2 y hy).2.1, fun f hf => by cases hf⟩) h.ms
    have v1 := vpt (Γ := Gs) x (ss.map fun s => ⟨s.name, s.f.c⟩) ms h.x (by rw [List.length_map]; omega) (by have := h.m; omega) (fun b hb => by
      obtain ⟨y, hy, rfl⟩ := List.mem_map.1 hb
      exact ⟨(h.ss y hy).1, Nat.le_trans (k2 y hy).2.1 (by decide)⟩) h.ms
    have o1 := CallsD.argUz 4 o0 (slZ_uz ss)
    have law := vle (B := 4300) (by decide) (x := x) (ss := ss) (ms := ms) (fun s hs => x8q (k2 s hs).2 (by decide))
    have hz := w9s (x := x) (ss := ss.map fun s => ⟨s.name, ⟨s.f.c, []⟩⟩) (ms := ms) (fun s hs => by
      obtain ⟨y, hy, rfl⟩ := List.mem_map.1 hs
      exact ⟨Nat.zero_le _, (k2 y hy).2.1, fun f hf => by cases hf⟩)
    clear o0
    have v1 : CallsD Gs prog 24 [.agg (exC x), .one (.sl 5 (ss.map bdZ)), .one (.sl 3 (ms.map Tb.C))] (rsR (valF x (ss.map fun s => ⟨s.name, s.f.c⟩) ms)) := by
      have e : (ss.map fun s => (⟨s.name, s.f.c⟩ : Bd)).map Bd.C = ss.map bdZ := by rw [List.map_map]; rfl
      rw [e] at v1
      exact v1
    refine wConstRun x ss ms _ _ k1 f1 o1 v1 ?_
    rcases law with ⟨v, e1, e2⟩ | ⟨b, e1, e2⟩ | ⟨e, r, he, e1, e2⟩
    · rw [e1] at hz
      obtain ⟨_, hG⟩ := hz rfl
      rcases hG with ⟨h1, _⟩ | ⟨_, _, _, ⟨q, hq, hs⟩, _⟩
      · cases h1
      · have hq : v = some q := hq
        subst hq
        have s1 := xb9 (Γ := Gs) (Fc.of q) (Fc.of q) (Nat.le_trans hs (by decide)) (Nat.le_trans hs (by decide))
        rw [decide_eq_true rfl] at s1
        exact .inl ⟨q, e1, e2, s1⟩
    · exact .inr (.inl ⟨b, e1, e2⟩)
    · obtain ⟨t, i, v⟩ := r
      exact .inr (.inr ⟨e, t, i, v, he, e1, e2⟩)
end Go.Hp.T
