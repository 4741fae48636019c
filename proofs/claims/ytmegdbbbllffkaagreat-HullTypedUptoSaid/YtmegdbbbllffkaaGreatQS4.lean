/- Law 17: the walk of HullTyped. -/
import Derived.Test.YtmegdbbbllffkaaGreatQ39
import Derived.Test.YtmegdbbbllffkaaGreatQ33
/- Law 17: the walk of HullTyped. -/
namespace Go.Hp.T
open Go Go.RowKit Go.Slot Go.Hp Go.Slot.T
open Go.Proofs.Tryz (prog)
set_option maxRecDepth 10000
set_option maxHeartbeats 4000000
def varZ (zs : List Zn) (ds : List Dm) (i : Nat) : Vr := ⟨(zs.getD i default).name, ds.getD i default⟩
theorem wTyped17 (x : Ex) (zs : List Zn) (ms : List Tb) (ds : List Dm) (h : Ar17 x zs ms) (_hdl : ds.length ≤ 1048576) :
    CallsD [] prog 5 [.agg (exC x), .one (.sl 9 (zs.map Zn.C)), .one (.sl 3 (ms.map Tb.C)), .one (.sl 6 (ds.map Dm.C))] (.one (cB true)) := by
  have s1 := wub (Γ := [])
  have f1 := yin (Γ := []) x zs ms h
  have hzl := h.b
  cases hf : wsk x zs ms with
  | false =>
    rw [hf] at f1
    refine CallsD.run [] Go.Proofs.Tryz.func5 rfl rfl rfl ?_; simp only [Go.Proofs.Tryz.f5]; refine hgR ?_
    repeat' ((first | refine hfk ?_ ?_ <;> intros | refine hik ?_ | with_reducible first | refine v6l (s1) ?_ | refine vgi (s1) ?_ | refine v6l (f1) ?_ | refine vgi (f1) ?_) <;> refine hgS ?_)
    exact RLe.ofEq rfl
  | true =>
  rw [hf] at f1
  obtain ⟨hz4, hz8⟩ := vtj hf
  have hI : ∀ i, i < zs.length → CallsD [] prog 18 [.agg (scC (zs.getD i default).s)] (.one (cB (decide (zs.getD i default).s.ok))) := fun i hj => toD (y65 _ (by have := hz4 _ (w4t hj); omega))
  refine CallsD.run [] Go.Proofs.Tryz.func5 rfl rfl rfl ?_; simp only [Go.Proofs.Tryz.f5]; refine hgR ?_
  repeat' ((first | refine hfk ?_ ?_ <;> intros | refine hik ?_ | with_reducible first | refine v6l (s1) ?_ | refine vgi (s1) ?_ | refine v6l (f1) ?_ | refine vgi (f1) ?_) <;> refine hgS ?_)
  all_goals first
    | exact RLe.ofEq rfl
    | skip
  refine y55 [1, 2, 3, 4, 9] (fun n : Nat => [(10, .one (.sl 1 7 0 n)), (11, .one (.dat (cI n)))]) (fun n => [.box ((exC x).map .dat) (some 24), .arr (.sl 7 ((genL (varZ zs ds) n).map Vr.C)) 0 (some 53)]) (fun n => n ≤ zs.length ∧ ∀ j, j < n → (zs.getD j default).s.ok) (fun n => zs.length - n) 0 ⟨Nat.zero_le _, fun j hj => by omega⟩ ?_ ?_
  · refine hg ?_
    refine StH.trans (StH.empty (d := 10) (es := 7) (c := .sl 7 []) (T := some 53) rfl rfl (fun r hr => by cases hr) rfl) ?_
    refine hg ?_
    exact StH.same svl rfl
  rintro n ⟨hn, hj⟩
  have hlenA : (genL (varZ zs ds) n).length = n := zqu _ n
  refine hg ?_
  refine vnx (fun hlt _ => ?_) (fun hlt _ => ?_)
  · have hlt' : n < zs.length := by omega
    have c2 := hI n hlt'
    have hs : (genL (varZ zs ds) n).map Vr.C ++ [[cS (zs.getD n default).name, cI (ds.getD n default).a, cI (ds.getD n default).b, cI (ds.getD n default).c, cI (ds.getD n default).d, cI (ds.getD n default).e, cI (ds.getD n default).f]] = (genL (varZ zs ds) (n + 1)).map Vr.C := by
      rw [genL, List.map_append]; rfl
    have hlen2 : ((genL (varZ zs ds) (n + 1)).map Vr.C).length = n + 1 := by rw [List.length_map, zqu]
    have hnext := fun a => xf4 (p := fun j => (zs.getD j default).s.ok) hj a
    clear hI hj
    by_cases h5 : (zs.getD n default).s.ok
    · rw [decide_eq_true h5] at c2
      have hnext := hnext h5
      clear h5
      refine hg ?_
      repeat' ((first | refine hfk ?_ ?_ <;> intros | refine hik ?_ | with_reducible first | refine v6l (c2) ?_ | refine vgi (c2) ?_) <;> refine hgS ?_)
      refine ⟨n + 1, ⟨by omega, hnext⟩, by omega, ?_⟩
      try simp only [hs, hlen2]
      exact StH.back [1, 2, 3, 4, 9, 10, 11] 1 2 2 rfl rfl rfl rfl rfl (by kernel_rfl) (StH.same svl rfl)
    · rw [decide_eq_false h5] at c2
      clear h5 hnext hs hlen2
      refine hg ?_
      repeat' ((first | refine hfk ?_ ?_ <;> intros | refine hik ?_ | with_reducible first | refine v6l (c2) ?_ | refine vgi (c2) ?_) <;> refine hgS ?_)
      exact RLe.ofEq rfl
  · have e : n = zs.length := by omega
    subst e
    clear hI
    have hnm : zs.map Zn.name = (genL (varZ zs ds) zs.length).map Vr.name := (wex (f := varZ zs ds) (g := Vr.name) (h := Zn.name) zs (fun i => rfl)).symm
    have hsm : ∀ b ∈ genL (varZ zs ds) zs.length, b.name.size ≤ 1073741824 := fun b hb => by
      obtain ⟨i, hi, rfl⟩ := v5o hb
      exact (h.bs _ (w4t hi)).n
    have L := zav x (genL (varZ zs ds) zs.length) zs ms hnm (fun z hz => by
      obtain ⟨i, hi, rfl⟩ := xpi hz
      exact hj i hi)
    have o1 := vbh (Γ := []) x zs ms h.x (by omega) (by have := h.m; omega) (fun b hb => ⟨(h.bs b hb).n, by have := hz4 b hb; omega⟩) h.ms
    have t1 := zn3 (Γ := []) x zs ms h.x (by omega) (by have := h.m; omega) (fun b hb => ⟨(h.bs b hb).n, by have := hz4 b hb; omega⟩) h.ms
    have o2 := yf0 (Γ := []) x (genL (varZ zs ds) zs.length) ms h.x (by omega) (by have := h.m; omega) hsm h.ms
    clear hnm hsm hj hz4 h
    generalize hulF x zs ms = r1 at o1 t1 L
    generalize ofF x (genL (varZ zs ds) zs.length) ms = k at o2 L
    obtain ⟨⟨kt, kd⟩, ke⟩ := k
    simp only at L
    by_cases hke : ke = 0
    · subst hke
      have L := L rfl
      rcases r1 with e | ⟨c, d⟩ | v
      · change CallsD _ _ _ _ (.tup [.agg (scC Sc.zero), .one (cI e)]) at o1
        change CallsD _ _ _ _ (.tup [.one (cB false), .one (cB false), .one (cI e)]) at t1
        have L : e = 15 ∨ e = 4 := L
        rcases L with rfl | rfl <;> cases kt
        all_goals
          refine hg1 @hlenA ?_
          repeat' ((first | refine hfk ?_ ?_ <;> intros | refine hik ?_ | with_reducible first | refine v6l (o1) ?_ | refine vgi (o1) ?_ | refine v6l (o2) ?_ | refine vgi (o2) ?_ | refine v6l (t1) ?_ | refine vgi (t1) ?_) <;> refine hgS ?_)
          all_goals first
            | exact RLe.ofEq rfl
            | (exfalso; omega)
      · have L : true = kt := L
        subst L
        change CallsD _ _ _ _ (.tup [.agg (scC Sc.zero), .one (cI 13)]) at o1
        change CallsD _ _ _ _ (.tup [.one (cB c), .one (cB d), .one (cI 0)]) at t1
        refine hg1 @hlenA ?_
        repeat' ((first | refine hfk ?_ ?_ <;> intros | refine hik ?_ | with_reducible first | refine v6l (o1) ?_ | refine vgi (o1) ?_ | refine v6l (o2) ?_ | refine vgi (o2) ?_ | refine v6l (t1) ?_ | refine vgi (t1) ?_) <;> refine hgS ?_)
        all_goals first
          | exact RLe.ofEq rfl
          | (exfalso; omega)
      · have L : false = kt := L
        subst L
        change CallsD _ _ _ _ (.tup [.agg (ivC v), .one (cI 0)]) at o1
        change CallsD _ _ _ _ (.tup [.one (cB false), .one (cB false), .one (cI 13)]) at t1
        refine hg1 @hlenA ?_
        repeat' ((first | refine hfk ?_ ?_ <;> intros | refine hik ?_ | with_reducible first | refine v6l (o1) ?_ | refine vgi (o1) ?_ | refine v6l (o2) ?_ | refine vgi (o2) ?_ | refine v6l (t1) ?_ | refine vgi (t1) ?_) <;> refine hgS ?_)
        all_goals first
          | exact RLe.ofEq rfl
          | (exfalso; omega)
    · clear L
      refine hg1 @hlenA ?_
      repeat' ((first | refine hfk ?_ ?_ <;> intros | refine hik ?_ | with_reducible first | refine v6l (o2) ?_ | refine vgi (o2) ?_) <;> refine hgS ?_)
      all_goals first
        | exact RLe.ofEq rfl
        | (exfalso; omega)
end Go.Hp.T
