/- Law 17: the walk of HullInside. -/
import Derived.Test.YtmegdbbbllffkaaGreatQ39
/- Law 17: the walk of HullInside. -/
namespace Go.Hp.T
open Go Go.RowKit Go.Slot Go.Hp Go.Slot.T
open Go.Proofs.Tryz (prog)
set_option maxRecDepth 10000
set_option maxHeartbeats 4000000
def lessZ (zs : List Zn) (ws : List Sc) (i : Nat) : Zn := ⟨(zs.getD i default).name, ws.getD i Sc.zero⟩
theorem getS_mem {l : List Sc} {i : Nat} (h : i < l.length) : l.getD i Sc.zero ∈ l := by
  rw [show l.getD i Sc.zero = l[i] by simp [h]]; exact List.getElem_mem h
theorem wInside17 (x : Ex) (zs : List Zn) (ms : List Tb) (ws : List Sc) (h : Ar17 x zs ms) (_hwl : ws.length ≤ 1048576) (hws : ∀ s ∈ ws, s.sz ≤ 1048576) :
    CallsD [] prog 4 [.agg (exC x), .one (.sl 9 (zs.map Zn.C)), .one (.sl 3 (ms.map Tb.C)), .one (.sl 8 (ws.map Sc.C))] (.one (cB true)) := by
  have s1 := wub (Γ := [])
  have f1 := yin (Γ := []) x zs ms h
  have hzl := h.b
  cases hf : wsk x zs ms with
  | false =>
    rw [hf] at f1
    refine CallsD.run [] Go.Proofs.Tryz.func4 rfl rfl rfl ?_; simp only [Go.Proofs.Tryz.f4]; refine hgR ?_
    repeat' ((first | refine hfk ?_ ?_ <;> intros | refine hik ?_ | with_reducible first | refine v6l (s1) ?_ | refine vgi (s1) ?_ | refine v6l (f1) ?_ | refine vgi (f1) ?_) <;> refine hgS ?_)
    exact RLe.ofEq rfl
  | true =>
  rw [hf] at f1
  obtain ⟨hz4, hz8⟩ := vtj hf
  have hF : ∀ i, i < ws.length → CallsD [] prog 16 [.agg (scC (ws.getD i Sc.zero)), .one (cI 4)] (.one (cB (decide ((ws.getD i Sc.zero).sz ≤ 4)))) := fun i hi => toD (xmj _ (by have := hws _ (getS_mem hi); omega))
  have hI : ∀ i, i < ws.length → i < zs.length → CallsD [] prog 17 [.agg (scC (ws.getD i Sc.zero)), .agg (scC (zs.getD i default).s)] (.one (cB (decide ((ws.getD i Sc.zero).inside (zs.getD i default).s)))) := fun i hi hj => toD (vbs _ _ (by have := hws _ (getS_mem hi); omega) (by have := hz4 _ (w4t hj); omega))
  refine CallsD.run [] Go.Proofs.Tryz.func4 rfl rfl rfl ?_; simp only [Go.Proofs.Tryz.f4]; refine hgR ?_
  repeat' ((first | refine hfk ?_ ?_ <;> intros | refine hik ?_ | with_reducible first | refine v6l (s1) ?_ | refine vgi (s1) ?_ | refine v6l (f1) ?_ | refine vgi (f1) ?_) <;> refine hgS ?_)
  all_goals first
    | exact RLe.ofEq rfl
    | skip
  refine y55 [1, 2, 3, 4, 9] (fun n : Nat => [(10, .one (.sl 1 9 0 n)), (11, .one (.dat (cI n)))]) (fun n => [.box ((exC x).map .dat) (some 24), .arr (.sl 9 ((genL (lessZ zs ws) n).map Zn.C)) 0 (some 45)]) (fun n => n ≤ zs.length ∧ ∀ j, j < n → (ws.getD j Sc.zero).sz ≤ 4 ∧ (ws.getD j Sc.zero).inside (zs.getD j default).s) (fun n => zs.length - n) 0 ⟨Nat.zero_le _, fun j hj => by omega⟩ ?_ ?_
  · refine hg ?_
    refine StH.trans (StH.empty (d := 10) (es := 9) (c := .sl 9 []) (T := some 45) rfl rfl (fun r hr => by cases hr) rfl) ?_
    refine hg ?_
    exact StH.same svl rfl
  rintro n ⟨hn, hj⟩
  have hlenA : (genL (lessZ zs ws) n).length = n := zqu _ n
  refine hg ?_
  refine vnx (fun hlt _ => ?_) (fun hlt _ => ?_)
  · have hlt' : n < zs.length := by omega
    have c1 := hF n (by omega)
    have c2 := hI n (by omega) hlt'
    have hs : (genL (lessZ zs ws) n).map Zn.C ++ [[cS (zs.getD n default).name, .raw (.int .i64 (ws.getD n Sc.zero).low.s), .ints .i64 (ws.getD n Sc.zero).low.L, .raw (.int .i64 (ws.getD n Sc.zero).low.t), .ints .i64 (ws.getD n Sc.zero).low.M, .raw (.int .i64 (ws.getD n Sc.zero).high.s), .ints .i64 (ws.getD n Sc.zero).high.L, .raw (.int .i64 (ws.getD n Sc.zero).high.t), .ints .i64 (ws.getD n Sc.zero).high.M]] = (genL (lessZ zs ws) (n + 1)).map Zn.C := by
      rw [genL, List.map_append]; rfl
    have hlen2 : ((genL (lessZ zs ws) (n + 1)).map Zn.C).length = n + 1 := by rw [List.length_map, zqu]
    have hnext := fun a => xf4 (p := fun j => (ws.getD j Sc.zero).sz ≤ 4 ∧ (ws.getD j Sc.zero).inside (zs.getD j default).s) hj a
    clear hF hI hj
    by_cases h4 : (ws.getD n Sc.zero).sz ≤ 4
    · rw [decide_eq_true h4] at c1
      by_cases h5 : (ws.getD n Sc.zero).inside (zs.getD n default).s
      · rw [decide_eq_true h5] at c2
        have hnext := hnext ⟨h4, h5⟩
        clear h4 h5
        refine hg ?_
        repeat' ((first | refine hfk ?_ ?_ <;> intros | refine hik ?_ | with_reducible first | refine v6l (c1) ?_ | refine vgi (c1) ?_ | refine v6l (c2) ?_ | refine vgi (c2) ?_) <;> refine hgS ?_)
        refine ⟨n + 1, ⟨by omega, hnext⟩, by omega, ?_⟩
        try simp only [hs, hlen2]
        exact StH.back [1, 2, 3, 4, 9, 10, 11] 1 2 2 rfl rfl rfl rfl rfl (by kernel_rfl) (StH.same svl rfl)
      · rw [decide_eq_false h5] at c2
        clear h4 h5 hnext hs hlen2
        refine hg ?_
        repeat' ((first | refine hfk ?_ ?_ <;> intros | refine hik ?_ | with_reducible first | refine v6l (c1) ?_ | refine vgi (c1) ?_ | refine v6l (c2) ?_ | refine vgi (c2) ?_) <;> refine hgS ?_)
        exact RLe.ofEq rfl
    · rw [decide_eq_false h4] at c1
      clear h4 hnext hs hlen2 c2
      refine hg ?_
      repeat' ((first | refine hfk ?_ ?_ <;> intros | refine hik ?_ | with_reducible first | refine v6l (c1) ?_ | refine vgi (c1) ?_) <;> refine hgS ?_)
      exact RLe.ofEq rfl
  · have e : n = zs.length := by omega
    subst e
    clear hF hI
    have hnm : zs.map Zn.name = (genL (lessZ zs ws) zs.length).map Zn.name := (wex (f := lessZ zs ws) (g := Zn.name) (h := Zn.name) zs (fun i => rfl)).symm
    have hsm : ∀ b ∈ genL (lessZ zs ws) zs.length, b.name.size ≤ 1073741824 ∧ b.s.sz ≤ 4 := fun b hb => by
      obtain ⟨i, hi, rfl⟩ := v5o hb
      exact ⟨(h.bs _ (w4t hi)).n, (hj i hi).1⟩
    have L := fun k hk => y2u (x := x) (ms := ms) hnm (fun i hi => by rw [ysi hi]; exact (hj i hi).2) (k := k) hk
    have o1 := vbh (Γ := []) x zs ms h.x (by omega) (by have := h.m; omega) (fun b hb => ⟨(h.bs b hb).n, by have := hz4 b hb; omega⟩) h.ms
    have t1 := zn3 (Γ := []) x zs ms h.x (by omega) (by have := h.m; omega) (fun b hb => ⟨(h.bs b hb).n, by have := hz4 b hb; omega⟩) h.ms
    have o2 := vbh (Γ := []) x (genL (lessZ zs ws) zs.length) ms h.x (by omega) (by have := h.m; omega) (fun b hb => ⟨(hsm b hb).1, by have := (hsm b hb).2; omega⟩) h.ms
    have t2 := zn3 (Γ := []) x (genL (lessZ zs ws) zs.length) ms h.x (by omega) (by have := h.m; omega) (fun b hb => ⟨(hsm b hb).1, by have := (hsm b hb).2; omega⟩) h.ms
    have k1 := z5d (x := x) (zs := zs) (ms := ms) (B := 4300) (by decide) (fun b hb => by have := hz4 b hb; omega) h.ms
    have k2 := z5d (x := x) (zs := genL (lessZ zs ws) zs.length) (ms := ms) (B := 4300) (by decide) (fun b hb => by have := (hsm b hb).2; omega) h.ms
    clear hnm hsm hj hz4 hws h
    generalize hulF x zs ms = r1 at o1 t1 k1 L
    generalize hulF x (genL (lessZ zs ws) zs.length) ms = r2 at o2 t2 k2 L
    rcases r1 with e | ⟨c, d⟩ | v
    · have he : ¬ e = 0 := k1
      change CallsD _ _ _ _ (.tup [.agg (scC Sc.zero), .one (cI e)]) at o1
      change CallsD _ _ _ _ (.tup [.one (cB false), .one (cB false), .one (cI e)]) at t1
      clear L k1 k2
      refine hg ?_
      repeat' ((first | refine hfk ?_ ?_ <;> intros | refine hik ?_ | with_reducible first | refine v6l (o1) ?_ | refine vgi (o1) ?_ | refine v6l (o2) ?_ | refine vgi (o2) ?_ | refine v6l (t1) ?_ | refine vgi (t1) ?_ | refine v6l (t2) ?_ | refine vgi (t2) ?_) <;> refine hgS ?_)
      all_goals first
        | exact RLe.ofEq rfl
        | (exfalso; omega)
    · change CallsD _ _ _ _ (.tup [.agg (scC Sc.zero), .one (cI 13)]) at o1
      change CallsD _ _ _ _ (.tup [.one (cB c), .one (cB d), .one (cI 0)]) at t1
      obtain ⟨k', rfl, hk⟩ := L _ rfl
      rcases k' with ⟨c', d'⟩ | w
      · change CallsD _ _ _ _ (.tup [.agg (scC Sc.zero), .one (cI 13)]) at o2
        change CallsD _ _ _ _ (.tup [.one (cB c'), .one (cB d'), .one (cI 0)]) at t2
        obtain ⟨i1, i2⟩ := hk
        have i1 : c = true ∨ (c = false ∧ c' = false) := by cases c <;> cases c' <;> simp_all
        have i2 : d = true ∨ (d = false ∧ d' = false) := by cases d <;> cases d' <;> simp_all
        clear L k1 k2
        rcases i1 with rfl | ⟨rfl, rfl⟩ <;> rcases i2 with rfl | ⟨rfl, rfl⟩
        all_goals
          refine hg ?_
          repeat' ((first | refine hfk ?_ ?_ <;> intros | refine hik ?_ | with_reducible first | refine v6l (o1) ?_ | refine vgi (o1) ?_ | refine v6l (o2) ?_ | refine vgi (o2) ?_ | refine v6l (t1) ?_ | refine vgi (t1) ?_ | refine v6l (t2) ?_ | refine vgi (t2) ?_) <;> refine hgS ?_)
          all_goals first
            | exact RLe.ofEq rfl
            | (exfalso; omega)
      · exact hk.elim
    · change CallsD _ _ _ _ (.tup [.agg (ivC v), .one (cI 0)]) at o1
      change CallsD _ _ _ _ (.tup [.one (cB false), .one (cB false), .one (cI 13)]) at t1
      obtain ⟨k', rfl, hk⟩ := L _ rfl
      rcases k' with ⟨c', d'⟩ | w
      · exact hk.elim
      · change CallsD _ _ _ _ (.tup [.agg (ivC w), .one (cI 0)]) at o2
        change CallsD _ _ _ _ (.tup [.one (cB false), .one (cB false), .one (cI 13)]) at t2
        have k1 : ivZ v ≤ 860000 := k1
        have k2 : ivZ w ≤ 860000 := k2
        have iw := zbh (Γ := []) w v (by omega) (by omega)
        rw [Iv.zi9.2 hk] at iw
        clear L k1 k2 hk
        refine hg ?_
        repeat' ((first | refine hfk ?_ ?_ <;> intros | refine hik ?_ | with_reducible first | refine v6l (o1) ?_ | refine vgi (o1) ?_ | refine v6l (o2) ?_ | refine vgi (o2) ?_ | refine v6l (t1) ?_ | refine vgi (t1) ?_ | refine v6l (t2) ?_ | refine vgi (t2) ?_ | refine v6l (iw) ?_ | refine vgi (iw) ?_) <;> refine hgS ?_)
        all_goals first
          | exact RLe.ofEq rfl
          | (exfalso; omega)
end Go.Hp.T
