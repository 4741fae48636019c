/- Law 17: the walk of HullHas. -/
import Derived.Test.YtmegdbbbllffkaaGreatQ39
/- Law 17: the walk of HullHas. -/
namespace Go.Hp.T
open Go Go.RowKit Go.Slot Go.Hp Go.Slot.T
open Go.Proofs.Tryz (prog)
set_option maxRecDepth 10000
set_option maxHeartbeats 4000000
def valZ (zs : List Zn) (fs : List Fc) (i : Nat) : Bd := ⟨(zs.getD i default).name, fs.getD i Fc.zero⟩
theorem getF_mem {l : List Fc} {i : Nat} (h : i < l.length) : l.getD i Fc.zero ∈ l := by
  rw [show l.getD i Fc.zero = l[i] by simp [h]]; exact List.getElem_mem h
theorem wHas17 (x : Ex) (zs : List Zn) (ms : List Tb) (fs : List Fc) (h : Ar17 x zs ms) (_hfl : fs.length ≤ 1048576) (hfs : ∀ f ∈ fs, f.sz ≤ 1048576) :
    CallsD [] prog 6 [.agg (exC x), .one (.sl 9 (zs.map Zn.C)), .one (.sl 3 (ms.map Tb.C)), .one (.sl 4 (fs.map Fc.C))] (.one (cB true)) := by
  have s1 := wub (Γ := [])
  have f1 := yin (Γ := []) x zs ms h
  have hzl := h.b
  cases hf : wsk x zs ms with
  | false =>
    rw [hf] at f1
    refine CallsD.run [] Go.Proofs.Tryz.func6 rfl rfl rfl ?_; simp only [Go.Proofs.Tryz.f6]; refine hgR ?_
    repeat' ((first | refine hfk ?_ ?_ <;> intros | refine hik ?_ | with_reducible first | refine v6l (s1) ?_ | refine vgi (s1) ?_ | refine v6l (f1) ?_ | refine vgi (f1) ?_) <;> refine hgS ?_)
    exact RLe.ofEq rfl
  | true =>
  rw [hf] at f1
  obtain ⟨hz4, hz8⟩ := vtj hf
  have hF : ∀ i, i < fs.length → CallsD [] prog 20 [.agg [.raw (.int .i64 (fs.getD i Fc.zero).s), .ints .i64 (fs.getD i Fc.zero).L, .raw (.int .i64 (fs.getD i Fc.zero).t), .ints .i64 (fs.getD i Fc.zero).M], .one (cI 4)] (.one (cB (decide ((fs.getD i Fc.zero).sz ≤ 4)))) := fun i hi => by
    have := Nat.max_le.1 (hfs _ (getF_mem hi))
    exact toD (wr8 _ (by omega) (by omega))
  have hI : ∀ i, i < fs.length → i < zs.length → CallsD [] prog 21 [.agg (scC (zs.getD i default).s), .agg [.raw (.int .i64 (fs.getD i Fc.zero).s), .ints .i64 (fs.getD i Fc.zero).L, .raw (.int .i64 (fs.getD i Fc.zero).t), .ints .i64 (fs.getD i Fc.zero).M]] (.one (cB (decide ((zs.getD i default).s.has (fs.getD i Fc.zero))))) := fun i hi hj => toD (vjc _ _ (by have := hz4 _ (w4t hj); omega) (by have := hfs _ (getF_mem hi); omega))
  refine CallsD.run [] Go.Proofs.Tryz.func6 rfl rfl rfl ?_; simp only [Go.Proofs.Tryz.f6]; refine hgR ?_
  repeat' ((first | refine hfk ?_ ?_ <;> intros | refine hik ?_ | with_reducible first | refine v6l (s1) ?_ | refine vgi (s1) ?_ | refine v6l (f1) ?_ | refine vgi (f1) ?_) <;> refine hgS ?_)
  all_goals first
    | exact RLe.ofEq rfl
    | skip
  refine y55 [1, 2, 3, 4, 9] (fun n : Nat => [(10, .one (.sl 1 5 0 n)), (11, .one (.dat (cI n)))]) (fun n => [.box ((exC x).map .dat) (some 24), .arr (.sl 5 ((genL (valZ zs fs) n).map Bd.C)) 0 (some 64)]) (fun n => n ≤ zs.length ∧ ∀ j, j < n → (fs.getD j Fc.zero).sz ≤ 4 ∧ (zs.getD j default).s.has (fs.getD j Fc.zero)) (fun n => zs.length - n) 0 ⟨Nat.zero_le _, fun j hj => by omega⟩ ?_ ?_
  · refine hg ?_
    refine StH.trans (StH.empty (d := 10) (es := 5) (c := .sl 5 []) (T := some 64) rfl rfl (fun r hr => by cases hr) rfl) ?_
    refine hg ?_
    exact StH.same svl rfl
  rintro n ⟨hn, hj⟩
  have hlenA : (genL (valZ zs fs) n).length = n := zqu _ n
  refine hg ?_
  refine vnx (fun hlt _ => ?_) (fun hlt _ => ?_)
  · have hlt' : n < zs.length := by omega
    have c1 := hF n (by omega)
    have c2 := hI n (by omega) hlt'
    have hs : (genL (valZ zs fs) n).map Bd.C ++ [[cS (zs.getD n default).name, .raw (.int .i64 (fs.getD n Fc.zero).s), .ints .i64 (fs.getD n Fc.zero).L, .raw (.int .i64 (fs.getD n Fc.zero).t), .ints .i64 (fs.getD n Fc.zero).M]] = (genL (valZ zs fs) (n + 1)).map Bd.C := by
      rw [genL, List.map_append]; rfl
    have hlen2 : ((genL (valZ zs fs) (n + 1)).map Bd.C).length = n + 1 := by rw [List.length_map, zqu]
    have hnext := fun a => xf4 (p := fun j => (fs.getD j Fc.zero).sz ≤ 4 ∧ (zs.getD j default).s.has (fs.getD j Fc.zero)) hj a
    clear hF hI hj
    by_cases h4 : (fs.getD n Fc.zero).sz ≤ 4
    · rw [decide_eq_true h4] at c1
      by_cases h5 : (zs.getD n default).s.has (fs.getD n Fc.zero)
      · rw [decide_eq_true h5] at c2
        have hnext := hnext ⟨h4, h5⟩
        clear h4 h5
        refine hg ?_
        repeat' ((first | refine hfk ?_ ?_ <;> intros | refine hik ?_ | with_reducible first | refine v6l (c1) ?_ | refine vgi (c1) ?_ | refine v6l (c2) ?_ | refine vgi (c2) ?_) <;> refine hgS ?_)
        refine ⟨n + 1, ⟨by omega, hnext⟩, by omega, ?_⟩
        try simp only [hs, hlen2]
        exact StH.back [1, 2, 3, 4, 9, 10, 11] 1 2 2 rfl rfl rfl rfl rfl (by kernel_rfl) (StH.same svl rfl)
      · rw [decide_eq_false h5] at c2
        clear h4 h5 hnext hs hlen2
        refine hg ?_
        repeat' ((first | refine hfk ?_ ?_ <;> intros | refine hik ?_ | with_reducible first | refine v6l (c1) ?_ | refine vgi (c1) ?_ | refine v6l (c2) ?_ | refine vgi (c2) ?_) <;> refine hgS ?_)
        exact RLe.ofEq rfl
    · rw [decide_eq_false h4] at c1
      clear h4 hnext hs hlen2 c2
      refine hg ?_
      repeat' ((first | refine hfk ?_ ?_ <;> intros | refine hik ?_ | with_reducible first | refine v6l (c1) ?_ | refine vgi (c1) ?_) <;> refine hgS ?_)
      exact RLe.ofEq rfl
  · have e : n = zs.length := by omega
    subst e
    clear hF hI
    have hnm : zs.map Zn.name = (genL (valZ zs fs) zs.length).map Bd.name := (wex (f := valZ zs fs) (g := Bd.name) (h := Zn.name) zs (fun i => rfl)).symm
    have hsm : ∀ b ∈ genL (valZ zs fs) zs.length, b.name.size ≤ 1073741824 ∧ b.v.sz ≤ 4 := fun b hb => by
      obtain ⟨i, hi, rfl⟩ := v5o hb
      exact ⟨(h.bs _ (w4t hi)).n, (hj i hi).1⟩
    have L := fun k hk => w8u (x := x) (ms := ms) hnm (fun i hi => by rw [ysi hi]; exact (hj i hi).2) (k := k) hk
    have o1 := vbh (Γ := []) x zs ms h.x (by omega) (by have := h.m; omega) (fun b hb => ⟨(h.bs b hb).n, by have := hz4 b hb; omega⟩) h.ms
    have t1 := zn3 (Γ := []) x zs ms h.x (by omega) (by have := h.m; omega) (fun b hb => ⟨(h.bs b hb).n, by have := hz4 b hb; omega⟩) h.ms
    have o2 := vsb (Γ := []) x (genL (valZ zs fs) zs.length) ms h.x (by omega) (by have := h.m; omega) (fun b hb => ⟨(hsm b hb).1, by have := (hsm b hb).2; omega⟩) h.ms
    have k1 := z5d (x := x) (zs := zs) (ms := ms) (B := 4300) (by decide) (fun b hb => by have := hz4 b hb; omega) h.ms
    have k2 := vkw (x := x) (bs := genL (valZ zs fs) zs.length) (ms := ms) (B := 4300) (by decide) (fun b hb => by have := (hsm b hb).2; omega)
    clear hnm hsm hj hz4 hfs h
    generalize hulF x zs ms = r1 at o1 t1 k1 L
    generalize valF x (genL (valZ zs fs) zs.length) ms = r2 at o2 k2 L
    rcases r1 with e | ⟨c, d⟩ | v
    · have he : ¬ e = 0 := k1
      change CallsD _ _ _ _ (.tup [.agg (scC Sc.zero), .one (cI e)]) at o1
      change CallsD _ _ _ _ (.tup [.one (cB false), .one (cB false), .one (cI e)]) at t1
      obtain ⟨⟨t, i, q⟩, g⟩ := r2
      clear L k1 k2
      refine hg ?_
      repeat' ((first | refine hfk ?_ ?_ <;> intros | refine hik ?_ | with_reducible first | refine v6l (o1) ?_ | refine vgi (o1) ?_ | refine v6l (o2) ?_ | refine vgi (o2) ?_ | refine v6l (t1) ?_ | refine vgi (t1) ?_) <;> refine hgS ?_)
      all_goals first
        | exact RLe.ofEq rfl
        | (exfalso; omega)
    · change CallsD _ _ _ _ (.tup [.agg (scC Sc.zero), .one (cI 13)]) at o1
      change CallsD _ _ _ _ (.tup [.one (cB c), .one (cB d), .one (cI 0)]) at t1
      obtain ⟨⟨t, i, q⟩, rfl, ht, i1, i2⟩ := L _ rfl
      simp only at ht i1 i2
      subst ht
      clear L k1 k2
      cases c <;> cases d <;> cases i
      all_goals first
        | (cases i1 rfl; done)
        | (cases i2 rfl; done)
        | (clear i1 i2
           refine hg ?_
           repeat' ((first | refine hfk ?_ ?_ <;> intros | refine hik ?_ | with_reducible first | refine v6l (o1) ?_ | refine vgi (o1) ?_ | refine v6l (o2) ?_ | refine vgi (o2) ?_ | refine v6l (t1) ?_ | refine vgi (t1) ?_) <;> refine hgS ?_)
           all_goals first
             | exact RLe.ofEq rfl
             | (exfalso; omega))
    · change CallsD _ _ _ _ (.tup [.agg (ivC v), .one (cI 0)]) at o1
      change CallsD _ _ _ _ (.tup [.one (cB false), .one (cB false), .one (cI 13)]) at t1
      obtain ⟨⟨t, i, q⟩, rfl, ht, q', hq, hk⟩ := L _ rfl
      simp only at ht hq
      subst ht
      subst hq
      have k1 : ivZ v ≤ 860000 := k1
      have k2 : qs q' ≤ 860000 := k2
      have iw := iHas (Γ := []) v q' (by omega) (by omega)
      rw [Iv.yuc.2 hk] at iw
      clear L k1 k2 hk
      refine hg ?_
      repeat' ((first | refine hfk ?_ ?_ <;> intros | refine hik ?_ | with_reducible first | refine v6l (o1) ?_ | refine vgi (o1) ?_ | refine v6l (o2) ?_ | refine vgi (o2) ?_ | refine v6l (t1) ?_ | refine vgi (t1) ?_ | refine v6l (iw) ?_ | refine vgi (iw) ?_) <;> refine hgS ?_)
      all_goals first
        | exact RLe.ofEq rfl
        | (exfalso; omega)
end Go.Hp.T
