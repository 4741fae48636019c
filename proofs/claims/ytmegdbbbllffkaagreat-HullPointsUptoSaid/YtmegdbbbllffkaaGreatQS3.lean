/- Law 17: the walk of HullPoints. -/
import Derived.Test.YtmegdbbbllffkaaGreatQ39
/- Law 17: the walk of HullPoints. -/
namespace Go.Hp.T
open Go Go.RowKit Go.Slot Go.Hp Go.Slot.T
open Go.Proofs.Tryz (prog)
set_option maxRecDepth 10000
set_option maxHeartbeats 4000000
def ptF (bs : List Bd) (i : Nat) : Zn := ptZ (bs.getD i default)
theorem ptF_all (bs : List Bd) : genL (ptF bs) bs.length = bs.map ptZ := by
  rw [show bs.map ptZ = (genL (fun i => bs.getD i default) bs.length).map ptZ by rw [wbx], z6a]; rfl
theorem point_sz (f : Fc) : (Sc.vc6 f).sz ≤ f.sz := by
  unfold Sc.vc6
  by_cases h : f.ok
  · rw [if_pos h]; exact Nat.max_le.2 ⟨Nat.le_refl _, Nat.le_refl _⟩
  · rw [if_neg h]; exact Nat.zero_le _
theorem wPoints17 (x : Ex) (bs : List Bd) (ms : List Tb) (hx : x.Sm) (hbl : bs.length ≤ 1048576) (hbs : ∀ b ∈ bs, b.Sm) (hml : ms.length ≤ 1048576) (hms : ∀ t ∈ ms, t.Sm) :
    CallsD [] prog 7 [.agg (exC x), .one (.sl 5 (bs.map Bd.C)), .one (.sl 3 (ms.map Tb.C))] (.one (cB true)) := by
  have s1 := wub (Γ := [])
  have hF : ∀ i, i < bs.length → CallsD [] prog 20 [.agg [.raw (.int .i64 (bs.getD i default).v.s), .ints .i64 (bs.getD i default).v.L, .raw (.int .i64 (bs.getD i default).v.t), .ints .i64 (bs.getD i default).v.M], .one (cI 4)] (.one (cB (decide ((bs.getD i default).v.sz ≤ 4)))) := fun i hi => by
    have := hbs _ (w4t hi)
    exact toD (wr8 _ (by have := this.l; omega) (by have := this.m; omega))
  have hP : ∀ i, (bs.getD i default).v.sz ≤ 4 → CallsD [] prog 23 [.agg [.raw (.int .i64 (bs.getD i default).v.s), .ints .i64 (bs.getD i default).v.L, .raw (.int .i64 (bs.getD i default).v.t), .ints .i64 (bs.getD i default).v.M]] (.agg (scC (Sc.vc6 (bs.getD i default).v))) := fun i hi => toD (zx7 _ (by omega))
  refine CallsD.run [] Go.Proofs.Tryz.func7 rfl rfl rfl ?_; simp only [Go.Proofs.Tryz.f7]; refine hgR ?_
  repeat' ((first | refine hfk ?_ ?_ <;> intros | refine hik ?_ | with_reducible first | refine v6l (s1) ?_ | refine vgi (s1) ?_) <;> refine hgS ?_)
  refine y55 [1, 2, 3, 7] (fun n : Nat => [(8, .one (.sl 1 9 0 n)), (9, .one (.dat (cI n)))]) (fun n => [.box ((exC x).map .dat) (some 24), .arr (.sl 9 ((genL (ptF bs) n).map Zn.C)) 0 (some 45)]) (fun n => n ≤ bs.length ∧ n ≤ 9 ∧ ∀ j, j < n → (bs.getD j default).v.sz ≤ 4) (fun n => bs.length - n) 0 ⟨Nat.zero_le _, by omega, fun j hj => by omega⟩ ?_ ?_
  · refine hg ?_
    refine StH.trans (StH.empty (d := 8) (es := 9) (c := .sl 9 []) (T := some 45) rfl rfl (fun r hr => by cases hr) rfl) ?_
    refine hg ?_
    exact StH.same svl rfl
  rintro n ⟨hn, hn9, hj⟩
  have hlenA : (genL (ptF bs) n).length = n := zqu _ n
  by_cases hlt' : n < bs.length ∧ n ≤ 8
  · have c1 := hF n hlt'.1
    have c2 := hP n
    have hs : (genL (ptF bs) n).map Zn.C ++ [[cS (bs.getD n default).name, .raw (.int .i64 (Sc.vc6 (bs.getD n default).v).low.s), .ints .i64 (Sc.vc6 (bs.getD n default).v).low.L, .raw (.int .i64 (Sc.vc6 (bs.getD n default).v).low.t), .ints .i64 (Sc.vc6 (bs.getD n default).v).low.M, .raw (.int .i64 (Sc.vc6 (bs.getD n default).v).high.s), .ints .i64 (Sc.vc6 (bs.getD n default).v).high.L, .raw (.int .i64 (Sc.vc6 (bs.getD n default).v).high.t), .ints .i64 (Sc.vc6 (bs.getD n default).v).high.M]] = (genL (ptF bs) (n + 1)).map Zn.C := by
      rw [genL, List.map_append]; rfl
    have hlen2 : ((genL (ptF bs) (n + 1)).map Zn.C).length = n + 1 := by rw [List.length_map, zqu]
    have hnext := fun a => xf4 (p := fun j => (bs.getD j default).v.sz ≤ 4) hj a
    clear hF hP hj
    by_cases h4 : (bs.getD n default).v.sz ≤ 4
    · rw [decide_eq_true h4] at c1
      have hnext := hnext h4
      have c2 := c2 h4
      clear h4
      refine hg ?_
      repeat' ((first | refine hfk ?_ ?_ <;> intros | refine hik ?_ | with_reducible first | refine v6l (c1) ?_ | refine vgi (c1) ?_ | refine v6l (c2) ?_ | refine vgi (c2) ?_) <;> refine hgS ?_)
      all_goals try (exfalso; omega)
      refine ⟨n + 1, ⟨by omega, by omega, hnext⟩, by omega, ?_⟩
      try simp only [hs, hlen2]
      exact StH.back [1, 2, 3, 7, 8, 9] 1 2 2 rfl rfl rfl rfl rfl (by kernel_rfl) (StH.same svl rfl)
    · rw [decide_eq_false h4] at c1
      clear h4 hnext hs hlen2 c2
      refine hg ?_
      repeat' ((first | refine hfk ?_ ?_ <;> intros | refine hik ?_ | with_reducible first | refine v6l (c1) ?_ | refine vgi (c1) ?_) <;> refine hgS ?_)
      all_goals first
        | (exfalso; omega)
        | exact RLe.ofEq rfl
  · by_cases h8 : n = bs.length
    · subst h8
      clear hF hP
      have hz : genL (ptF bs) bs.length = bs.map ptZ := ptF_all bs
      rw [hz]
      have hsz : ∀ b ∈ bs, b.v.sz ≤ 4 := fun b hb => by
        obtain ⟨i, hi, rfl⟩ := xpi hb
        exact hj i hi
      have hsm : ∀ b ∈ bs.map ptZ, b.name.size ≤ 1073741824 ∧ b.s.sz ≤ 4 := fun b hb => by
        obtain ⟨c, hc, rfl⟩ := List.mem_map.1 hb
        exact ⟨(hbs c hc).n, Nat.le_trans (point_sz _) (hsz c hc)⟩
      have hlm : (bs.map ptZ).length = bs.length := List.length_map ..
      have f1 := yin (Γ := []) x (bs.map ptZ) ms ⟨hx, by omega, hml, fun b hb => ⟨(hsm b hb).1, by have := (hsm b hb).2; omega⟩, hms⟩
      have L := y5y x bs ms
      have o1 := vbh (Γ := []) x (bs.map ptZ) ms hx (by omega) (by omega) (fun b hb => ⟨(hsm b hb).1, by have := (hsm b hb).2; omega⟩) hms
      have t1 := zn3 (Γ := []) x (bs.map ptZ) ms hx (by omega) (by omega) (fun b hb => ⟨(hsm b hb).1, by have := (hsm b hb).2; omega⟩) hms
      have o2 := vsb (Γ := []) x bs ms hx (by omega) (by omega) (fun b hb => ⟨(hbs b hb).n, by have := hsz b hb; omega⟩) hms
      have k2 := vkw (x := x) (bs := bs) (ms := ms) (B := 4300) (by decide) (fun b hb => by have := hsz b hb; omega)
      clear hsm hsz hj hbs hms hz hlenA hx
      generalize wsk x (bs.map ptZ) ms = b1 at f1
      generalize hulF x (bs.map ptZ) ms = r1 at o1 t1 L
      generalize valF x bs ms = r2 at o2 k2 L
      obtain ⟨⟨t, i, q⟩, g⟩ := r2
      cases b1
      · clear L o1 t1 o2 k2
        refine hg ?_
        repeat' ((first | refine hfk ?_ ?_ <;> intros | refine hik ?_ | with_reducible first | refine v6l (f1) ?_ | refine vgi (f1) ?_) <;> refine hgS ?_)
        all_goals first
          | exact RLe.ofEq rfl
          | (exfalso; omega)
      rcases r1 with e | ⟨c, d⟩ | v
      · obtain ⟨hg, he⟩ := L
        simp only at hg
        subst hg
        change CallsD _ _ _ _ (.tup [.agg (scC Sc.zero), .one (cI g)]) at o1
        change CallsD _ _ _ _ (.tup [.one (cB false), .one (cB false), .one (cI g)]) at t1
        clear k2
        refine hg ?_
        repeat' ((first | refine hfk ?_ ?_ <;> intros | refine hik ?_ | with_reducible first | refine v6l (f1) ?_ | refine vgi (f1) ?_ | refine v6l (o1) ?_ | refine vgi (o1) ?_ | refine v6l (o2) ?_ | refine vgi (o2) ?_ | refine v6l (t1) ?_ | refine vgi (t1) ?_) <;> refine hgS ?_)
        all_goals first
          | exact RLe.ofEq rfl
          | (exfalso; omega)
          | refine lfE ?_; first | exact trivial | rfl
      · obtain ⟨hg, ht, hc, hd⟩ := L
        simp only at hg ht hc hd
        subst hg ht hc hd
        change CallsD _ _ _ _ (.tup [.agg (scC Sc.zero), .one (cI 13)]) at o1
        change CallsD _ _ _ _ (.tup [.one (cB c), .one (cB (!c)), .one (cI 0)]) at t1
        clear k2
        refine hg ?_
        cases c
        all_goals
          repeat' ((first | refine hfk ?_ ?_ <;> intros | refine hik ?_ | with_reducible first | refine v6l (f1) ?_ | refine vgi (f1) ?_ | refine v6l (o1) ?_ | refine vgi (o1) ?_ | refine v6l (o2) ?_ | refine vgi (o2) ?_ | refine v6l (t1) ?_ | refine vgi (t1) ?_) <;> refine hgS ?_)
          all_goals first
            | exact RLe.ofEq rfl
            | (exfalso; omega)
      · obtain ⟨hg, ht, q', hq, hv⟩ := L
        simp only at hg ht hq
        subst hg ht hq hv
        change CallsD _ _ _ _ (.tup [.agg (ivC (Iv.pt q')), .one (cI 0)]) at o1
        change CallsD _ _ _ _ (.tup [.one (cB false), .one (cB false), .one (cI 13)]) at t1
        have k2 : qs q' ≤ 860000 := k2
        have ip := wsc (Γ := []) q' (by omega)
        have hz : (ivS (Iv.pt q')).sz ≤ 67108864 := Nat.max_le.2 ⟨Nat.le_trans k2 (by decide), Nat.le_trans k2 (by decide)⟩
        have sm := toD (Γ := []) (x94 (ivS (Iv.pt q')) (ivS (Iv.pt q')) hz hz)
        rw [decide_eq_true rfl] at sm
        have sm : CallsD [] prog 15 [.agg (ivC (Iv.pt q')), .agg (ivC (Iv.pt q'))] (.one (cB true)) := sm
        clear k2 hz
        refine hg ?_
        repeat' ((first | refine hfk ?_ ?_ <;> intros | refine hik ?_ | with_reducible first | refine v6l (f1) ?_ | refine vgi (f1) ?_ | refine v6l (o1) ?_ | refine vgi (o1) ?_ | refine v6l (o2) ?_ | refine vgi (o2) ?_ | refine v6l (t1) ?_ | refine vgi (t1) ?_ | refine v6l (ip) ?_ | refine vgi (ip) ?_ | refine v6l (sm) ?_ | refine vgi (sm) ?_) <;> refine hgS ?_)
        all_goals first
          | exact RLe.ofEq rfl
          | (exfalso; omega)
    · have h9 : n = 9 := by omega
      clear hF hP hj
      subst h9
      refine hg ?_
      repeat' ((first | refine hfk ?_ ?_ <;> intros | refine hik ?_) <;> refine hgS ?_)
      all_goals first
        | exact RLe.ofEq rfl
        | (exfalso; omega)
end Go.Hp.T
