/- Law 19: AffineComposes: the walk. -/
import Derived.Test.YtpkininnjhbeaaaGreatDoorW36
/- Law 19: AffineComposes: the walk. -/
namespace Go.Hp.T
open Go Go.RowKit Go.Slot Go.Hp Go.Slot.T
open Go.Proofs.Tryz (prog)
set_option maxRecDepth 100000
set_option maxHeartbeats 8000000
attribute [local irreducible] hide
/-- the blocks of names' inner loop -/
def nmB (rows : List (List Cell)) (u : List Rat) : Nat → List SB
  | 0 => [.arr (.sl 6 rows) 0 (some 42), .box [.dat (.raw (.int .i64 (qF (some 0)).s)), .dat (.ints .i64 (qF (some 0)).L), .dat (.raw (.int .i64 (qF (some 0)).t)), .dat (.ints .i64 (qF (some 0)).M), .dat .zc] (some 36)]
  | k + 1 => [.arr (.sl 6 rows) 0 (some 42), .box [.dat (.raw (.int .i64 (qF (some 0)).s)), .dat (.ints .i64 (qF (some 0)).L), .dat (.raw (.int .i64 (qF (some 0)).t)), .dat (.ints .i64 (qF (some 0)).M), .sl 2 4 0 (k + 1)] (some 36), .arr (.sl 4 ((u.take (k + 1)).map rowQ)) 0 (some 33)]
theorem oInt1 : CallsD Gs prog 12 [.one (cI 1)] (.agg (qC (some 1))) := oInt 1 (by decide)
theorem unitL_length (i n : Nat) : (vy0 i n).length = n := by unfold vy0; simp
theorem unitL_getD {i n k : Nat} (h : k < n) : (vy0 i n).getD k 0 = if i = k then 1 else 0 := by
  unfold vy0
  simp [List.getD_eq_getElem?_getD, h]
theorem cNames19 (ss : List Sl) (hl : ss.length ≤ 6) : CallsD Gs prog 11 [.one (.sl 6 (ss.map Sl.C))] (.one (.sl 6 ((vea ss).map Sl.C))) := by
  refine CallsD.run [] Go.Proofs.Tryz.func11 rfl rfl rfl ?_; simp only [Go.Proofs.Tryz.f11]; refine hgR ?_
  repeat' ((first | refine hfk ?_ ?_ <;> intros | refine hik ?_) <;> refine hgS ?_)
  refine x20 [0] (fun i : Nat => [(3, .one (.sl 0 6 0 i)), (4, .one (.dat (cI i)))]) (fun i => [.arr (.sl 6 (((vea ss).take i).map Sl.C)) 0 (some 42)])
    (fun i => i ≤ ss.length) (fun i => ss.length - i) 0 (Nat.zero_le _) ?_ ?_
  · refine hg ?_
    refine StH.trans (StH.empty (d := 3) (es := 6) (c := .sl 6 []) (T := some 42) rfl rfl (fun r hr => by cases hr) rfl) ?_
    refine hg ?_
    exact StH.same svl rfl
  intro i hi
  have hlen : (vea ss).length = ss.length := by unfold vea; simp
  have hz : ((vea ss).take i).length = i := by rw [List.length_take, hlen]; omega
  refine hg1 @hz ?_
  refine vt2 (fun hlt _ => ?_) (fun hlt _ => ?_)
  · have hlt' : i < ss.length := by omega
    have hge : (vea ss).take (i + 1) = (vea ss).take i ++ [⟨(ss.getD i default).name, Af.of 0 (vy0 i ss.length)⟩] := by
      rw [List.take_add_one, List.getElem?_eq_getElem (by omega)]
      unfold vea
      simp
    have hU := unitL_length i ss.length
    have hG := fun k (h : k < ss.length) => unitL_getD (i := i) h
    generalize vy0 i ss.length = u at hge hU hG
    generalize hrows : ((vea ss).take i).map Sl.C = rows
    have hrl : rows.length = i := by rw [← hrows, List.length_map, hz]
    have hfin : rows ++ [cS (ss.getD i default).name :: afC (0, u)] = ((vea ss).take (i + 1)).map Sl.C := by
      rw [hge, List.map_append, hrows]
      show _ = rows ++ [cS (ss.getD i default).name :: (Af.of 0 u).C]
      rw [y6w]
    have hz3 : ((vea ss).take (i + 1)).length = i + 1 := by rw [List.length_take, hlen]; omega
    clear hge hrows hz hlen
    refine hg ?_
    repeat' ((first | refine hfk ?_ ?_ <;> intros | refine hik ?_ | with_reducible first | refine wml (w1z) ?_ | refine ysj (w1z) ?_) <;> refine hgS ?_)
    refine x20 [0, 3, 4, 5] (fun k : Nat => [(6, .one (.dat (cI k)))]) (nmB rows u) (fun k => k ≤ ss.length) (fun k => ss.length - k) 0 (Nat.zero_le _) ?_ ?_
    · refine hg ?_
      exact StH.same svl rfl
    intro k hk
    rcases k with _ | k
    · simp only [nmB]
      refine hg ?_
      refine vt2 (fun h _ => ?_) (fun h _ => ?_)
      · have hu0 := hG 0 (by omega)
        have hsn : ∀ q : Rat, q = u.getD 0 0 → [qC (some q)] = (u.take (0 + 1)).map rowQ := fun q hq => by
          rw [wcz (l := u) (i := 0) (by omega), hq]; rfl
        refine hg ?_
        repeat' ((first | refine hfk ?_ ?_ <;> intros | refine hik ?_ | with_reducible first | refine wml (w1z) ?_ | refine ysj (w1z) ?_ | refine wml (oInt1) ?_ | refine ysj (oInt1) ?_) <;> refine hgS ?_)
        all_goals try (exfalso; omega)
        · refine ⟨1, by omega, by omega, ?_⟩
          simp only
          rw [← hsn 1 (by rw [hu0, if_pos (by omega)])]
          exact StH.same svl rfl
        · refine ⟨1, by omega, by omega, ?_⟩
          simp only
          rw [← hsn 0 (by rw [hu0, if_neg (by omega)])]
          exact StH.same svl rfl
      · exfalso; omega
    · simp only [nmB]
      have hz : (u.take (k + 1)).length = k + 1 := by rw [List.length_take]; omega
      refine hg1 @hz ?_
      refine vt2 (fun h _ => ?_) (fun h _ => ?_)
      · have hu0 := hG (k + 1) (by omega)
        have hsn : ∀ q : Rat, q = u.getD (k + 1) 0 → (u.take (k + 1)).map rowQ ++ [qC (some q)] = (u.take (k + 1 + 1)).map rowQ := fun q hq => by
          rw [wcz (l := u) (i := k + 1) (by omega), List.map_append, hq]; rfl
        clear hfin
        refine hg1 @hz ?_
        repeat' ((first | refine hfk ?_ ?_ <;> intros | refine hik ?_ | with_reducible first | refine wml (w1z) ?_ | refine ysj (w1z) ?_ | refine wml (oInt1) ?_ | refine ysj (oInt1) ?_) <;> refine hgS ?_)
        all_goals try (exfalso; omega)
        · refine ⟨k + 1 + 1, by omega, by omega, ?_⟩
          simp only
          rw [← hsn 1 (by rw [hu0, if_pos (by omega)])]
          refine StH.back [0, 3, 4, 5, 6] 2 3 3 rfl rfl rfl rfl rfl (by kernel_rfl) (StH.same svl ?_)
          simp only [List.length_append, List.length_map, List.length_singleton, hz]
          rfl
        · refine ⟨k + 1 + 1, by omega, by omega, ?_⟩
          simp only
          rw [← hsn 0 (by rw [hu0, if_neg (by omega)])]
          refine StH.back [0, 3, 4, 5, 6] 2 3 3 rfl rfl rfl rfl rfl (by kernel_rfl) (StH.same svl ?_)
          simp only [List.length_append, List.length_map, List.length_singleton, hz]
          rfl
      · have ek : k + 1 = ss.length := by omega
        have eu : u.take (k + 1) = u := List.take_of_length_le (by omega)
        rw [eu]
        rw [eu] at hz
        refine hg1 @hz ?_
        repeat' ((first | refine hfk ?_ ?_ <;> intros | refine hik ?_) <;> refine hgS ?_)
        refine ⟨i + 1, by omega, by omega, ?_⟩
        rw [← hfin]
        exact StH.back [0, 3, 4] 0 3 1 rfl rfl rfl rfl rfl (by kernel_rfl) (StH.same svl rfl)
  · have e : i = ss.length := by omega
    have e2 : (vea ss).take i = vea ss := List.take_of_length_le (by omega)
    rw [e2]
    refine hg ?_
    repeat' ((first | refine hfk ?_ ?_ <;> intros | refine hik ?_) <;> refine hgS ?_)
    all_goals exact RLe.ofEq (by simp [hlen, e])
/-- the blocks of AffineComposes: the sum, before its coefficients are put in, with i zeros -/
def cpA (x : SB) (f g : SB) (q : Rat) : Nat → List SB
  | 0 => [x, f, g, .box [.dat (.raw (.int .i64 (qF (some q)).s)), .dat (.ints .i64 (qF (some q)).L), .dat (.raw (.int .i64 (qF (some q)).t)), .dat (.ints .i64 (qF (some q)).M), .dat .zc] (some 36)]
  | i + 1 => [x, f, g, .box [.dat (.raw (.int .i64 (qF (some q)).s)), .dat (.ints .i64 (qF (some q)).L), .dat (.raw (.int .i64 (qF (some q)).t)), .dat (.ints .i64 (qF (some q)).M), .sl 4 4 0 (i + 1)] (some 36), .arr (.sl 4 ((List.replicate (i + 1) (0 : Rat)).map rowQ)) 0 (some 33)]
/-- .. and after i parts -/
def cpB (x : SB) (f g : SB) (q : Rat) (m : Nat) (W : Nat → Fm) : Nat → List SB
  | 0 => cpA x f g q m
  | i + 1 => [x, f, g, .box ((afC (W (i + 1))).map .dat) (some 36)]
theorem wCompRun (x : Ex) (ss : List Sl) (ms : List Tb) (q gk : Rat) (l gl : List Rat) (m : Nat) (W T : Nat → Fm) (nm : List (List Cell)) (hl : ss.length ≤ 6) (h0 : 0 < ss.length) (hm : (ss.getD 0 default).f.l.length = m) (hm6 : m ≤ 6) (hll : l.length = ss.length) (W0 : W 0 = (q, List.replicate m 0))
    (f1 : CallsD Gs prog 9 [.agg (exC x), .one (.sl 6 (ss.map Sl.C)), .one (.sl 3 (ms.map Tb.C))] (.one (cB true)))
    (n1 : CallsD Gs prog 11 [.one (.sl 6 (ss.map Sl.C))] (.one (.sl 6 nm)))
    (o1 : CallsD Gs prog 10 [.agg (exC x), .one (.sl 6 nm), .one (.sl 3 (ms.map Tb.C))] (.tup [.agg (afC (q, l)), .one (cI 0)]))
    (o2 : CallsD Gs prog 10 [.agg (exC x), .one (.sl 6 (ss.map Sl.C)), .one (.sl 3 (ms.map Tb.C))] (.tup [.agg (afC (gk, gl)), .one (cI 0)]))
    (tI : ∀ i, i < ss.length → CallsD Gs prog 13 [.agg (ss.getD i default).f.C, .agg (qC (some (l.getD i default)))] (.tup [.agg (afC (T i)), .one (cI 0)]))
    (pI : ∀ i, i < ss.length → CallsD Gs prog 14 [.agg (afC (W i)), .agg (afC (T i))] (.tup [.agg (afC (W (i + 1))), .one (cI 0)]))
    (sm : CallsD Gs prog 15 [.agg (afC (gk, gl)), .agg (afC (W ss.length))] (.one (cB true))) :
    CallsD Gs prog 3 [.agg (exC x), .one (.sl 6 (ss.map Sl.C)), .one (.sl 3 (ms.map Tb.C))] (.one (cB true)) := by
  have s0 := xg8
  simp only [Af.C_eq] at tI
  refine CallsD.run [] Go.Proofs.Tryz.func3 rfl rfl rfl ?_; simp only [Go.Proofs.Tryz.f3]; refine hgR ?_
  repeat' ((first | refine hfk ?_ ?_ <;> intros | refine hik ?_ | with_reducible first | refine wml (s0) ?_ | refine ysj (s0) ?_ | refine wml (f1) ?_ | refine ysj (f1) ?_ | refine wml (n1) ?_ | refine ysj (n1) ?_ | refine wml (o1) ?_ | refine ysj (o1) ?_ | refine wml (o2) ?_ | refine ysj (o2) ?_) <;> refine hgS ?_)
  all_goals try (exfalso; omega)
  clear s0 f1 n1 o1 o2
  refine x20 [1, 3, 7, 8, 10, 12] (fun i : Nat => [(13, .one (.dat (cI i)))]) (cpA (.box ((exC x).map .dat) (some 24)) (.box ((afC (q, l)).map .dat) (some 36)) (.box ((afC (gk, gl)).map .dat) (some 36)) q)
    (fun i => i ≤ m) (fun i => m - i) 0 (Nat.zero_le _) ?_ ?_
  · refine hg ?_
    exact StH.same svl rfl
  intro i hi
  rcases i with _ | i
  · simp only [cpA]
    refine hg ?_
    refine vt2 (fun hlt _ => ?_) (fun hlt _ => ?_)
    · refine hg ?_
      repeat' ((first | refine hfk ?_ ?_ <;> intros | refine hik ?_ | with_reducible first | refine wml (w1z) ?_ | refine ysj (w1z) ?_) <;> refine hgS ?_)
      refine ⟨1, by omega, by omega, ?_⟩
      simp only
      exact StH.same svl rfl
    have hm0 : m = 0 := by omega
    subst hm0
    refine hg ?_
    refine x20 [1, 3, 7, 8, 10, 12] (fun i : Nat => [(14, .one (.dat (cI i)))]) (cpB (.box ((exC x).map .dat) (some 24)) (.box ((afC (q, l)).map .dat) (some 36)) (.box ((afC (gk, gl)).map .dat) (some 36)) q 0 W)
      (fun i => i ≤ ss.length) (fun i => ss.length - i) 0 (Nat.zero_le _) ?_ ?_
    · refine hg ?_
      exact StH.same svl rfl
    intro j hj
    rcases j with _ | j
    · simp only [cpB, cpA]
      have t0 := tI 0 (by omega)
      have p0 := pI 0 (by omega)
      rw [W0] at p0
      rw [List.replicate_zero] at p0
      have p0 := CallsD.ws4 p0 (args := [.agg [.raw (.int .i64 (qF (some q)).s), .ints .i64 (qF (some q)).L, .raw (.int .i64 (qF (some q)).t), .ints .i64 (qF (some q)).M, .zc], .agg (afC (T 0))]) (.cons (.agg (.cons (.refl _) (.cons (.refl _) (.cons (.refl _) (.cons (.refl _) (.cons (.zcSl _) .nil)))))) (.cons (.refl _) .nil))
      refine hg ?_
      refine vt2 (fun hlt _ => ?_) (fun hlt _ => ?_)
      · refine hg ?_
        repeat' ((first | refine hfk ?_ ?_ <;> intros | refine hik ?_ | with_reducible first | refine wml (t0) ?_ | refine ysj (t0) ?_ | refine wml (p0) ?_ | refine ysj (p0) ?_) <;> refine hgS ?_)
        refine ⟨1, by omega, by omega, ?_⟩
        simp only
        exact StH.back [1, 3, 7, 8, 10, 12, 14] 0 0 4 rfl rfl rfl rfl rfl (by kernel_rfl) (StH.same svl rfl)
      · exfalso; omega
    · simp only [cpB]
      refine hg ?_
      refine vt2 (fun hlt _ => ?_) (fun hlt _ => ?_)
      · have t0 := tI (j + 1) (by omega)
        have p0 := pI (j + 1) (by omega)
        refine hg ?_
        repeat' ((first | refine hfk ?_ ?_ <;> intros | refine hik ?_ | with_reducible first | refine wml (t0) ?_ | refine ysj (t0) ?_ | refine wml (p0) ?_ | refine ysj (p0) ?_) <;> refine hgS ?_)
        refine ⟨j + 1 + 1, by omega, by omega, ?_⟩
        simp only
        exact StH.back [1, 3, 7, 8, 10, 12, 14] 0 0 4 rfl rfl rfl rfl rfl (by kernel_rfl) (StH.same svl rfl)
      · have e : j + 1 = ss.length := by omega
        rw [← e] at sm
        refine hg ?_
        repeat' ((first | refine hfk ?_ ?_ <;> intros | refine hik ?_ | with_reducible first | refine wml (sm) ?_ | refine ysj (sm) ?_) <;> refine hgS ?_)
        all_goals refine lfE ?_; first | exact trivial | rfl
  · simp only [cpA]
    have hz : (List.replicate (i + 1) (0 : Rat)).length = i + 1 := List.length_replicate
    refine hg1 @hz ?_
    refine vt2 (fun hlt _ => ?_) (fun hlt _ => ?_)
    · have hsn : (List.replicate (i + 1) (0 : Rat)).map rowQ ++ [qC (some 0)] = (List.replicate (i + 1 + 1) (0 : Rat)).map rowQ := by
        rw [List.replicate_succ' (n := i + 1), List.map_append]; rfl
      refine hg1 @hz ?_
      repeat' ((first | refine hfk ?_ ?_ <;> intros | refine hik ?_ | with_reducible first | refine wml (w1z) ?_ | refine ysj (w1z) ?_) <;> refine hgS ?_)
      refine ⟨i + 1 + 1, by omega, by omega, ?_⟩
      simp only
      exact StH.back [1, 3, 7, 8, 10, 12, 13] 4 5 5 rfl rfl rfl rfl rfl (by kernel_rfl) (StH.same svl rfl)
    have hm0 : m = i + 1 := by omega
    subst hm0
    refine hg1 @hz ?_
    refine x20 [1, 3, 7, 8, 10, 12] (fun i : Nat => [(14, .one (.dat (cI i)))]) (cpB (.box ((exC x).map .dat) (some 24)) (.box ((afC (q, l)).map .dat) (some 36)) (.box ((afC (gk, gl)).map .dat) (some 36)) q (i + 1) W)
      (fun i => i ≤ ss.length) (fun i => ss.length - i) 0 (Nat.zero_le _) ?_ ?_
    · refine hg ?_
      exact StH.same svl rfl
    intro j hj
    rcases j with _ | j
    · simp only [cpB, cpA]
      have t0 := tI 0 (by omega)
      have p0 := pI 0 (by omega)
      rw [W0] at p0
      refine hg1 @hz ?_
      refine vt2 (fun hlt _ => ?_) (fun hlt _ => ?_)
      · refine hg ?_
        repeat' ((first | refine hfk ?_ ?_ <;> intros | refine hik ?_ | with_reducible first | refine wml (t0) ?_ | refine ysj (t0) ?_ | refine wml (p0) ?_ | refine ysj (p0) ?_) <;> refine hgS ?_)
        refine ⟨1, by omega, by omega, ?_⟩
        simp only
        exact StH.back [1, 3, 7, 8, 10, 12, 14] 0 0 4 rfl rfl rfl rfl rfl (by kernel_rfl) (StH.same svl rfl)
      · exfalso; omega
    · simp only [cpB]
      refine hg ?_
      refine vt2 (fun hlt _ => ?_) (fun hlt _ => ?_)
      · have t0 := tI (j + 1) (by omega)
        have p0 := pI (j + 1) (by omega)
        refine hg ?_
        repeat' ((first | refine hfk ?_ ?_ <;> intros | refine hik ?_ | with_reducible first | refine wml (t0) ?_ | refine ysj (t0) ?_ | refine wml (p0) ?_ | refine ysj (p0) ?_) <;> refine hgS ?_)
        refine ⟨j + 1 + 1, by omega, by omega, ?_⟩
        simp only
        exact StH.back [1, 3, 7, 8, 10, 12, 14] 0 0 4 rfl rfl rfl rfl rfl (by kernel_rfl) (StH.same svl rfl)
      · have e : j + 1 = ss.length := by omega
        rw [← e] at sm
        refine hg ?_
        repeat' ((first | refine hfk ?_ ?_ <;> intros | refine hik ?_ | with_reducible first | refine wml (sm) ?_ | refine ysj (sm) ?_) <;> refine hgS ?_)
        all_goals refine lfE ?_; first | exact trivial | rfl
theorem namesS_sm {ss : List Sl} (hl : ss.length ≤ 6) (hn : ∀ s ∈ ss, s.name.size ≤ 1073741824) : ∀ s ∈ vea ss, s.name.size ≤ 1073741824 ∧ s.f.l.length ≤ 6 ∧ s.f.le 4 := fun s hs => by
  unfold vea at hs
  obtain ⟨i, hi, rfl⟩ := List.mem_map.1 hs
  rw [List.mem_range] at hi
  have h0 := z3n
  have h1 : qs (1 : Rat) ≤ 4 := x10 (n := 1) (by decide)
  refine ⟨by show (ss.getD i default).name.size ≤ _; exact hn _ (y7p hi), by show ((vy0 i ss.length).map Fc.of).length ≤ 6; rw [List.length_map, unitL_length]; exact hl, by show qs 0 ≤ 4; omega, fun f hf => ?_⟩
  obtain ⟨q, hq, rfl⟩ := List.mem_map.1 (show f ∈ (vy0 i ss.length).map Fc.of from hf)
  unfold vy0 at hq
  obtain ⟨k, _, rfl⟩ := List.mem_map.1 hq
  show qs _ ≤ 4
  split <;> omega
theorem wAffComposes (x : Ex) (ss : List Sl) (ms : List Tb) (h : Ar19 x ss ms) :
    CallsD Gs prog 3 [.agg (exC x), .one (.sl 6 (ss.map Sl.C)), .one (.sl 3 (ms.map Tb.C))] (.one (cB true)) := by
  have s0 := xg8
  have f1 := h.few (Γ := Gs)
  have hlen := h.s
  cases hf : yw7 x ss ms with
  | false =>
    rw [hf] at f1
    refine CallsD.run [] Go.Proofs.Tryz.func3 rfl rfl rfl ?_; simp only [Go.Proofs.Tryz.f3]; refine hgR ?_
    repeat' ((first | refine hfk ?_ ?_ <;> intros | refine hik ?_ | with_reducible first | refine wml (s0) ?_ | refine ysj (s0) ?_ | refine wml (f1) ?_ | refine ysj (f1) ?_) <;> refine hgS ?_)
    all_goals refine lfE ?_; first | exact trivial | rfl
  | true =>
    rw [hf] at f1
    by_cases h0 : ss.length = 0
    · refine CallsD.run [] Go.Proofs.Tryz.func3 rfl rfl rfl ?_; simp only [Go.Proofs.Tryz.f3]; refine hgR ?_
      repeat' ((first | refine hfk ?_ ?_ <;> intros | refine hik ?_ | with_reducible first | refine wml (s0) ?_ | refine ysj (s0) ?_ | refine wml (f1) ?_ | refine ysj (f1) ?_) <;> refine hgS ?_)
      all_goals first
        | (exfalso; omega)
        | refine lfE ?_; first | exact trivial | rfl
    obtain ⟨k1, k2⟩ := wl0 hf
    have hsm := namesS_sm k1 (fun s hs => (h.ss s hs).1)
    have hnl : (vea ss).length = ss.length := by unfold vea; simp
    have n1 := cNames19 ss k1
    have o1 := xtn (Γ := Gs) x (vea ss) ms h.x (by omega) h.m hsm h.ms
    have o2 := h.of hf (Γ := Gs)
    by_cases hb : (affF x (vea ss) ms).2 ≠ 0 ∨ (affF x ss ms).2 = 1
    · generalize affF x (vea ss) ms = r at o1 hb
      generalize affF x ss ms = w at o2 hb
      generalize (vea ss).map Sl.C = nm at n1 o1
      obtain ⟨⟨t, i, c, l⟩, e⟩ := r
      obtain ⟨⟨t', i', c', l'⟩, e'⟩ := w
      simp only at hb o1 o2
      refine CallsD.run [] Go.Proofs.Tryz.func3 rfl rfl rfl ?_; simp only [Go.Proofs.Tryz.f3]; refine hgR ?_
      repeat' ((first | refine hfk ?_ ?_ <;> intros | refine hik ?_ | with_reducible first | refine wml (s0) ?_ | refine ysj (s0) ?_ | refine wml (f1) ?_ | refine ysj (f1) ?_ | refine wml (n1) ?_ | refine ysj (n1) ?_ | refine wml (o1) ?_ | refine ysj (o1) ?_ | refine wml (o2) ?_ | refine ysj (o2) ?_) <;> refine hgS ?_)
      all_goals first
        | (exfalso; omega)
        | refine lfE ?_; first | exact trivial | rfl
    have he : (affF x (vea ss) ms).2 = 0 := Classical.byContradiction fun k => hb (.inl k)
    have h1 : (affF x ss ms).2 ≠ 1 := fun k => hb (.inr k)
    clear hb
    have hG := w9s (x := x) (ss := vea ss) (ms := ms) (fun s hs => (hsm s hs).2) he
    generalize hA : affF x (vea ss) ms = r at o1 he hG
    obtain ⟨r, e⟩ := r
    simp only at he
    subst he
    have hne : ss ≠ [] := fun k => h0 (by rw [k]; rfl)
    obtain ⟨c1, c2, c3, c4, ⟨q, c5⟩, c6⟩ := yol (B := 4300) (by decide) hne hA h1
    obtain ⟨t, i, c, l⟩ := r
    simp only at c2 c3 c4 c5 hG
    subst c2 c3 c5
    rcases hG.2 with ⟨k, _⟩ | ⟨_, _, _, ⟨q', kq, kz⟩, kl⟩
    · cases k
    simp only at kq kl
    cases kq
    rw [c1] at o2
    have hv : ∀ s ∈ ss, s.f = Af.of s.val.1 s.val.2 ∧ s.val.2.length = nOf ss := fun s hs => Sl.xd3 (c6 s hs)
    have hvz : ∀ s ∈ ss, s.val.2.length = nOf ss ∧ qs s.val.1 ≤ 4 ∧ ∀ y ∈ s.val.2, qs y ≤ 4 := fun s hs => by
      obtain ⟨e1, e2⟩ := hv s hs
      have h2 := (k2 s hs).2
      rw [e1] at h2
      exact ⟨e2, h2.1, fun y hy => h2.2 (Fc.of y) (List.mem_map_of_mem hy)⟩
    have hm6 : nOf ss ≤ 6 := vwh (fun s hs => (k2 s hs).1)
    have hm : (ss.getD 0 default).f.l.length = nOf ss := wfe (c6 _ (y7p (by omega)))
    have gl : (ss.map Sl.val).length = ss.length := List.length_map ..
    have gv : ∀ i, i < ss.length → (ss.map Sl.val).getD i default = (ss.getD i default).val := fun i hi => getD_map hi
    have gz : ∀ f ∈ ss.map Sl.val, f.2.length = nOf ss ∧ qs f.1 ≤ 4 ∧ ∀ y ∈ f.2, qs y ≤ 4 := fun f hf => by
      obtain ⟨s, hs, rfl⟩ := List.mem_map.1 hf
      exact hvz s hs
    generalize ss.map Sl.val = g at o2 gl gv gz
    have lg : l.length = g.length := by omega
    have wz : ∀ i, i ≤ g.length → (Af.of (wK g l q i) (wL (nOf ss) g l i)).le 67108864 := fun i hi => by
      have a1 := zv6 (q := q) lg (fun f hf => (gz f hf).2.1) kl kz i hi
      have a2 := x3i lg gz kl i hi
      have a3 : i * (860000 + 5) ≤ 6 * (860000 + 5) := Nat.mul_le_mul_right _ (by omega)
      exact ⟨by show qs _ ≤ _; omega, zf5 fun y hy => by have := a2 y hy; omega⟩
    have ofl : ∀ (k : Rat) (cs : List Rat), (Af.of k cs).l.length = cs.length := fun k cs => by show (cs.map Fc.of).length = _; rw [List.length_map]
    refine wCompRun x ss ms q (subC g l q) l (subL (nOf ss) g l) (nOf ss) (fun i => (wK g l q i, wL (nOf ss) g l i)) (fun i => ((g.getD i default).1 * l.getD i 0, (g.getD i default).2.map (· * l.getD i 0))) _ k1 (by omega) hm hm6 c4 (by rw [x0i, w1q]) f1 n1 o1 o2 (fun i hi => ?_) (fun i hi => ?_) ?_
    · have hmem := y7p hi
      obtain ⟨e1, e2⟩ := hv _ hmem
      have t1 := zy8 (Γ := Gs) (ss.getD i default).f (Fc.of (l.getD i 0)) (by have := (k2 _ hmem).1; omega) (leM (k2 _ hmem).2 (by decide)) (by
        have : l.getD i 0 ∈ l := by simp [show i < l.length by omega]
        exact Nat.le_trans (kl _ this) (by decide))
      have e3 : Af.times (ss.getD i default).f (Fc.of (l.getD i 0)) = Af.of ((ss.getD i default).val.1 * l.getD i 0) ((ss.getD i default).val.2.map (· * l.getD i 0)) := by
        conv => lhs; rw [e1]
        exact xi1 _ _ _
      have e4 : (ss.getD i default).f.ok (ss.getD i default).f.l.length := by rw [wfe (c6 _ hmem)]; exact c6 _ hmem
      rw [e3, y6w, Fc.wop ⟨e4, Fc.xd3 _⟩] at t1
      simp only [gv i hi]
      exact t1
    · have hmem := y7p (show i < g.length by omega)
      obtain ⟨z1, z2, z3⟩ := gz _ hmem
      have hli : qs (l.getD i 0) ≤ 860000 := kl _ (by simp [show i < l.length by omega])
      have hlen2 : (wL (nOf ss) g l i).length = ((g.getD i default).2.map (· * l.getD i 0)).length := by rw [vru, List.length_map, z1]
      have p1 := wjc (Γ := Gs) (Af.of (wK g l q i) (wL (nOf ss) g l i)) (Af.of ((g.getD i default).1 * l.getD i 0) ((g.getD i default).2.map (· * l.getD i 0))) (by rw [ofl, vru]; omega) (by rw [ofl, List.length_map, z1]; omega) (wz i (by omega)) ⟨by
        have := vmu (g.getD i default).1 (l.getD i 0)
        show qs _ ≤ _; omega, zf5 fun y hy => by
          obtain ⟨c, hc, rfl⟩ := List.mem_map.1 hy
          have := vmu c (l.getD i 0)
          have := z3 c hc
          omega⟩
      rw [x3l _ _ _ _ hlen2, ← xg5 lg (by omega), ← z8s lg (by omega) z1, y6w, y6w, y6w, Fc.wop ⟨(Af.xd3 _ _ _).2 (ofl _ _).symm, (Af.xd3 _ _ _).2 (by rw [ofl, hlen2])⟩] at p1
      exact p1
    · have sm := z4n (Γ := Gs) (Af.of (subC g l q) (subL (nOf ss) g l)) (Af.of (subC g l q) (subL (nOf ss) g l)) (by rw [ofl, zdi]; omega) (by rw [ofl, zdi]; omega) (by rw [← wb9 lg, ← w8m lg]; exact wz _ (Nat.le_refl _)) (by rw [← wb9 lg, ← w8m lg]; exact wz _ (Nat.le_refl _))
      rw [decide_eq_true rfl, y6w] at sm
      show CallsD Gs prog _ [.agg (afC (subC g l q, subL (nOf ss) g l)), .agg (afC (wK g l q ss.length, wL (nOf ss) g l ss.length))] _
      rw [← gl, wb9 lg, w8m lg]
      exact sm
end Go.Hp.T
