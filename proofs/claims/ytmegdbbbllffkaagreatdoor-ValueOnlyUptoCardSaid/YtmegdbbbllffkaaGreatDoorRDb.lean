/- Contracts: law 16's milli, put, names. -/
import Derived.Test.YtmegdbbbllffkaaGreatDoorR39u
/- Contracts: law 16's milli, put, names. -/
namespace Go.Hp.T
open Go Go.RowKit Go.Slot Go.Hp Go.Slot.T
open Go.Proofs.Tryz (prog)
set_option maxRecDepth 10000
set_option maxHeartbeats 4000000
variable {Γ : List (Nat × List Cell)}
/-- the blocks of yoa after k elements: x, the result, out, its Args -/
def mlB (x : Ex) (n : Int) (u : ByteArray) : Nat → List SB
  | 0 => [.box ((exC x).map .dat) (some 24), .box [.dat (cI 0), .dat (cI 0), .dat (cS ⟨⟨[]⟩⟩), .dat (cS ⟨⟨[]⟩⟩), .dat .zc] (some 24), .box [.dat (cI x.op), .dat (cI n), .dat (cS u), .dat (cS x.name), .dat (.raw (.slice none 0 0))] (some 24)]
  | k + 1 => [.box ((exC x).map .dat) (some 24), .box [.dat (cI 0), .dat (cI 0), .dat (cS ⟨⟨[]⟩⟩), .dat (cS ⟨⟨[]⟩⟩), .dat .zc] (some 24), .box [.dat (cI x.op), .dat (cI n), .dat (cS u), .dat (cS x.name), .sl 3 5 0 (k + 1)] (some 24), .arr (.sl 5 ((x.args.take (k + 1)).map (Ex.cells ∘ Ex.yoa))) 0 (some 24)]
theorem kilo_size {o n : Int} {u : ByteArray} (h : zdc o n u = true) : 1 ≤ u.size := by
  unfold zdc at h
  simp only [Bool.and_eq_true, Bool.or_eq_true] at h
  rcases h.2.2.2 with h | h <;> rw [xjh h] <;> decide
theorem cMilli : ∀ x : Ex, x.Sm → CallsD Γ prog 14 [.agg (exC x)] (.agg (exC x.yoa)) := by
  refine Ex.ind (fun x ih hx => ?_)
  have hl := hx.len
  have hu := hx.u
  have hks := kilo_size (o := x.op) (n := x.n) (u := x.unit)
  by_cases hnil : x.args.length = 0
  · have ha : x.args = [] := List.eq_nil_of_length_eq_zero hnil
    have he : x.yoa = bif zdc x.op x.n x.unit then .mk x.op (1000 * x.n) (wcu x.unit 1) x.name [] else .mk x.op x.n x.unit x.name [] := by rw [Ex.zva, ha]; rfl
    rw [he]
    clear he
    cases hk : zdc x.op x.n x.unit with
    | true =>
      rw [cond_true]
      have hsz := hks hk
      unfold zdc sKg sKWh at hk
      refine CallsD.nil5 ?_
      clear hnil hks
      refine CallsD.run [] Go.Proofs.Tryz.func14 rfl rfl rfl ?_; simp only [Go.Proofs.Tryz.f14]; refine hgR ?_
      repeat' ((first | refine hfk ?_ ?_ <;> intros | refine hik ?_) <;> refine hgS ?_)
      all_goals try (exfalso; simp_all; done)
      all_goals try rw [show cI 0 = cI x.op by simp [*]]
      all_goals
        refine zum ?_
        conv => simp (maxSteps := 2000000) (disch := omega) only [go_sem, Nat.reduceAdd, Nat.reduceSub, Nat.reduceMul, Int.reduceToNat, Nat.reduceEqDiff, Nat.reduceBEq, Nat.reduceBneDiff, Nat.reduceLT, Int.reduceEq, Int.reduceLT, Int.reduceLE, Int.reduceNeg, Int.reduceAdd, Int.reduceSub, Int.reduceMul, ha, List.length_nil, n0]
        exact RLe.ofEq rfl
    | false =>
      rw [cond_false]
      unfold zdc sKg sKWh at hk
      refine CallsD.nil5 ?_
      clear hnil hks
      refine CallsD.run [] Go.Proofs.Tryz.func14 rfl rfl rfl ?_; simp only [Go.Proofs.Tryz.f14]; refine hgR ?_
      repeat' ((first | refine hfk ?_ ?_ <;> intros | refine hik ?_) <;> refine hgS ?_)
      all_goals try (exfalso; simp_all; done)
      all_goals try rw [show cI 0 = cI x.op by simp [*]]
      all_goals
        refine zum ?_
        conv => simp (maxSteps := 2000000) (disch := omega) only [go_sem, Nat.reduceAdd, Nat.reduceSub, Nat.reduceMul, Int.reduceToNat, Nat.reduceEqDiff, Nat.reduceBEq, Nat.reduceBneDiff, Nat.reduceLT, Int.reduceEq, Int.reduceLT, Int.reduceLE, Int.reduceNeg, Int.reduceAdd, Int.reduceSub, Int.reduceMul, ha, List.length_nil, n0]
        exact RLe.ofEq rfl
  · generalize hR : x.yoa = R
    rw [Ex.zva] at hR
    cases hk : zdc x.op x.n x.unit with
    | true =>
      rw [hk, cond_true] at hR
      have hsz := hks hk
      unfold zdc sKg sKWh at hk
      clear hks
      refine CallsD.run [] Go.Proofs.Tryz.func14 rfl rfl rfl ?_; simp only [Go.Proofs.Tryz.f14]; refine hgR ?_
      repeat' ((first | refine hfk ?_ ?_ <;> intros | refine hik ?_) <;> refine hgS ?_)
      all_goals try (exfalso; simp_all; done)
      all_goals try rw [show cI 0 = cI x.op by simp [*]]
      all_goals
        refine y55 [1, 2, 3] (fun n : Nat => [(4, .one (.dat (cI n)))]) (mlB x (1000 * x.n) (wcu x.unit 1)) (fun n => n ≤ x.args.length) (fun n => x.args.length - n) 0 (Nat.zero_le _) ?_ ?_
        · refine hg ?_
          exact StH.same svl rfl
        intro n hn
        rcases n with _ | n
        · simp only [mlB]
          refine hg ?_
          repeat' ((first | refine hfk ?_ ?_ <;> intros | refine hik ?_ | with_reducible first | refine v6l (ih _ (w4t (show 0 < x.args.length by omega)) (hx.arg _ (w4t (show 0 < x.args.length by omega)))) ?_ | refine vgi (ih _ (w4t (show 0 < x.args.length by omega)) (hx.arg _ (w4t (show 0 < x.args.length by omega)))) ?_) <;> refine hgS ?_)
          · refine ⟨1, by omega, by omega, StH.same svl ?_⟩
            have ht : (x.args.take (0 + 1)).map (Ex.cells ∘ Ex.yoa) = [exC (Ex.yoa (x.args.getD 0 default))] := by
              rw [z4f (by omega), List.take_zero]
              simp only [List.nil_append, List.map_cons, List.map_nil, Function.comp, Ex.vle]
            simp only [ht]
            try rfl
          · exfalso; omega
        · simp only [mlB]
          have hlen : (x.args.take (n + 1)).length = n + 1 := by rw [List.length_take]; omega
          refine hg1 @hlen ?_
          repeat' ((first | refine hfk ?_ ?_ <;> intros | refine hik ?_ | with_reducible first | refine v6l (ih _ (w4t (show n + 1 < x.args.length by omega)) (hx.arg _ (w4t (show n + 1 < x.args.length by omega)))) ?_ | refine vgi (ih _ (w4t (show n + 1 < x.args.length by omega)) (hx.arg _ (w4t (show n + 1 < x.args.length by omega)))) ?_) <;> refine hgS ?_)
          · refine ⟨n + 1 + 1, by omega, by omega, StH.back [1, 2, 3, 4] 3 4 4 rfl rfl rfl rfl rfl (by kernel_rfl) (StH.same svl ?_)⟩
            have ht : (x.args.take (n + 1 + 1)).map (Ex.cells ∘ Ex.yoa) = (x.args.take (n + 1)).map (Ex.cells ∘ Ex.yoa) ++ [exC (Ex.yoa (x.args.getD (n + 1) default))] := by
              rw [z4f (by omega)]
              simp only [List.map_append, List.map_cons, List.map_nil, Function.comp, Ex.vle]
            simp only [ht, List.length_append, List.length_map, List.length_singleton, hlen]
            try rfl
          · have e : x.args.take (n + 1) = x.args := List.take_of_length_le (by omega)
            exact RLe.ofEq (by rw [← hR, e, ← List.map_map]; first | rfl | (rw [show cI 0 = cI x.op by simp [*]]; rfl))
    | false =>
      rw [hk, cond_false] at hR
      unfold zdc sKg sKWh at hk
      clear hks
      refine CallsD.run [] Go.Proofs.Tryz.func14 rfl rfl rfl ?_; simp only [Go.Proofs.Tryz.f14]; refine hgR ?_
      repeat' ((first | refine hfk ?_ ?_ <;> intros | refine hik ?_) <;> refine hgS ?_)
      all_goals try (exfalso; simp_all; done)
      all_goals try rw [show cI 0 = cI x.op by simp [*]]
      all_goals
        refine y55 [1, 2, 3] (fun n : Nat => [(4, .one (.dat (cI n)))]) (mlB x x.n x.unit) (fun n => n ≤ x.args.length) (fun n => x.args.length - n) 0 (Nat.zero_le _) ?_ ?_
        · refine hg ?_
          exact StH.same svl rfl
        clear hk
        intro n hn
        rcases n with _ | n
        · simp only [mlB]
          refine hg ?_
          repeat' ((first | refine hfk ?_ ?_ <;> intros | refine hik ?_ | with_reducible first | refine v6l (ih _ (w4t (show 0 < x.args.length by omega)) (hx.arg _ (w4t (show 0 < x.args.length by omega)))) ?_ | refine vgi (ih _ (w4t (show 0 < x.args.length by omega)) (hx.arg _ (w4t (show 0 < x.args.length by omega)))) ?_) <;> refine hgS ?_)
          · refine ⟨1, by omega, by omega, StH.same svl ?_⟩
            have ht : (x.args.take (0 + 1)).map (Ex.cells ∘ Ex.yoa) = [exC (Ex.yoa (x.args.getD 0 default))] := by
              rw [z4f (by omega), List.take_zero]
              simp only [List.nil_append, List.map_cons, List.map_nil, Function.comp, Ex.vle]
            simp only [ht]
            try rfl
          · exfalso; omega
        · simp only [mlB]
          have hlen : (x.args.take (n + 1)).length = n + 1 := by rw [List.length_take]; omega
          refine hg1 @hlen ?_
          repeat' ((first | refine hfk ?_ ?_ <;> intros | refine hik ?_ | with_reducible first | refine v6l (ih _ (w4t (show n + 1 < x.args.length by omega)) (hx.arg _ (w4t (show n + 1 < x.args.length by omega)))) ?_ | refine vgi (ih _ (w4t (show n + 1 < x.args.length by omega)) (hx.arg _ (w4t (show n + 1 < x.args.length by omega)))) ?_) <;> refine hgS ?_)
          · refine ⟨n + 1 + 1, by omega, by omega, StH.back [1, 2, 3, 4] 3 4 4 rfl rfl rfl rfl rfl (by kernel_rfl) (StH.same svl ?_)⟩
            have ht : (x.args.take (n + 1 + 1)).map (Ex.cells ∘ Ex.yoa) = (x.args.take (n + 1)).map (Ex.cells ∘ Ex.yoa) ++ [exC (Ex.yoa (x.args.getD (n + 1) default))] := by
              rw [z4f (by omega)]
              simp only [List.map_append, List.map_cons, List.map_nil, Function.comp, Ex.vle]
            simp only [ht, List.length_append, List.length_map, List.length_singleton, hlen]
            try rfl
          · have e : x.args.take (n + 1) = x.args := List.take_of_length_le (by omega)
            exact RLe.ofEq (by rw [← hR, e, ← List.map_map]; first | rfl | (rw [show cI 0 = cI x.op by simp [*]]; rfl))
theorem cNames16 (op : Int) (nm : ByteArray) : ∀ x : Ex, x.Sm → CallsD Γ prog 24 [.agg (exC x), .one (cI op), .one (cS nm)] (.one (cB (x.has op nm))) := by
  refine Ex.ind (fun x ih hx => ?_)
  have hl := hx.len
  generalize hR : x.has op nm = R
  refine CallsD.run [] Go.Proofs.Tryz.func24 rfl rfl rfl ?_; simp only [Go.Proofs.Tryz.f24]; refine hgR ?_
  refine y55 [1, 2, 3] (fun n : Nat => [(7, .one (.dat (cI n)))]) (fun _ => [.box ((exC x).map .dat) (some 24)]) (fun n => n ≤ x.args.length ∧ ∀ j, j < n → (x.args.getD j default).has op nm = false) (fun n => x.args.length - n) 0 ⟨Nat.zero_le _, fun j hj => by omega⟩ ?_ ?_
  · refine hg ?_
    exact StH.same svl rfl
  intro n hn
  obtain ⟨hn, hj⟩ := hn
  refine hg ?_
  repeat' ((first | refine hfk ?_ ?_ <;> intros | refine hik ?_ | with_reducible first | refine v6l (ih _ (w4t (show n < x.args.length by omega)) (hx.arg _ (w4t (show n < x.args.length by omega)))) ?_ | refine vgi (ih _ (w4t (show n < x.args.length by omega)) (hx.arg _ (w4t (show n < x.args.length by omega)))) ?_) <;> refine hgS ?_)
  · rename_i h
    exact RLe.ofEq (by rw [← hR, Ex.has_eq, any_true (by omega) h]; rfl)
  · rename_i h
    exact ⟨n + 1, ⟨by omega, xf4 hj h⟩, by omega, StH.same svl rfl⟩
  all_goals
    have e : n = x.args.length := by omega
    subst e
    exact RLe.ofEq (by rw [← hR, Ex.has_eq, any_false hj]; simp [*])
end Go.Hp.T
