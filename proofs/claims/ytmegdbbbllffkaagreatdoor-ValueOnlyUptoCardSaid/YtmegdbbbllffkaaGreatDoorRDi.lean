/- Law 16: the walk of ValueOnly. -/
import Derived.Test.YtmegdbbbllffkaaGreatDoorR39u
import Derived.Test.YtmegdbbbllffkaaGreatDoorRDb
/- Law 16: the walk of ValueOnly. -/
namespace Go.Hp.T
open Go Go.RowKit Go.Slot Go.Hp Go.Slot.T
open Go.Proofs.Tryz (prog)
set_option maxRecDepth 10000
set_option maxHeartbeats 4000000
variable {α:Type}
theorem drop_rev [Inhabited α] {l : List α} {m : Nat} (p : α → Bool) (h : m < l.length) : (l.drop m).reverse.filter p = (l.drop (m + 1)).reverse.filter p ++ (bif p (l.getD m default) then [l.getD m default] else []) := by
  rw [xqz h, List.reverse_cons, List.filter_append]
  show _ ++ List.filter p [l.getD m default] = _
  rw [List.filter_cons]
  cases p (l.getD m default) <;> rfl
theorem drop_len (l : List α) (n : Nat) (p : α → Bool) (h : l.length ≤ 1048576) : ((l.drop n).reverse.filter p).length ≤ 1048576 := by
  have h1 := List.length_filter_le p (l.drop n).reverse
  rw [List.length_reverse, List.length_drop] at h1
  omega
theorem wValOnly (x : Ex) (bs : List Bd) (ms : List Tb) (h : Ar16 x bs ms) : CallsD Gs prog 7 [.agg (exC x), .one (.sl 5 (bs.map Bd.C)), .one (.sl 3 (ms.map Tb.C))] (.one (cB true)) := by
  have s1 := zcg
  have f1 := wc3 (Γ := Gs) x bs ms h.x (by have := h.b; omega) h.bs (by have := h.m; omega) h.ms
  cases hf : wjp x bs ms with
  | false =>
    rw [hf] at f1
    refine CallsD.run [] Go.Proofs.Tryz.func7 rfl rfl rfl ?_; simp only [Go.Proofs.Tryz.f7]; refine hgR ?_
    repeat' ((first | refine hfk ?_ ?_ <;> intros | refine hik ?_ | with_reducible first | refine v6l (s1) ?_ | refine vgi (s1) ?_ | refine v6l (f1) ?_ | refine vgi (f1) ?_) <;> refine hgS ?_)
    exact RLe.ofEq rfl
  | true =>
    rw [hf] at f1
    have c3 := yiu (Γ := Gs) bs ms h.b h.m h.bs (fun b hb => Nat.le_trans ((vyj hf).1 b hb) (by decide)) h.ms
    cases hE : (entF bs ms).isSome with
    | false =>
      rw [hE] at c3
      refine CallsD.run [] Go.Proofs.Tryz.func7 rfl rfl rfl ?_; simp only [Go.Proofs.Tryz.f7]; refine hgR ?_
      repeat' ((first | refine hfk ?_ ?_ <;> intros | refine hik ?_ | with_reducible first | refine v6l (s1) ?_ | refine vgi (s1) ?_ | refine v6l (f1) ?_ | refine vgi (f1) ?_ | refine v6l (c3) ?_ | refine vgi (c3) ?_) <;> refine hgS ?_)
      exact RLe.ofEq rfl
    | true =>
      rw [hE] at c3
      have o1 := h.of hf (Γ := Gs)
      have o2 := vsb (Γ := Gs) x (bs.reverse.filter fun b => x.has 1 b.name) (ms.reverse.filter fun t => x.has 2 t.name) h.x
        (by have := List.length_filter_le (fun b : Bd => x.has 1 b.name) bs.reverse; have := h.b; rw [List.length_reverse] at *; omega)
        (by have := List.length_filter_le (fun b : Tb => x.has 2 b.name) ms.reverse; have := h.m; rw [List.length_reverse] at *; omega)
        (fun b hb => by
          have hb' := List.mem_reverse.1 (List.mem_filter.1 hb).1
          exact ⟨(h.bs b hb').n, Nat.le_trans ((vyj hf).1 b hb') (by decide)⟩)
        (fun t ht => h.ms t (List.mem_reverse.1 (List.mem_filter.1 ht).1))
      rw [z1u x bs ms hE] at o2
      have hq := y4l (x := x) hf
      have n1 : ∀ b ∈ bs, CallsD Gs prog 24 [.agg (exC x), .one (cI 1), .one (cS b.name)] (.one (cB (x.has 1 b.name))) := fun b _ => cNames16 1 b.name x h.x
      have n2 : ∀ t ∈ ms, CallsD Gs prog 24 [.agg (exC x), .one (cI 2), .one (cS t.name)] (.one (cB (x.has 2 t.name))) := fun t _ => cNames16 2 t.name x h.x
      have hbl := h.b
      have hml := h.m
      generalize valF x bs ms = r at o1 o2 hq
      obtain ⟨r, e⟩ := r
      have sm := x6g (Γ := Gs) r r hq hq
      rw [decide_eq_true rfl] at sm
      obtain ⟨t, i, v⟩ := r
      clear h hf hE
      have hd : (bs.drop bs.length).reverse.filter (fun b => x.has 1 b.name) = [] := by rw [List.drop_length]; rfl
      have hd2 : (ms.drop ms.length).reverse.filter (fun b => x.has 2 b.name) = [] := by rw [List.drop_length]; rfl
      have hz : (bs.drop 0).reverse.filter (fun b => x.has 1 b.name) = bs.reverse.filter (fun b => x.has 1 b.name) := rfl
      have hz2 : (ms.drop 0).reverse.filter (fun b => x.has 2 b.name) = ms.reverse.filter (fun b => x.has 2 b.name) := rfl
      refine CallsD.run [] Go.Proofs.Tryz.func7 rfl rfl rfl ?_; simp only [Go.Proofs.Tryz.f7]; refine hgR ?_
      repeat' ((first | refine hfk ?_ ?_ <;> intros | refine hik ?_ | with_reducible first | refine v6l (s1) ?_ | refine vgi (s1) ?_ | refine v6l (f1) ?_ | refine vgi (f1) ?_ | refine v6l (c3) ?_ | refine vgi (c3) ?_) <;> refine hgS ?_)
      refine y55 [1, 2, 3, 7] (fun n : Nat => [(8, .one (.sl 1 5 0 ((bs.drop n).reverse.filter fun b => x.has 1 b.name).length)), (9, .one (.dat (cI ((n : Int) - 1))))]) (fun n => [.box ((exC x).map .dat) (some 24), .arr (.sl 5 (((bs.drop n).reverse.filter fun b => x.has 1 b.name).map Bd.C)) 0 (some 55)]) (fun n => n ≤ bs.length) (fun n => n) bs.length (Nat.le_refl _) ?_ ?_
      · rw [hd]
        refine hg ?_
        refine StH.trans (StH.empty (d := 8) (es := 5) (c := .sl 5 []) (T := some 55) rfl rfl (fun r hr => by cases hr) rfl) ?_
        refine hg ?_
        exact StH.same svl rfl
      rintro n hn
      rcases n with _ | m
      · rw [hz]
        refine hg ?_
        refine y55 [1, 2, 3, 7, 8] (fun n : Nat => [(10, .one (.sl 2 3 0 ((ms.drop n).reverse.filter fun b => x.has 2 b.name).length)), (11, .one (.dat (cI ((n : Int) - 1))))]) (fun n => [.box ((exC x).map .dat) (some 24), .arr (.sl 5 ((bs.reverse.filter fun b => x.has 1 b.name).map Bd.C)) 0 (some 55), .arr (.sl 3 (((ms.drop n).reverse.filter fun b => x.has 2 b.name).map Tb.C)) 0 (some 60)]) (fun n => n ≤ ms.length) (fun n => n) ms.length (Nat.le_refl _) ?_ ?_
        · rw [hd2]
          refine hg ?_
          refine StH.trans (StH.empty (d := 10) (es := 3) (c := .sl 3 []) (T := some 60) rfl rfl (fun r hr => by cases hr) rfl) ?_
          refine hg ?_
          exact StH.same svl rfl
        rintro n hn
        rcases n with _ | m
        · rw [hz2]
          refine hg ?_
          repeat' ((first | refine hfk ?_ ?_ <;> intros | refine hik ?_ | with_reducible first | refine v6l (o1) ?_ | refine vgi (o1) ?_ | refine v6l (o2) ?_ | refine vgi (o2) ?_ | refine v6l (sm) ?_ | refine vgi (sm) ?_) <;> refine hgS ?_)
          all_goals refine lfE ?_; first | exact trivial | rfl
        · have hm : (((m + 1 : Nat) : Int) - 1) = (m : Int) := by omega
          have hm0 : decide ((0 : Int) ≤ (m : Int)) = true := decide_eq_true (by omega)
          have hlt : m < ms.length := by omega
          have c1 := n2 _ (w4t hlt)
          have ht := drop_rev (fun b : Tb => x.has 2 b.name) hlt
          have hln := drop_len ms (m + 1) (fun b : Tb => x.has 2 b.name) (by assumption)
          clear n1 n2 o1 o2 sm hd hd2 hz hz2
          cases hh : x.has 2 (ms.getD m default).name with
          | true =>
            rw [hh] at c1 ht
            have ht1 : ((ms.drop (m + 1)).reverse.filter fun b => x.has 2 b.name).map Tb.C ++ [tbC (ms.getD m default)] = ((ms.drop m).reverse.filter fun b => x.has 2 b.name).map Tb.C := by rw [ht, List.map_append]; rfl
            have ht2 : (((ms.drop m).reverse.filter fun b => x.has 2 b.name).map Tb.C).length = ((ms.drop m).reverse.filter fun b => x.has 2 b.name).length := by rw [List.length_map]
            clear ht hh
            refine hg2 @hm @hm0 ?_
            repeat' ((first | refine hfk ?_ ?_ <;> intros | refine hik ?_ | with_reducible first | refine v6l (c1) ?_ | refine vgi (c1) ?_) <;> refine hgS ?_)
            refine ⟨m, by omega, by omega, ?_⟩
            try simp only [ht1, ht2]
            exact StH.back [1, 2, 3, 7, 8, 10, 11] 2 3 3 rfl rfl rfl rfl rfl (by kernel_rfl) (StH.same svl rfl)
          | false =>
            rw [hh] at c1 ht
            have ht' : (ms.drop m).reverse.filter (fun b => x.has 2 b.name) = (ms.drop (m + 1)).reverse.filter (fun b => x.has 2 b.name) := by rw [ht, cond_false, List.append_nil]
            clear hh ht
            refine hg2 @hm @hm0 ?_
            repeat' ((first | refine hfk ?_ ?_ <;> intros | refine hik ?_ | with_reducible first | refine v6l (c1) ?_ | refine vgi (c1) ?_) <;> refine hgS ?_)
            refine ⟨m, by omega, by omega, ?_⟩
            simp only [ht']
            exact StH.same svl rfl
      · have hm : (((m + 1 : Nat) : Int) - 1) = (m : Int) := by omega
        have hm0 : decide ((0 : Int) ≤ (m : Int)) = true := decide_eq_true (by omega)
        have hlt : m < bs.length := by omega
        have c1 := n1 _ (w4t hlt)
        have ht := drop_rev (fun b : Bd => x.has 1 b.name) hlt
        have hln := drop_len bs (m + 1) (fun b : Bd => x.has 1 b.name) (by assumption)
        clear n1 n2 o1 o2 sm hd hd2 hz hz2
        cases hh : x.has 1 (bs.getD m default).name with
        | true =>
          rw [hh] at c1 ht
          have ht1 : ((bs.drop (m + 1)).reverse.filter fun b => x.has 1 b.name).map Bd.C ++ [bdC (bs.getD m default)] = ((bs.drop m).reverse.filter fun b => x.has 1 b.name).map Bd.C := by rw [ht, List.map_append]; rfl
          have ht2 : (((bs.drop m).reverse.filter fun b => x.has 1 b.name).map Bd.C).length = ((bs.drop m).reverse.filter fun b => x.has 1 b.name).length := by rw [List.length_map]
          clear ht hh
          refine hg2 @hm @hm0 ?_
          repeat' ((first | refine hfk ?_ ?_ <;> intros | refine hik ?_ | with_reducible first | refine v6l (c1) ?_ | refine vgi (c1) ?_) <;> refine hgS ?_)
          refine ⟨m, by omega, by omega, ?_⟩
          try simp only [ht1, ht2]
          exact StH.back [1, 2, 3, 7, 8, 9] 1 2 2 rfl rfl rfl rfl rfl (by kernel_rfl) (StH.same svl rfl)
        | false =>
          rw [hh] at c1 ht
          have ht' : (bs.drop m).reverse.filter (fun b => x.has 1 b.name) = (bs.drop (m + 1)).reverse.filter (fun b => x.has 1 b.name) := by rw [ht, cond_false, List.append_nil]
          clear hh ht
          refine hg2 @hm @hm0 ?_
          repeat' ((first | refine hfk ?_ ?_ <;> intros | refine hik ?_ | with_reducible first | refine v6l (c1) ?_ | refine vgi (c1) ?_) <;> refine hgS ?_)
          refine ⟨m, by omega, by omega, ?_⟩
          simp only [ht']
          exact StH.same svl rfl
end Go.Hp.T
