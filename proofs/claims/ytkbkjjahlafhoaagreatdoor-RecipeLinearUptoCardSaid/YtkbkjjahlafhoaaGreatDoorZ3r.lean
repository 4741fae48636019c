/- RecipeLinear: the walk. -/
import Derived.Test.YtkbkjjahlafhoaaGreatDoorZ15
import Derived.Test.YtkbkjjahlafhoaaGreatDoorZ35
/- RecipeLinear: the walk. -/
namespace Go.Hp.T
open Go Go.RowKit Go.Slot Go.Hp Go.Slot.T
open Go.Proofs.Tryz
attribute [local irreducible] hide RH
set_option maxRecDepth 10000
set_option maxHeartbeats 8000000
variable {Γ : List (Nat × List Cell)}
abbrev linA (f : Fl) (a b : List Fc) : List AV := [.agg (flC f), .one (frsC a), .one (frsC b)]
theorem fewFr_ok {l : List Fc} (h : y2k l = true) : l.length ≤ 8 ∧ ∀ x ∈ l, x.sz ≤ 4 := by
  unfold y2k at h
  simp only [Bool.and_eq_true, decide_eq_true_eq, List.all_eq_true] at h
  exact ⟨by omega, h.2⟩
theorem fewFl_ok {f : Fl} (h : zbg f = true) : (f.srcs.length ≤ 6 ∧ f.outs.length ≤ 6 ∧ f.shares.length ≤ 8) ∧ ∀ r ∈ f.shares, r.length ≤ 8 ∧ ∀ x ∈ r, x.sz ≤ 4 := by
  unfold zbg at h
  simp only [Bool.and_eq_true, decide_eq_true_eq, List.all_eq_true] at h
  exact ⟨⟨by omega, by omega, by omega⟩, fun r hr => fewFr_ok (h.2 r hr)⟩
theorem wLin0 (hG : w2q Γ 0 = .elt sgC) (f : Fl) (a b : List Fc) (hf : f.Big) (ha : a.length ≤ 1048576 ∧ ∀ x ∈ a, x.sz ≤ 1048576) (hb : b.length ≤ 1048576 ∧ ∀ x ∈ b, x.sz ≤ 1048576) (h : ¬ (zbg f = true ∧ y2k a = true ∧ y2k b = true)) : CallsD Γ prog 5 (linA f a b) (.one (cB true)) := by
  have c0 := z9f hG
  have c1 := ym3 (Γ := Γ) f hf
  have c2 := zex (Γ := Γ) a ha.1 (fun x hx => Nat.le_trans (ha.2 x hx) (by decide))
  have c3 := zex (Γ := Γ) b hb.1 (fun x hx => Nat.le_trans (hb.2 x hx) (by decide))
  have h' : ∃ _ : Unit, ¬ (zbg f = true ∧ y2k a = true ∧ y2k b = true) := ⟨(), h⟩
  clear hG h
  generalize zbg f = q1 at *
  generalize y2k a = q2 at *
  generalize y2k b = q3 at *
  have hk : q1 = false ∨ (q1 = true ∧ q2 = false) ∨ (q1 = true ∧ q2 = true ∧ q3 = false) := by
    obtain ⟨_, h⟩ := h'
    cases q1 <;> cases q2 <;> cases q3 <;> simp_all
  clear h' hf ha hb
  rcases hk with rfl | ⟨rfl, rfl⟩ | ⟨rfl, rfl, rfl⟩
  · clear c2 c3
    refine hE [] func5 f5.eq_1 ?_
    repeat' first | refine hF ?_ ?_ <;> intros | refine hI ?_ | (with_reducible first | refine w5a (c0) ?_ | refine xqd (c0) ?_ | refine w5a (c1) ?_ | refine xqd (c1) ?_)<;>refine hgS ?_
    exact RLe.ofEq rfl
  · clear c3
    refine hE [] func5 f5.eq_1 ?_
    repeat' first | refine hF ?_ ?_ <;> intros | refine hI ?_ | (with_reducible first | refine w5a (c0) ?_ | refine xqd (c0) ?_ | refine w5a (c1) ?_ | refine xqd (c1) ?_ | refine w5a (c2) ?_ | refine xqd (c2) ?_)<;>refine hgS ?_
    exact RLe.ofEq rfl
  · refine hE [] func5 f5.eq_1 ?_
    repeat' first | refine hF ?_ ?_ <;> intros | refine hI ?_ | (with_reducible first | refine w5a (c0) ?_ | refine xqd (c0) ?_ | refine w5a (c1) ?_ | refine xqd (c1) ?_ | refine w5a (c2) ?_ | refine xqd (c2) ?_ | refine w5a (c3) ?_ | refine xqd (c3) ?_)<;>refine hgS ?_
    exact RLe.ofEq rfl
theorem flSm_of {f : Fl} (hf : f.Big) (h : zbg f = true) : f.Sm := ⟨hf.sl, hf.ol, hf.hl, hf.rl, fun r hr x hx => Nat.le_trans ((fewFl_ok h).2 r hr |>.2 x hx) (by decide)⟩
theorem wLin1 (hG : w2q Γ 0 = .elt sgC) (f : Fl) (a b : List Fc) (hf : f.Big) (ha : a.length ≤ 1048576) (hb : b.length ≤ 1048576) (h1 : zbg f = true) (h2 : y2k a = true) (h3 : y2k b = true) (h : ¬ (ypc f a = true ∧ ypc f b = true)) : CallsD Γ prog 5 (linA f a b) (.one (cB true)) := by
  have c0 := z9f hG
  have c1 := ym3 (Γ := Γ) f hf
  have c2 := zex (Γ := Γ) a ha (fun x hx => Nat.le_trans ((fewFr_ok h2).2 x hx) (by decide))
  have c3 := zex (Γ := Γ) b hb (fun x hx => Nat.le_trans ((fewFr_ok h3).2 x hx) (by decide))
  have c4 := vcl (Γ := Γ) f a (flSm_of hf h1) ha (fun x hx => Nat.le_trans ((fewFr_ok h2).2 x hx) (by decide))
  have c5 := vcl (Γ := Γ) f b (flSm_of hf h1) hb (fun x hx => Nat.le_trans ((fewFr_ok h3).2 x hx) (by decide))
  rw [h1] at c1
  rw [h2] at c2
  rw [h3] at c3
  have hr : ypc f a = false → runF f a = [] := fun h => by unfold runF; rw [h]; rfl
  have hl : (runF f a).length ≤ 1048576 := by
    unfold runF
    cases ypc f a with
    | true => rw [cond_true, List.length_map]; exact hf.hl
    | false => exact Nat.zero_le _
  cases hx : ypc f a with
  | false =>
    rw [hx, hr hx] at c4
    clear hr hl h1 h2 h3 h hf ha hb hG hx
    generalize runF f b = y at *
    generalize ypc f b = two at *
    refine hE [] func5 f5.eq_1 ?_
    repeat' first | refine hF ?_ ?_ <;> intros | refine hI ?_ | (with_reducible first | refine w5a (c0) ?_ | refine xqd (c0) ?_ | refine w5a (c1) ?_ | refine xqd (c1) ?_ | refine w5a (c2) ?_ | refine xqd (c2) ?_ | refine w5a (c3) ?_ | refine xqd (c3) ?_ | refine w5a (c4) ?_ | refine xqd (c4) ?_ | refine w5a (c5) ?_ | refine xqd (c5) ?_)<;>refine hgS ?_
    all_goals first
      | exact RLe.ofEq rfl
      | (exfalso; omega)
  | true =>
    have hy : ypc f b = false := by
      cases hy : ypc f b with
      | false => rfl
      | true => exact absurd ⟨hx, hy⟩ h
    rw [hx] at c4
    rw [hy] at c5
    clear hr h1 h2 h3 h hf ha hb hG hx hy
    generalize runF f b = y at *
    generalize runF f a = x at *
    refine hE [] func5 f5.eq_1 ?_
    repeat' first | refine hF ?_ ?_ <;> intros | refine hI ?_ | (with_reducible first | refine w5a (c0) ?_ | refine xqd (c0) ?_ | refine w5a (c1) ?_ | refine xqd (c1) ?_ | refine w5a (c2) ?_ | refine xqd (c2) ?_ | refine w5a (c3) ?_ | refine xqd (c3) ?_ | refine w5a (c4) ?_ | refine xqd (c4) ?_ | refine w5a (c5) ?_ | refine xqd (c5) ?_)<;>refine hgS ?_
    all_goals first
      | exact RLe.ofEq rfl
      | (exfalso; omega)
theorem runF_sz {f : Fl} {a : List Fc} {k : Nat} (h : ypc f a = true) (hf : FlOk f) (ha : ∀ x ∈ a, x.sz ≤ k) (hz : ∀ r ∈ f.shares, ∀ x ∈ r, x.sz ≤ k) {i : Nat} (hi : i < f.outs.length) : ((runF f a).getD i Fc.zero).sz ≤ f.srcs.length * (2 * k + 1) + 1 := by
  have hm : f.shares.getD i default ∈ f.shares := vdv (by rw [hf.len]; exact hi)
  rw [vnn h hf hi]
  exact x01 ha (hz _ hm) _ (by rw [hf.row _ hm]; exact Nat.le_refl _) (by rw [(wp3 h).2.1]; exact Nat.le_refl _)
/-- one of the first amounts is negative -/
def negF (a : List Fc) (n : Nat) : Bool := (List.range n).any fun j => decide (Fc.sign (a.getD j Fc.zero) < 0)
theorem negF_zero (a : List Fc) : negF a 0 = false := rfl
theorem negF_succ (a : List Fc) (n : Nat) : negF a (n + 1) = (negF a n || decide (Fc.sign (a.getD n Fc.zero) < 0)) := by
  unfold negF
  rw [List.range_succ, List.any_append, List.any_cons, List.any_nil, Bool.or_false]
theorem negF_no {a : List Fc} {n : Nat} (h : negF a n = false) : ∀ i, i < n → ¬ Fc.sign (a.getD i Fc.zero) < 0 := fun i hi hs => by
  unfold negF at h
  rw [List.any_eq_false] at h
  exact h i (List.mem_range.2 hi) (decide_eq_true hs)
theorem wLin2 (hG : w2q Γ 0 = .elt sgC) (f : Fl) (a b : List Fc) (hf : f.Big) (ha : a.length ≤ 1048576) (hb : b.length ≤ 1048576) (h1 : zbg f = true) (h2 : y2k a = true) (h3 : y2k b = true) (hx : ypc f a = true) (hy : ypc f b = true) : CallsD Γ prog 5 (linA f a b) (.one (cB true)) := by
  have c0 := z9f hG
  have c1 := ym3 (Γ := Γ) f hf
  have za := (fewFr_ok h2).2
  have zb := (fewFr_ok h3).2
  have zf := fun r hr => ((fewFl_ok h1).2 r hr).2
  obtain ⟨⟨n1, n2, n3⟩, _⟩ := fewFl_ok h1
  have hs := flSm_of hf h1
  have c2 := zex (Γ := Γ) a ha (fun x hx => Nat.le_trans (za x hx) (by decide))
  have c3 := zex (Γ := Γ) b hb (fun x hx => Nat.le_trans (zb x hx) (by decide))
  have c4 := vcl (Γ := Γ) f a hs ha (fun x hx => Nat.le_trans (za x hx) (by decide))
  have c5 := vcl (Γ := Γ) f b hs hb (fun x hx => Nat.le_trans (zb x hx) (by decide))
  have L := x5e hx hy
  have hk := v19 (wp3 hx).1
  have zs : ∀ x ∈ sumL a b a.length, x.sz ≤ 9 := fun x hx => by
    unfold sumL at hx
    obtain ⟨i, hi, rfl⟩ := List.mem_map.1 hx
    have hi := List.mem_range.1 hi
    have e1 := za _ (ldM (d := Fc.zero) hi)
    have e2 := zb _ (ldM (d := Fc.zero) (show i < b.length by rw [L.lb, ← L.la]; exact hi))
    have := Fc.vdr (a.getD i Fc.zero) (b.getD i Fc.zero)
    omega
  have c6 := vcl (Γ := Γ) f (sumL a b a.length) hs (by rw [xby]; exact ha) (fun x hx => Nat.le_trans (zs x hx) (by decide))
  have sx : ∀ i, i < f.outs.length → ((runF f a).getD i Fc.zero).sz ≤ 1000 := fun i hi => by
    have := runF_sz hx hk za zf hi
    omega
  have sy : ∀ i, i < f.outs.length → ((runF f b).getD i Fc.zero).sz ≤ 1000 := fun i hi => by
    have := runF_sz hy hk zb zf hi
    omega
  have hel := L.el
  have hnn := fun h => L.nn (negF_no h)
  have la := L.la
  have lb := L.lb
  have lx := L.lx
  have ly := L.ly
  have lz := L.lz
  rw [L.ok] at c6
  rw [h1] at c1
  rw [h2] at c2
  rw [h3] at c3
  rw [hx] at c4
  rw [hy] at c5
  have hadd : ∀ i, i < a.length → ∃ e, CallsD Γ prog 18 [.agg (fcC (a.getD i Fc.zero)), .agg (fcC (b.getD i Fc.zero))] (.tup [.agg (fcC (Fc.add (a.getD i Fc.zero) (b.getD i Fc.zero))), .one (cI e)]) := fun i hi => fAdd _ _ (Nat.le_trans (za _ (ldM hi)) (by decide)) (Nat.le_trans (zb _ (ldM (by omega))) (by decide))
  have hsg : ∀ i, i < a.length → CallsD Γ prog 19 [.agg (fcC (a.getD i Fc.zero))] (.one (cI (Fc.sign (a.getD i Fc.zero)))) := fun i hi => xo4 _ (Nat.le_trans (za _ (ldM hi)) (by decide))
  clear L hk zs za zb zf h1 h2 h3 hx hy hs hf hG
  generalize runF f a = x at *
  generalize runF f b = y at *
  generalize runF f (sumL a b a.length) = z at *
  refine hE [] func5 f5.eq_1 ?_
  repeat' first | refine hF ?_ ?_ <;> intros | refine hI ?_ | (with_reducible first | refine w5a (c0) ?_ | refine xqd (c0) ?_ | refine w5a (c1) ?_ | refine xqd (c1) ?_ | refine w5a (c2) ?_ | refine xqd (c2) ?_ | refine w5a (c3) ?_ | refine xqd (c3) ?_ | refine w5a (c4) ?_ | refine xqd (c4) ?_ | refine w5a (c5) ?_ | refine xqd (c5) ?_)<;>refine hgS ?_
  all_goals try (exfalso; omega)
  clear c0 c1 c2 c3 c4 c5
  refine vi3 [1, 2, 3, 7, 8, 10] (fun i : Nat => [(12, .one (.sl 1 4 0 i)), (13, .one (.dat (cB (negF a i)))), (14, .one (.dat (cI i)))]) (fun i => [flB f, .arr (.sl 4 ((sumL a b i).map Fc.C)) 0 (some 51)]) (fun i => i ≤ a.length) (fun i => a.length - i) 0 (Nat.zero_le _) ?_ ?_
  · refine hg ?_
    refine StH.trans (StH.empty (d := 12) (es := 4) (c := .sl 4 []) (T := some 51) rfl rfl (fun r hr => by cases hr) rfl) ?_
    refine hg ?_
    exact sS
  intro i hi
  have hsl := xby (a := a) (b := b) (n := i)
  refine hg ?_
  refine vdi (fun hlt _ => ?_) (fun hlt _ => ?_)
  · have hlt' : i < a.length := by omega
    obtain ⟨e, q1⟩ := hadd i hlt'
    have q2 := hsg i hlt'
    have hss := zaw (a := a) (b := b) (n := i)
    have hns := negF_succ a i
    clear c6 hadd hsg hel hnn sx sy
    generalize negF a i = ng at *
    refine hg ?_
    repeat' first | refine hF ?_ ?_ <;> intros | refine hI ?_ | (with_reducible first | refine w5a (q1) ?_ | refine xqd (q1) ?_ | refine w5a (q2) ?_ | refine xqd (q2) ?_)<;>refine hgS ?_
    all_goals
      refine ⟨i + 1, by omega, by omega, ?_⟩
      refine StH.back [1, 2, 3, 7, 8, 10, 12, 13, 14] 1 3 2 rfl rfl rfl rfl rfl (by kernel_rfl) ?_
      try simp only
      rw [hss, hns]
      first | rw [show ng = false by assumption, Bool.false_or] | rw [show ng = true by assumption, Bool.true_or]
      refine hg3 @List.length_append.{0} @List.length_singleton.{0} @hsl ?_
      exact StH.same svl (by simp only [List.map_append, List.map_cons, List.map_nil]; rfl)
  have ei : i = a.length := by omega
  subst ei
  have hsx : ∀ i, i < x.length → ∃ e, CallsD Γ prog 18 [.agg (fcC (x.getD i Fc.zero)), .agg (fcC (y.getD i Fc.zero))] (.tup [.agg (fcC (Fc.add (x.getD i Fc.zero) (y.getD i Fc.zero))), .one (cI e)]) := fun i hi => fAdd _ _ (Nat.le_trans (sx i (by omega)) (by decide)) (Nat.le_trans (sy i (by omega)) (by decide))
  have hss : ∀ i, i < x.length → CallsD Γ prog 12 [.agg (fcC (z.getD i Fc.zero)), .agg (fcC (Fc.add (x.getD i Fc.zero) (y.getD i Fc.zero)))] (.one (cB true)) := fun i hi => by
    have h1 := sx i (by omega)
    have h2 := sy i (by omega)
    have h3 := Fc.vdr (x.getD i Fc.zero) (y.getD i Fc.zero)
    rw [hel i (by omega)]
    exact w7v _ (by omega)
  have hsn : ∀ i, i < x.length → CallsD Γ prog 19 [.agg (fcC (x.getD i Fc.zero))] (.one (cI (Fc.sign (x.getD i Fc.zero)))) := fun i hi => xo4 _ (Nat.le_trans (sx i (by omega)) (by decide))
  have hng : ∀ i, i < x.length → negF a a.length = false → ¬ Fc.sign (x.getD i Fc.zero) < 0 := fun i hi h => hnn h i (by omega)
  have lxx : x.length ≤ 6 := by omega
  clear hadd hsg hel hnn sx sy la lb hi hlt
  generalize negF a a.length = ng at *
  generalize sumL a b a.length = sm at *
  rw [← hsl]
  have hsb : sm.length ≤ 1048576 := by omega
  clear hsl
  refine hg ?_
  repeat' first | refine hF ?_ ?_ <;> intros | refine hI ?_ | (with_reducible first | refine w5a (c6) ?_ | refine xqd (c6) ?_)<;>refine hgS ?_
  all_goals try (exfalso; omega)
  clear c6
  refine vi3 [3, 7, 8, 10, 13, 17] (fun i : Nat => [(19, .one (.dat (cI i)))]) (fun _ => [flB f]) (fun i => i ≤ x.length) (fun i => x.length - i) 0 (Nat.zero_le _) ?_ ?_
  · refine hg ?_
    refine StH.cutN [3, 7, 8, 10, 13, 17, 19] 1 rfl ?_ ?_
    · refine hg ?_
      first | exact trivial | rfl
    exact sS
  intro i hi
  refine hg ?_
  refine vdi (fun hlt _ => ?_) (fun hlt _ => ?_)
  · have hlt' : i < x.length := by omega
    obtain ⟨e, q1⟩ := hsx i hlt'
    have q2 := hss i hlt'
    have q3 := hsn i hlt'
    have q4 : ∃ _ : Unit, (ng = false → ¬ Fc.sign (x.getD i Fc.zero) < 0) := ⟨(), hng i hlt'⟩
    clear hsx hss hsn hng
    refine hg ?_
    repeat' first | refine hF ?_ ?_ <;> intros | refine hI ?_ | (with_reducible first | refine w5a (q1) ?_ | refine xqd (q1) ?_ | refine w5a (q2) ?_ | refine xqd (q2) ?_ | refine w5a (q3) ?_ | refine xqd (q3) ?_)<;>refine hgS ?_
    all_goals first
      | (refine ⟨i + 1, by omega, by omega, ?_⟩
         refine StH.cutN [3, 7, 8, 10, 13, 17, 19] 1 rfl ?_ ?_
         · refine hg ?_
           first | exact trivial | rfl
         exact sS)
      | (exfalso
         obtain ⟨_, q4⟩ := q4
         exact q4 (by assumption) (by assumption))
      | exact RLe.ofEq rfl
  clear hsx hss hsn hng
  refine hg ?_
  repeat' first | refine hF ?_ ?_ <;> intros | refine hI ?_
  exact RLe.ofEq rfl
theorem wLinear (hG : w2q Γ 0 = .elt sgC) (f : Fl) (a b : List Fc) (hf : f.Big) (ha : a.length ≤ 1048576 ∧ ∀ x ∈ a, x.sz ≤ 1048576) (hb : b.length ≤ 1048576 ∧ ∀ x ∈ b, x.sz ≤ 1048576) : CallsD Γ prog 5 (linA f a b) (.one (cB true)) := by
  by_cases h : zbg f = true ∧ y2k a = true ∧ y2k b = true
  · by_cases h' : ypc f a = true ∧ ypc f b = true
    · exact wLin2 hG f a b hf ha.1 hb.1 h.1 h.2.1 h.2.2 h'.1 h'.2
    · exact wLin1 hG f a b hf ha.1 hb.1 h.1 h.2.1 h.2.2 h'
  · exact wLin0 hG f a b hf ha hb h
end Go.Hp.T
