/- Plain law: what a recipe's acceptance means; ParcelLess. -/
import Derived.Test.YtbdoipfmafbhoaaGreatDoorZ7i
/- Plain law: what a recipe's acceptance means; ParcelLess. -/
namespace Go.Hp.T
open Go Go.RowKit Go.Slot Go.Hp Go.Slot.T
set_option maxRecDepth 10000
/-- the book before step i -/
def bookN (l : List Stp) : Nat → Mb
  | 0 => []
  | i + 1 => addT (bookN l i) i (xxm (l.getD i default))
theorem bookN_ok (l : List Stp) : ∀ i, zk3 l i (bookN l i)
  | 0 => .nil l
  | i + 1 => (bookN_ok l i).step
theorem bookN_congr {l m : List Stp} : ∀ i, (∀ j, j < i → l.getD j default = m.getD j default) → bookN l i = bookN m i
  | 0, _ => rfl
  | i + 1, h => by rw [bookN, bookN, bookN_congr i (fun j hj => h j (by omega)), h i (by omega)]
theorem lookL_pre {C I : Ms} {N : Mn} {kind : ByteArray} {l : List Stp} : ∀ n, n ≤ l.length → (∀ j, j < n → vgt C I N (bookN l j) kind (l.getD j default) = 0) → vyy C I N kind l 0 [] = vyy C I N kind (l.drop n) n (bookN l n)
  | 0, _, _ => rfl
  | n + 1, hn, h => by
    rw [lookL_pre n (by omega) (fun j hj => h j (by omega)), wsu hn, vyy, h n (by omega), decide_eq_false (by simp), cond_false]
    rfl
theorem lookL_inr {C I : Ms} {N : Mn} {kind : ByteArray} {l : List Stp} {H : Mb} : ∀ (n i : Nat), n = l.length - i → i ≤ l.length → vyy C I N kind (l.drop i) i (bookN l i) = .inr H → (∀ j, i ≤ j → j < l.length → vgt C I N (bookN l j) kind (l.getD j default) = 0) ∧ H = bookN l l.length
  | 0, i, hn, hi, h => by
    have e : i = l.length := by omega
    rw [List.drop_of_length_le (by omega), vyy] at h
    exact ⟨fun j h1 h2 => by omega, by rw [← e]; exact (Sum.inr.inj h).symm⟩
  | n + 1, i, hn, hi, h => by
    have hl : i < l.length := by omega
    rw [wsu hl, vyy] at h
    by_cases hw : vgt C I N (bookN l i) kind (l.getD i default) = 0
    · rw [hw, decide_eq_false (by simp), cond_false] at h
      have ih := lookL_inr n (i + 1) (by omega) hl h
      refine ⟨fun j h1 h2 => ?_, ih.2⟩
      rcases Nat.eq_or_lt_of_le h1 with rfl | h1
      · exact hw
      · exact ih.1 j h1 h2
    · rw [decide_eq_true hw, cond_true] at h
      cases h
structure Acc (s : Sht) (r : Int) (x : Rcp) : Prop where
  hR : x7y s = true
  h0 : 0 ≤ r
  h1 : r < s.recipes.length
  hw : ∀ i, i < x.steps.length → vgt (xgh s) (y5s s) (w3n s) (bookN x.steps i) x.kind (x.steps.getD i default) = 0
  hg : (gapR s x (bookN x.steps x.steps.length)).2 = false
theorem lookM_acc {s : Sht} {r : Int} (h : (yr2 s r).1 = 0) : Acc s r (s.recipes.getD r.toNat default) := by
  unfold yr2 at h
  cases hc : (!x7y s || (decide (r < 0) || decide ((s.recipes.length : Int) ≤ r))) with
  | true => rw [hc] at h; exact absurd h (show ¬ (1 : Int) = 0 by decide)
  | false =>
    rw [hc, cond_false] at h
    simp only [Bool.or_eq_false_iff, Bool.not_eq_false', decide_eq_false_iff_not] at hc
    obtain ⟨hR, h0, h1⟩ := hc
    generalize s.recipes.getD r.toNat default = x at *
    have sp := yf0 (C := xgh s) (I := y5s s) (N := w3n s) (kind := x.kind) (l := x.steps) _ 0 [] rfl (Nat.zero_le _) (.nil _)
    rw [List.drop_zero] at sp
    cases hL : vyy (xgh s) (y5s s) (w3n s) x.kind x.steps 0 [] with
    | inl k =>
      rw [hL] at sp h
      dsimp only at sp h
      obtain ⟨j, H, hj, hb, hw, rfl⟩ := sp
      exact absurd h hw
    | inr H =>
      rw [hL] at h
      dsimp only at h
      have hi := lookL_inr (l := x.steps) _ 0 rfl (Nat.zero_le _) hL
      obtain ⟨h2, rfl⟩ := hi
      refine ⟨hR, by omega, by omega, fun i hi => h2 i (Nat.zero_le _) hi, ?_⟩
      unfold endL at h
      cases hg : (gapR s x (bookN x.steps x.steps.length)).2 with
      | false => rfl
      | true => rw [hg] at h; exact absurd h (by simp)
theorem lookM_arg {s : Sht} {r : Int} (hR : x7y s = true) (h0 : 0 ≤ r) (h1 : r < s.recipes.length) : ¬ (yr2 s r).1 = 1 := by
  unfold yr2
  rw [hR, decide_eq_false (show ¬ r < 0 by omega), decide_eq_false (show ¬ (s.recipes.length : Int) ≤ r by omega)]
  generalize s.recipes.getD r.toNat default = x at *
  have sp := yf0 (C := xgh s) (I := y5s s) (N := w3n s) (kind := x.kind) (l := x.steps) _ 0 [] rfl (Nat.zero_le _) (.nil _)
  rw [List.drop_zero] at sp
  cases hL : vyy (xgh s) (y5s s) (w3n s) x.kind x.steps 0 [] with
  | inl k =>
    rw [hL] at sp
    dsimp only at sp
    obtain ⟨j, H, hj, hb, hw, rfl⟩ := sp
    show ¬ vgt _ _ _ _ _ _ = 1
    rcases vf7 hw with e | e | ⟨e, _⟩ <;> rw [e] <;> decide
  | inr H =>
    show ¬ (endL s x H).1 = 1
    unfold endL
    cases (gapR s x H).2 <;> simp
theorem wrongM_zero {C I : Ms} {N : Mn} {H : Mb} {kind : ByteArray} {x : Stp} : vgt C I N H kind x = 0 ↔ x.inn.any (noMk H) = false ∧ x.cells.any (noCl C) = false ∧ (!(seq x.name ⟨#[]⟩) && (!decide (x.kind = 7) && (z7x tgE N (x.kind, x.name)).isNone)) = false ∧ (decide (x.kind = 0) && !(seq (vfm I x.name) kind) || x.cells.any (badW C)) = false ∧ dupT H (xxm x) [] = false := by
  unfold vgt
  cases x.inn.any (noMk H)
  · cases x.cells.any (noCl C)
    · cases (!(seq x.name ⟨#[]⟩) && (!decide (x.kind = 7) && (z7x tgE N (x.kind, x.name)).isNone))
      · cases (decide (x.kind = 0) && !(seq (vfm I x.name) kind) || x.cells.any (badW C))
        · cases dupT H (xxm x) [] <;> simp
        · simp
      · simp
    · simp
  · simp
theorem dupT_no {H : Mb} : ∀ {T : List Tg} {m : Mn}, dupT H T m = false → ∀ t ∈ T, (z7x tgE H t).isSome = false
  | [], _, _, t, ht => by cases ht
  | y :: T, m, h, t, ht => by
    rw [dupT] at h
    cases h1 : (z7x tgE H y).isSome || (z7x tgE m y).isSome with
    | true => rw [h1] at h; cases h
    | false =>
      rw [h1, cond_false] at h
      rcases List.mem_cons.1 ht with rfl | ht
      · rw [Bool.or_eq_false_iff] at h1; exact h1.1
      · exact dupT_no h t ht
theorem thing_in {x : Stp} {p : ByteArray} : (0, p) ∈ xxm x ↔ p ∈ x.inn := by
  rw [xdd]
  constructor
  · rintro (⟨s, hs, e⟩ | ⟨s, hs, e⟩ | ⟨hk, e⟩)
    · rw [(Prod.mk.inj e).2]; exact hs
    · exact absurd (Prod.mk.inj e).1 (by decide)
    · have := (Prod.mk.inj e).1; omega
  · exact fun h => .inl ⟨p, h, rfl⟩
theorem thing_out {x : Stp} {p : ByteArray} : (1, p) ∈ xxm x ↔ p ∈ x.out := by
  rw [xdd]
  constructor
  · rintro (⟨s, hs, e⟩ | ⟨s, hs, e⟩ | ⟨hk, e⟩)
    · exact absurd (Prod.mk.inj e).1 (by decide)
    · rw [(Prod.mk.inj e).2]; exact hs
    · have := (Prod.mk.inj e).1; omega
  · exact fun h => .inr (.inl ⟨p, h, rfl⟩)
theorem some_of {α : Type} {o : Option α} (h : ¬ o.isNone = true) : ∃ k, o = some k := by
  cases o with
  | none => exact absurd rfl h
  | some k => exact ⟨k, rfl⟩
section
variable {s : Sht} {r : Int} {x : Rcp}
theorem Acc.made (h : Acc s r x) {i : Nat} (hi : i < x.steps.length) {p : ByteArray} (hp : p ∈ (x.steps.getD i default).inn) : ∃ j, j < i ∧ p ∈ (x.steps.getD j default).out := by
  have h1 := (wrongM_zero.1 (h.hw i hi)).1
  rw [List.any_eq_false] at h1
  obtain ⟨k, hk⟩ := some_of (h1 p hp)
  obtain ⟨j, hj, _, ht⟩ := (bookN_ok x.steps i).old _ _ hk
  exact ⟨j, hj, thing_out.1 ht⟩
theorem Acc.once (h : Acc s r x) {i j : Nat} (hij : i < j) (hj : j < x.steps.length) {t : Tg} (hi : t ∈ xxm (x.steps.getD i default)) : ¬ t ∈ xxm (x.steps.getD j default) := fun ht => by
  have h1 := dupT_no (wrongM_zero.1 (h.hw j hj)).2.2.2.2 t ht
  rw [(bookN_ok x.steps j).all i hij t hi] at h1
  cases h1
theorem Acc.one (h : Acc s r x) {i j : Nat} (hi : i < x.steps.length) (hj : j < x.steps.length) {t : Tg} (h1 : t ∈ xxm (x.steps.getD i default)) (h2 : t ∈ xxm (x.steps.getD j default)) : i = j := by
  rcases Nat.lt_trichotomy i j with hh | hh | hh
  · exact absurd h2 (h.once hh hj h1)
  · exact hh
  · exact absurd h1 (h.once hh hi h2)
theorem unused_none {H : Mb} {l : List Stp} (h : vxq H l = none) {i : Nat} (hi : i < l.length) {p : ByteArray} (hp : p ∈ (l.getD i default).out) : ¬ (z7x tgE H (0, p)).isNone = true := fun hn => by
  unfold vxq at h
  rw [List.find?_range_eq_none] at h
  have := h i hi
  unfold wz1 at this
  simp only [Bool.not_eq_true', List.any_eq_false] at this
  exact this p hp hn
theorem Acc.used (h : Acc s r x) {i : Nat} (hi : i < x.steps.length) {p : ByteArray} (hp : p ∈ (x.steps.getD i default).out) : ∃ j, j < x.steps.length ∧ p ∈ (x.steps.getD j default).inn := by
  have hg := h.hg
  unfold gapR at hg
  cases hu : vxq (bookN x.steps x.steps.length) x.steps with
  | some g => rw [hu] at hg; cases hg
  | none =>
    obtain ⟨k, hk⟩ := some_of (unused_none hu hi hp)
    obtain ⟨j, hj, _, ht⟩ := (bookN_ok x.steps x.steps.length).old _ _ hk
    exact ⟨j, hj, thing_in.1 ht⟩
end
theorem names_ne {l : List ByteArray} {a b : Int} (h : z1r l a b = true) (ha : 1 ≤ a) : ∃ p, p ∈ l := by
  unfold z1r at h
  simp only [Bool.and_eq_true, decide_eq_true_eq] at h
  match l, h with
  | [], h => exact absurd h.1 (by simp; omega)
  | p :: _, _ => exact ⟨p, List.mem_cons_self⟩
theorem step_parcel {y : Stp} (h : z7o y = true) : (∃ p, p ∈ y.inn) ∨ ∃ p, p ∈ y.out := by
  unfold z7o yzn at h
  simp only [Bool.and_eq_true, decide_eq_true_eq] at h
  obtain ⟨⟨h0, h9⟩, ⟨⟨hi, ho, _⟩, _⟩, _⟩ := h
  have hk : y.kind = 0 ∨ y.kind = 1 ∨ y.kind = 2 ∨ y.kind = 3 ∨ y.kind = 4 ∨ y.kind = 5 ∨ y.kind = 6 ∨ y.kind = 7 ∨ y.kind = 8 := by omega
  rcases hk with e | e | e | e | e | e | e | e | e <;> rw [e] at hi ho
  · exact .inr (names_ne ho (by decide))
  · exact .inr (names_ne ho (by decide))
  · exact .inr (names_ne ho (by decide))
  · exact .inl (names_ne hi (by decide))
  · exact .inl (names_ne hi (by decide))
  · exact .inl (names_ne hi (by decide))
  · exact .inl (names_ne hi (by decide))
  · exact .inl (names_ne hi (by decide))
  · exact .inl (names_ne hi (by decide))
theorem foldU_set {α : Type} [Inhabited α] {U : α → Us} {y : α} : ∀ {l : List α} {i : Nat} {c : Sc}, i < l.length → U y = U (l.getD i default) → wlp U (l.set i y) c = wlp U l c
  | [], i, c, h, _ => by simp at h
  | z :: l, 0, c, _, e => by
    have e' : U y = U z := by simpa using e
    show wlp U l (useM c (U y)) = wlp U l (useM c (U z))
    rw [e']
  | z :: l, i + 1, c, h, e => by
    show wlp U (l.set i y) (useM c (U z)) = wlp U l (useM c (U z))
    exact foldU_set (by simpa using h) (by simpa using e)
theorem right_with {s : Sht} {r : Nat} {l : List Stp} (h : x7y s = true) (hr : r < s.recipes.length) (hl : l.length ≤ 100) (hs : ∀ y ∈ l, z7o y = true) : x7y (withS s r l) = true := by
  have hx := (wvo (by unfold x7y at h; simp only [Bool.and_eq_true] at h; exact h.2)).2 _ (wip hr)
  have e : rcpU ⟨(s.recipes.getD r default).kind, l⟩ = rcpU (s.recipes.getD r default) := by
    have e1 : (rcpU (s.recipes.getD r default)).2.2 = true := hx.2.1
    have e2 : (rcpU ⟨(s.recipes.getD r default).kind, l⟩).2.2 = true := by
      unfold rcpU
      simp only [Bool.and_eq_true, decide_eq_true_eq, Bool.not_eq_true', List.any_eq_false]
      exact ⟨by omega, fun y hy => by rw [hs y hy]; decide⟩
    exact Prod.ext rfl (Prod.ext rfl (e2.trans e1.symm))
  unfold x7y at *
  have hf : wlp rcpU (withS s r l).recipes (true, []) = wlp rcpU s.recipes (true, []) := foldU_set hr e
  rw [hf]
  have hn : (withS s r l).recipes.length = s.recipes.length := List.length_set
  rw [hn]
  exact h
theorem with_at {s : Sht} {r : Nat} {l : List Stp} (hr : r < s.recipes.length) : (withS s r l).recipes.getD r default = ⟨(s.recipes.getD r default).kind, l⟩ := by
  unfold withS
  simp [hr]
section
variable {s : Sht} {r : Int} {k : Nat}
theorem red_lo {l : List Stp} {j : Nat} (h : j < k) (hk : k < l.length) : (l.take k ++ l.drop (k + 1)).getD j default = l.getD j default := by
  simp only [List.getD_eq_getElem?_getD]
  rw [List.getElem?_append_left (by simp; omega), List.getElem?_take_of_lt h]
theorem red_hi {l : List Stp} {j : Nat} (h : k ≤ j) (hk : k < l.length) : (l.take k ++ l.drop (k + 1)).getD j default = l.getD (j + 1) default := by
  simp only [List.getD_eq_getElem?_getD]
  rw [List.getElem?_append_right (by simp; omega), List.getElem?_drop, List.length_take]
  congr 2
  omega
theorem less_out (hR : (yr2 s r).1 = 0) (hk : k < (s.recipes.getD r.toNat default).steps.length) :
    ¬ (yr2 (withS s r.toNat ((s.recipes.getD r.toNat default).steps.take k ++ (s.recipes.getD r.toNat default).steps.drop (k + 1))) r).1 = 0 ∧ ¬ (yr2 (withS s r.toNat ((s.recipes.getD r.toNat default).steps.take k ++ (s.recipes.getD r.toNat default).steps.drop (k + 1))) r).1 = 1 := by
  have ha := lookM_acc hR
  have hrn : r.toNat < s.recipes.length := by have := ha.h0; have := ha.h1; omega
  have hst : ∀ y ∈ (s.recipes.getD r.toNat default).steps, z7o y = true := fun y hy => v26 ha.hR (wip hrn) hy
  have hl100 : (s.recipes.getD r.toNat default).steps.length ≤ 100 := by
    have hR' := ha.hR
    unfold x7y at hR'
    simp only [Bool.and_eq_true] at hR'
    have := ((wvo hR'.2).2 _ (wip hrn)).2.1
    unfold rcpU at this
    simp only [Bool.and_eq_true, decide_eq_true_eq] at this
    omega
  generalize hx : s.recipes.getD r.toNat default = x at *
  have hlen : (x.steps.take k ++ x.steps.drop (k + 1)).length = x.steps.length - 1 := by simp; omega
  have hmem : ∀ y ∈ x.steps.take k ++ x.steps.drop (k + 1), y ∈ x.steps := fun y hy => by
    rcases List.mem_append.1 hy with h | h
    · exact List.mem_of_mem_take h
    · exact List.mem_of_mem_drop h
  have hR' := right_with (l := x.steps.take k ++ x.steps.drop (k + 1)) ha.hR hrn (by omega) (fun y hy => hst y (hmem y hy))
  refine ⟨fun h0 => ?_, lookM_arg hR' ha.h0 (by have := ha.h1; unfold withS; simpa using this)⟩
  have hb := lookM_acc h0
  rw [with_at hrn, hx] at hb
  generalize hl : x.steps.take k ++ x.steps.drop (k + 1) = l' at *
  have lo : ∀ j, j < k → l'.getD j default = x.steps.getD j default := fun j hj => by rw [← hl]; exact red_lo hj hk
  have hi : ∀ j, k ≤ j → l'.getD j default = x.steps.getD (j + 1) default := fun j hj => by rw [← hl]; exact red_hi hj hk
  have back : ∀ m, m < l'.length → ∃ m', m' < x.steps.length ∧ m' ≠ k ∧ l'.getD m default = x.steps.getD m' default := fun m hm => by
    by_cases h : m < k
    · exact ⟨m, by omega, by omega, lo m h⟩
    · exact ⟨m + 1, by omega, by omega, hi m (by omega)⟩
  rcases step_parcel (hst _ (wip hk)) with ⟨p, hp⟩ | ⟨p, hp⟩
  · obtain ⟨j, hj, hpo⟩ := ha.made hk hp
    obtain ⟨m, hm, hpi⟩ := hb.used (i := j) (p := p) (show j < l'.length by omega) (by show p ∈ (l'.getD j default).out; rw [lo j hj]; exact hpo)
    obtain ⟨m', hm', hne, e⟩ := back m hm
    have hpi' : p ∈ (l'.getD m default).inn := hpi
    rw [e] at hpi'
    exact hne (ha.one hm' hk (thing_in.2 hpi') (thing_in.2 hp))
  · obtain ⟨j, hj, hpi⟩ := ha.used hk hp
    obtain ⟨i, hi', hpo⟩ := ha.made hj hpi
    have hik : i = k := ha.one (by omega) hk (thing_out.2 hpo) (thing_out.2 hp)
    have hjl : j - 1 < l'.length := by omega
    have e : l'.getD (j - 1) default = x.steps.getD j default := by rw [hi (j - 1) (by omega)]; congr 1; omega
    obtain ⟨m, hm, hpm⟩ := hb.made (i := j - 1) (p := p) hjl (by show p ∈ (l'.getD (j - 1) default).inn; rw [e]; exact hpi)
    obtain ⟨m', hm', hne, e⟩ := back m (by omega)
    have hpm' : p ∈ (l'.getD m default).out := hpm
    rw [e] at hpm'
    exact hne (ha.one hm' hk (thing_out.2 hpm') (thing_out.2 hp))
theorem dup_lo {l : List Stp} {j : Nat} (h : j ≤ k) (hk : k < l.length) : (l.take (k + 1) ++ l.drop k).getD j default = l.getD j default := by
  simp only [List.getD_eq_getElem?_getD]
  rw [List.getElem?_append_left (by simp; omega), List.getElem?_take_of_lt (by omega)]
theorem dup_at {l : List Stp} (hk : k < l.length) : (l.take (k + 1) ++ l.drop k).getD (k + 1) default = l.getD k default := by
  simp only [List.getD_eq_getElem?_getD]
  rw [List.getElem?_append_right (by simp; omega), List.getElem?_drop, List.length_take]
  congr 2
  omega
theorem less_dup (hR : (yr2 s r).1 = 0) (hk : k < (s.recipes.getD r.toNat default).steps.length) (hl : (s.recipes.getD r.toNat default).steps.length < 100) :
    ∃ b, yr2 (withS s r.toNat ((s.recipes.getD r.toNat default).steps.take (k + 1) ++ (s.recipes.getD r.toNat default).steps.drop k)) r = (5, (k : Int) + 1, b) := by
  have ha := lookM_acc hR
  have hrn : r.toNat < s.recipes.length := by have := ha.h0; have := ha.h1; omega
  have hst : ∀ y ∈ (s.recipes.getD r.toNat default).steps, z7o y = true := fun y hy => v26 ha.hR (wip hrn) hy
  generalize hx : s.recipes.getD r.toNat default = x at *
  have hlen : (x.steps.take (k + 1) ++ x.steps.drop k).length = x.steps.length + 1 := by simp; omega
  have hmem : ∀ y ∈ x.steps.take (k + 1) ++ x.steps.drop k, y ∈ x.steps := fun y hy => by
    rcases List.mem_append.1 hy with h | h
    · exact List.mem_of_mem_take h
    · exact List.mem_of_mem_drop h
  have hR' := right_with (l := x.steps.take (k + 1) ++ x.steps.drop k) ha.hR hrn (by omega) (fun y hy => hst y (hmem y hy))
  have hlo : ∀ j, j ≤ k → (x.steps.take (k + 1) ++ x.steps.drop k).getD j default = x.steps.getD j default := fun j hj => dup_lo hj hk
  have hat := dup_at hk
  generalize hl' : x.steps.take (k + 1) ++ x.steps.drop k = l' at *
  have hbk : ∀ j, j ≤ k + 1 → bookN l' j = bookN x.steps j := fun j hj => bookN_congr j (fun i hi => hlo i (by omega))
  have hw : ∀ j, j < k + 1 → vgt (xgh s) (y5s s) (w3n s) (bookN l' j) x.kind (l'.getD j default) = 0 := fun j hj => by
    rw [hbk j (by omega), hlo j (by omega)]
    exact ha.hw j (by omega)
  have h5 : vgt (xgh s) (y5s s) (w3n s) (bookN x.steps (k + 1)) x.kind (x.steps.getD k default) = 5 := by
    obtain ⟨w1, w2, w3, w4, w5⟩ := wrongM_zero.1 (ha.hw k hk)
    have w1' : (x.steps.getD k default).inn.any (noMk (bookN x.steps (k + 1))) = false := by
      rw [List.any_eq_false] at w1 ⊢
      intro p hp hn
      obtain ⟨v, hv⟩ := some_of (w1 p hp)
      unfold noMk bookN at hn
      rw [yd4, hv] at hn
      cases ht : (xxm (x.steps.getD k default)).any (tgE (1, p)) <;> rw [ht] at hn <;> cases hn
    have w5' : dupT (bookN x.steps (k + 1)) (xxm (x.steps.getD k default)) [] = true := by
      have hall := (bookN_ok x.steps (k + 1)).all k (by omega)
      have hne : ∃ t, t ∈ xxm (x.steps.getD k default) := by
        rcases step_parcel (hst _ (wip hk)) with ⟨p, hp⟩ | ⟨p, hp⟩
        · exact ⟨_, thing_in.2 hp⟩
        · exact ⟨_, thing_out.2 hp⟩
      generalize xxm (x.steps.getD k default) = T at *
      match T, hne with
      | [], ⟨t, ht⟩ => cases ht
      | y :: T, _ =>
        rw [dupT, hall y List.mem_cons_self]
        rfl
    unfold vgt
    rw [w1', w2, w3, w4, w5']
    rfl
  have hpre := lookL_pre (C := xgh s) (I := y5s s) (N := w3n s) (kind := x.kind) (l := l') (k + 1) (by omega) hw
  refine ⟨wri 5 ((k + 1 : Nat) : Int) (bookN x.steps (k + 1)) (x.steps.getD k default), ?_⟩
  unfold yr2
  rw [hR', decide_eq_false (show ¬ r < 0 by have := ha.h0; omega), decide_eq_false (show ¬ ((withS s r.toNat l').recipes.length : Int) ≤ r by have := ha.h1; unfold withS; simp; omega), with_at hrn, hx]
  show (match vyy (xgh s) (y5s s) (w3n s) x.kind l' 0 [] with
    | .inl k => k
    | .inr H => endL (withS s r.toNat l') ⟨x.kind, l'⟩ H) = _
  rw [hpre, wsu (show k + 1 < l'.length by omega), vyy, hat, hbk (k + 1) (Nat.le_refl _), h5]
  rfl
end
end Go.Hp.T
