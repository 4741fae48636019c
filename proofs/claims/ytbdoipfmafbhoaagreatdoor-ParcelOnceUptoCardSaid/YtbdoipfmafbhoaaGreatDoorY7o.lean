/- Plain law: ParcelOnce. -/
import Derived.Test.YtbdoipfmafbhoaaGreatDoorY37
import Derived.Test.YtbdoipfmafbhoaaGreatDoorY38
/- Plain law: ParcelOnce. -/
namespace Go.Hp.T
open Go Go.RowKit Go.Slot Go.Hp Go.Slot.T
set_option maxRecDepth 10000
theorem lookF_updF {α : Type} (s : ByteArray) (v : α) (t : ByteArray) : ∀ l : List (ByteArray × α), yk4 (updF l s v) t = bif seq t s then some v else yk4 l t
  | [] => rfl
  | p :: l => by
    have ih := lookF_updF s v t l
    rw [updF]
    cases h : seq s p.1 with
    | true =>
      have e : s = p.1 := seqt.1 h
      rw [cond_true]
      show (bif seq t s then some v else yk4 l t) = bif seq t s then some v else (bif seq t p.1 then some p.2 else yk4 l t)
      rw [← e]; cases seq t s <;> rfl
    | false =>
      rw [cond_false]
      show (bif seq t p.1 then some p.2 else yk4 (updF l s v) t) = bif seq t s then some v else (bif seq t p.1 then some p.2 else yk4 l t)
      rw [ih]
      cases h1 : seq t p.1 with
      | false => rfl
      | true => cases h2 : seq t s with
        | false => rfl
        | true =>
          have e1 : t = p.1 := seqt.1 h1
          have e2 : t = s := seqt.1 h2
          rw [← e1, e2, (seqt.2 rfl)] at h
          cases h
/-! sums -/
def sumN (f : Nat → Nat) : Nat → Nat
  | 0 => 0
  | n + 1 => sumN f n + f n
theorem sumN_zero {f : Nat → Nat} : ∀ {n : Nat}, (∀ j, j < n → f j = 0) → sumN f n = 0
  | 0, _ => rfl
  | n + 1, h => by rw [sumN, sumN_zero (fun j hj => h j (by omega)), h n (by omega)]
theorem sumN_one {f : Nat → Nat} : ∀ {n i : Nat}, i < n → f i = 1 → (∀ j, j < n → j ≠ i → f j = 0) → sumN f n = 1
  | 0, _, h, _, _ => by omega
  | n + 1, i, h, h1, h2 => by
    rw [sumN]
    by_cases e : i = n
    · subst e
      rw [sumN_zero (fun j hj => h2 j (by omega) (by omega)), h1]
    · rw [sumN_one (by omega) h1 (fun j hj => h2 j (by omega)), h2 n (by omega) (by omega)]
theorem sumN_ge {f : Nat → Nat} : ∀ {n i : Nat}, i < n → f i ≤ sumN f n
  | 0, _, h => by omega
  | n + 1, i, h => by
    rw [sumN]
    by_cases e : i = n
    · subst e; omega
    · have := sumN_ge (f := f) (n := n) (i := i) (by omega); omega
theorem sumN_two {f : Nat → Nat} : ∀ {n i j : Nat}, i < j → j < n → f i + f j ≤ sumN f n
  | 0, _, _, _, h => by omega
  | n + 1, i, j, h1, h2 => by
    rw [sumN]
    by_cases e : j = n
    · subst e
      have := sumN_ge (f := f) h1; omega
    · have := sumN_two (f := f) (n := n) h1 (by omega); omega
theorem sumN_pos {f : Nat → Nat} {n : Nat} (h : 0 < sumN f n) : ∃ j, j < n ∧ 0 < f j := by
  match n, h with
  | 0, h => exact absurd h (by simp [sumN])
  | n + 1, h =>
    rw [sumN] at h
    by_cases e : 0 < f n
    · exact ⟨n, by omega, e⟩
    · obtain ⟨j, hj, hp⟩ := sumN_pos (f := f) (n := n) (by omega)
      exact ⟨j, by omega, hp⟩
def outN (l : List Stp) (p : ByteArray) (j : Nat) : Nat := cntS (l.getD j default).out p
def inN (l : List Stp) (p : ByteArray) (j : Nat) : Nat := cntS (l.getD j default).inn p
theorem made_out {l : List Stp} {u : Nat} {p : ByteArray} : ∀ n, (zj0 l (u : Int) p n).1 = sumN (outN l p) (min n u)
  | 0 => by rw [Nat.zero_min]; rfl
  | n + 1 => by
    rw [zj0]
    by_cases h : n < u
    · rw [decide_eq_true (by omega), cond_true, Nat.min_eq_left (by omega), sumN]
      dsimp only
      rw [made_out n, Nat.min_eq_left (by omega)]
      rfl
    · rw [decide_eq_false (by omega), cond_false]
      dsimp only
      rw [made_out n, Nat.min_eq_right (by omega), Nat.min_eq_right (by omega)]
theorem made_in {l : List Stp} {u : Nat} {p : ByteArray} : ∀ n, (zj0 l (u : Int) p n).2 + sumN (inN l p) (min n u) = sumN (inN l p) n
  | 0 => by rw [Nat.zero_min]; rfl
  | n + 1 => by
    have ih := made_in (l := l) (u := u) (p := p) n
    rw [zj0]
    by_cases h : n < u
    · rw [decide_eq_true (by omega), cond_true, Nat.min_eq_left (by omega)]
      dsimp only
      rw [Nat.min_eq_left (by omega)] at ih
      omega
    · rw [decide_eq_false (by omega), cond_false, Nat.min_eq_right (by omega)]
      dsimp only
      rw [Nat.min_eq_right (by omega)] at ih
      have e : sumN (inN l p) (n + 1) = sumN (inN l p) n + cntS (l.getD n default).inn p := rfl
      omega
theorem linI_iff {l : List Stp} {i : Nat} {p : ByteArray} (hi : i < l.length) : linI l i p = true ↔ sumN (outN l p) i = 1 ∧ sumN (inN l p) l.length = 1 + sumN (inN l p) i ∧ sumN (outN l p) l.length = 1 ∧ sumN (inN l p) l.length = 1 := by
  unfold linI
  have h1 := made_out (l := l) (u := i) (p := p) l.length
  have h2 := made_in (l := l) (u := i) (p := p) l.length
  have h3 := made_out (l := l) (u := l.length) (p := p) l.length
  have h4 := made_in (l := l) (u := 0) (p := p) l.length
  rw [Nat.min_eq_right (by omega)] at h1 h2
  rw [Nat.min_self] at h3
  rw [Nat.min_zero] at h4
  have h4' : (zj0 l 0 p l.length).2 + 0 = sumN (inN l p) l.length := h4
  simp only [Bool.and_eq_true, decide_eq_true_eq]
  omega
theorem linO_iff {l : List Stp} {p : ByteArray} : linO l p = true ↔ sumN (outN l p) l.length = 1 ∧ sumN (inN l p) l.length = 1 := by
  unfold linO
  have h3 := made_out (l := l) (u := l.length) (p := p) l.length
  have h4 := made_in (l := l) (u := 0) (p := p) l.length
  rw [Nat.min_self] at h3
  rw [Nat.min_zero] at h4
  have h4' : (zj0 l 0 p l.length).2 + 0 = sumN (inN l p) l.length := h4
  simp only [Bool.and_eq_true, decide_eq_true_eq]
  omega
theorem linM_iff {l : List Stp} : linM l = true ↔ ∀ i, i < l.length → (∀ p ∈ (l.getD i default).inn, linI l i p = true) ∧ ∀ p ∈ (l.getD i default).out, linO l p = true := by
  unfold linM linS
  simp only [List.all_eq_true, List.mem_range, Bool.and_eq_true]
def isN (k : Int) (w : ByteArray) (y : Stp) : Bool := decide (y.kind = k) && seq y.name w
theorem times_sum {l : List Stp} {k : Int} {w : ByteArray} : xwf l k w = sumN (fun j => bif isN k w (l.getD j default) then 1 else 0) l.length := by
  have h : ∀ n, n ≤ l.length → ((l.take n).filter fun y => decide (y.kind = k) && seq y.name w).length = sumN (fun j => bif isN k w (l.getD j default) then 1 else 0) n := by
    intro n
    induction n with
    | zero => intro _; rfl
    | succ n ih =>
      intro hn
      rw [wew (by omega), ih (by omega), sumN]
      rfl
  have := h l.length (Nat.le_refl _)
  rw [List.take_length] at this
  exact this
theorem isN_iff {k : Int} {w : ByteArray} {y : Stp} : isN k w y = true ↔ y.kind = k ∧ y.name = w := by
  unfold isN
  rw [Bool.and_eq_true, decide_eq_true_iff, seqt]
theorem thing_nm {k : Int} {w : ByteArray} {y : Stp} (hk : k = 0 ∨ k = 1 ∨ k = 5) : (2 + k, w) ∈ ypc y ↔ isN k w y = true := by
  rw [ysc, isN_iff]
  constructor
  · rintro (⟨s, _, e⟩ | ⟨s, _, e⟩ | ⟨_, e⟩)
    · have := (Prod.mk.inj e).1; omega
    · have := (Prod.mk.inj e).1; omega
    · exact ⟨by have := (Prod.mk.inj e).1; omega, (Prod.mk.inj e).2.symm⟩
  · rintro ⟨h1, h2⟩
    exact .inr (.inr ⟨by omega, by rw [h1, h2]⟩)
theorem times_one {l : List Stp} {k : Int} {w : ByteArray} (i : Nat) (hi : i < l.length) (h : isN k w (l.getD i default) = true) (hu : ∀ j, j < l.length → isN k w (l.getD j default) = true → j = i) : xwf l k w = 1 := by
  rw [times_sum]
  refine sumN_one hi (by rw [h]; rfl) (fun j hj hne => ?_)
  cases hn : isN k w (l.getD j default) with
  | true => exact absurd (hu j hj hn) hne
  | false => rfl
theorem times_pos {l : List Stp} {k : Int} {w : ByteArray} (h : 0 < xwf l k w) : ∃ i, i < l.length ∧ isN k w (l.getD i default) = true := by
  rw [times_sum] at h
  obtain ⟨j, hj, h1⟩ := sumN_pos h
  refine ⟨j, hj, ?_⟩
  cases hn : isN k w (l.getD j default) with
  | true => rfl
  | false => rw [hn] at h1; exact absurd h1 (by decide)
theorem times_ge {l : List Stp} {k : Int} {w : ByteArray} {i : Nat} (hi : i < l.length) (h : isN k w (l.getD i default) = true) : 0 < xwf l k w := by
  rw [times_sum]
  have := sumN_ge (f := fun j => bif isN k w (l.getD j default) then 1 else 0) hi
  rw [h, cond_true] at this
  omega
theorem times_two {l : List Stp} {k : Int} {w : ByteArray} {i j : Nat} (hij : i < j) (hj : j < l.length) (h : isN k w (l.getD i default) = true) (h' : isN k w (l.getD j default) = true) : 2 ≤ xwf l k w := by
  rw [times_sum]
  have := sumN_two (f := fun j => bif isN k w (l.getD j default) then 1 else 0) hij hj
  rw [h, h', cond_true] at this
  omega
/-! names of a right sheet -/
theorem first_at {α : Type} [Inhabited α] {p : α → Bool} {l : List α} (h : l.any p = true) : ∃ i, i < l.length ∧ (∀ j, j < i → p (l.getD j default) = false) ∧ p (l.getD i default) = true := by
  cases hf : (List.range l.length).find? (fun i => p (l.getD i default)) with
  | none =>
    rw [List.find?_range_eq_none] at hf
    obtain ⟨y, hy, hp⟩ := List.any_eq_true.1 h
    obtain ⟨i, hi, e⟩ := List.getElem_of_mem hy
    have := hf i hi
    rw [List.getD_eq_getElem?_getD, List.getElem?_eq_getElem hi] at this
    simp only [Option.getD_some, e, hp] at this
    cases this
  | some i =>
    rw [List.find?_range_eq_some] at hf
    exact ⟨i, by simpa using hf.2.1, fun j hj => by have := hf.2.2 j hj; simpa using this, hf.1⟩
theorem idxF_get {α : Type} [Inhabited α] {p : α → Bool} {l : List α} (h : 0 ≤ idxF p l) : (idxF p l).toNat < l.length ∧ p (l.getD (idxF p l).toNat default) = true := by
  have ha := vb3 p l
  rw [decide_eq_true h] at ha
  obtain ⟨i, hi, hj, hp⟩ := first_at ha.symm
  rw [(we2 (Nat.le_of_lt hi) hj).2 hi hp]
  exact ⟨hi, hp⟩
theorem foldU_new {α : Type} {U : α → Us} : ∀ {l : List α} {c : Sc}, (w0x U l c).1 = true → ∀ x ∈ l, (yk4 c.2 (U x).1).isSome = false
  | [], _, _, x, hx => by cases hx
  | y :: l, c, h, x, hx => by
    have h' : (w0x U l (useM c (U y))).1 = true := h
    have h1 := (zmk h').1
    unfold useM at h1
    simp only [Bool.and_eq_true, Bool.not_eq_true'] at h1
    rcases List.mem_cons.1 hx with rfl | hx
    · exact h1.2.2.2.2
    · have h2 := foldU_new h' x hx
      have h3 : (yk4 (updF c.2 (U y).1 ()) (U x).1).isSome = false := h2
      rw [lookF_updF] at h3
      cases hq : seq (U x).1 (U y).1 with
      | true => rw [hq] at h3; cases h3
      | false => rw [hq] at h3; exact h3
theorem foldU_dist {α : Type} {U : α → Us} : ∀ {l : List α} {c : Sc}, (w0x U l c).1 = true → l.Pairwise fun a b => ¬ (U a).1 = (U b).1
  | [], _, _ => .nil
  | y :: l, c, h => by
    have h' : (w0x U l (useM c (U y))).1 = true := h
    refine .cons (fun x hx => ?_) (foldU_dist h')
    have h3 : (yk4 (updF c.2 (U y).1 ()) (U x).1).isSome = false := foldU_new h' x hx
    intro e
    rw [lookF_updF, seqt.2 e.symm] at h3
    cases h3
theorem pw_eq {α : Type} {nm : α → ByteArray} : ∀ {l : List α}, (l.Pairwise fun a b => ¬ nm a = nm b) → ∀ a ∈ l, ∀ b ∈ l, nm a = nm b → a = b
  | [], _, a, ha, _, _, _ => by cases ha
  | y :: l, h, a, ha, b, hb, e => by
    obtain ⟨h1, h2⟩ := List.pairwise_cons.1 h
    rcases List.mem_cons.1 ha with ea | ha'
    · rcases List.mem_cons.1 hb with eb | hb'
      · rw [ea, eb]
      · exact absurd (ea ▸ e) (h1 b hb')
    · rcases List.mem_cons.1 hb with eb | hb'
      · exact absurd (eb ▸ e).symm (h1 a ha')
      · exact pw_eq h2 a ha' b hb' e
theorem right_parts {s : Sht} (h : y4x s = true) : (∀ a ∈ s.cells, ∀ b ∈ s.cells, a.name = b.name → a = b) ∧ (∀ a ∈ s.inputs, ∀ b ∈ s.inputs, a.name = b.name → a = b) ∧ ∀ c ∈ s.cells, wdw c.unit = true := by
  unfold y4x yq5 vzr at h
  simp only [Bool.and_eq_true] at h
  have h1 := h.1.1
  have h2 := (zmk (zmk (zmk h1).1).1).1
  have h3 := (zmk (zmk h2).1).1
  exact ⟨pw_eq (nm := Cel.name) (foldU_dist h1), pw_eq (nm := Inp.name) (foldU_dist h3), fun c hc => ((zmk h1).2 c hc).1⟩
theorem foldF_some {α : Type} {nm uu : α → ByteArray} {w u : ByteArray} : ∀ {l : List α} {m : Ms}, yk4 (l.foldl (fun m x => updF m (nm x) (uu x)) m) w = some u → (∃ y ∈ l, nm y = w ∧ uu y = u) ∨ yk4 m w = some u
  | [], _, h => .inr h
  | y :: l, m, h => by
    rcases foldF_some (l := l) h with ⟨z, hz, h1⟩ | h1
    · exact .inl ⟨z, List.mem_cons_of_mem _ hz, h1⟩
    · rw [lookF_updF] at h1
      cases hq : seq w (nm y) with
      | true =>
        rw [hq, cond_true] at h1
        exact .inl ⟨y, List.mem_cons_self, (seqt.1 hq).symm, Option.some.inj h1⟩
      | false => rw [hq] at h1; exact .inr h1
theorem foldF_is {α : Type} {nm uu : α → ByteArray} {w : ByteArray} : ∀ {l : List α} {m : Ms}, (∃ y ∈ l, nm y = w) ∨ (yk4 m w).isSome = true → (yk4 (l.foldl (fun m x => updF m (nm x) (uu x)) m) w).isSome = true
  | [], _, h => by
    rcases h with ⟨y, hy, _⟩ | h
    · cases hy
    · exact h
  | y :: l, m, h => by
    refine foldF_is (l := l) ?_
    rw [lookF_updF]
    cases hq : seq w (nm y) with
    | true => exact .inr rfl
    | false =>
      rcases h with ⟨z, hz, h1⟩ | h
      · rcases List.mem_cons.1 hz with rfl | hz
        · rw [← h1, seqt.2 rfl] at hq; cases hq
        · exact .inl ⟨z, hz, h1⟩
      · exact .inr h
theorem foldG_is {α : Type} {k : Int} {nm : α → ByteArray} {t : Tg} : ∀ {l : List α} {m : Mn}, (ynd tgE (l.foldl (fun m x => updG tgE m (k, nm x) ()) m) t).isSome = (l.any (fun x => tgE t (k, nm x)) || (ynd tgE m t).isSome)
  | [], _ => rfl
  | y :: l, m => by
    show (ynd tgE (l.foldl _ (updG tgE m (k, nm y) ())) t).isSome = _
    rw [foldG_is, wc7 yj4 yyy wse, List.any_cons]
    cases l.any (fun x => tgE t (k, nm x)) <;> cases tgE t (k, nm y) <;> simp
theorem foldG_is2 {α : Type} {k k' : Int} {nm : α → ByteArray} {t : Tg} : ∀ {l : List α} {m : Mn}, (ynd tgE (l.foldl (fun m x => updG tgE (updG tgE m (k, nm x) ()) (k', nm x) ()) m) t).isSome = (l.any (fun x => tgE t (k, nm x) || tgE t (k', nm x)) || (ynd tgE m t).isSome)
  | [], _ => rfl
  | y :: l, m => by
    show (ynd tgE (l.foldl _ (updG tgE (updG tgE m (k, nm y) ()) (k', nm y) ())) t).isSome = _
    rw [foldG_is2, wc7 yj4 yyy wse, wc7 yj4 yyy wse, List.any_cons]
    cases l.any (fun x => tgE t (k, nm x) || tgE t (k', nm x)) <;> cases tgE t (k, nm y) <;> cases tgE t (k', nm y) <;> simp
theorem tgE_k {k j : Int} {w v : ByteArray} : tgE (k, w) (j, v) = (decide (k = j) && seq v w) := by rw [seqc v w]; rfl
theorem names_is {s : Sht} {k : Int} {w : ByteArray} : (ynd tgE (vgd s) (k, w)).isSome = (s.ports.any (fun x => decide (k = 5) && seq x.name w) || (s.stores.any (fun x => (decide (k = 2) && seq x.name w) || (decide (k = 6) && seq x.name w)) || (s.imports.any (fun x => decide (k = 1) && seq x.name w) || s.inputs.any (fun x => decide (k = 0) && seq x.name w)))) := by
  unfold vgd nm3 nm2 nm1
  rw [foldG_is, foldG_is2, foldG_is, foldG_is]
  simp only [tgE_k]
  simp [ynd]
theorem any_f {α : Type} {l : List α} : l.any (fun _ => false) = false := by induction l <;> simp_all
theorem there_iff {s : Sht} {y : Stp} (hk : y.kind = 0 ∨ y.kind = 1 ∨ y.kind = 2 ∨ y.kind = 6 ∨ y.kind = 5) : v40 s y = (ynd tgE (vgd s) (y.kind, y.name)).isSome := by
  rw [names_is]
  unfold v40
  rcases hk with e | e | e | e | e <;> rw [e] <;> simp [any_f]
theorem gap_iff {s : Sht} {x : Rcp} {H : Mb} : (gapR s x H).2 = false ↔ (∀ i, i < x.steps.length → zia H (x.steps.getD i default) = false) ∧ s.inputs.any (gapI H x.kind) = false ∧ s.imports.any (gapM H) = false ∧ s.ports.any (gapP H) = false := by
  unfold gapR
  cases hu : v6b H x.steps with
  | some i =>
    constructor
    · exact fun h => by cases h
    · rintro ⟨h, _⟩
      rw [ynw h] at hu
      cases hu
  | none =>
    dsimp only
    rw [Bool.or_eq_false_iff, Bool.or_eq_false_iff]
    unfold v6b at hu
    rw [List.find?_range_eq_none] at hu
    constructor
    · rintro ⟨⟨h1, h2⟩, h3⟩
      exact ⟨fun i hi => by have := hu i hi; simpa using this, h1, h2, h3⟩
    · rintro ⟨_, h1, h2, h3⟩
      exact ⟨⟨h1, h2⟩, h3⟩
theorem step_named {y : Stp} (h : vyc y = true) (hk : y.kind = 0 ∨ y.kind = 1 ∨ y.kind = 2 ∨ y.kind = 6 ∨ y.kind = 5) : seq y.name ⟨#[]⟩ = false := by
  unfold vyc zcx at h
  simp only [Bool.and_eq_true] at h
  have h1 := h.2.1.2
  have hn : (z6w y.kind).n = true := by rcases hk with e | e | e | e | e <;> rw [e] <;> rfl
  rw [hn, cond_true] at h1
  exact y4u h1
theorem step_plain {y : Stp} (h : vyc y = true) (hk : ¬ (y.kind = 0 ∨ y.kind = 1 ∨ y.kind = 2 ∨ y.kind = 6 ∨ y.kind = 5)) (h7 : ¬ y.kind = 7) : seq y.name ⟨#[]⟩ = true := by
  unfold vyc zcx at h
  simp only [Bool.and_eq_true, decide_eq_true_eq] at h
  have h1 := h.2.1.2
  have h9 := h.1
  have hn : (z6w y.kind).n = false := by
    have hh : y.kind = 3 ∨ y.kind = 4 ∨ y.kind = 8 := by omega
    rcases hh with e | e | e <;> rw [e] <;> rfl
  rw [hn, cond_false] at h1
  exact h1
theorem dupT_cnt {H : Mb} : ∀ {T : List Tg} {m : Mn}, dupT H T m = false → ∀ t, (T.filter (tgE t)).length ≤ 1 ∧ ((ynd tgE m t).isSome = true → (T.filter (tgE t)).length = 0)
  | [], _, _, t => ⟨Nat.zero_le _, fun _ => rfl⟩
  | y :: T, m, h, t => by
    rw [dupT] at h
    cases h1 : (ynd tgE H y).isSome || (ynd tgE m y).isSome with
    | true => rw [h1] at h; cases h
    | false =>
      rw [h1, cond_false] at h
      rw [Bool.or_eq_false_iff] at h1
      have ih := dupT_cnt h t
      rw [wc7 yj4 yyy wse] at ih
      rw [List.filter_cons]
      cases hq : tgE t y with
      | true =>
        rw [hq] at ih
        have h0 := ih.2 rfl
        rw [if_pos rfl, List.length_cons, h0]
        refine ⟨Nat.le_refl _, fun hm => ?_⟩
        rw [v5k.1 hq, h1.2] at hm
        cases hm
      | false =>
        rw [hq, cond_false] at ih
        rw [if_neg (by decide)]
        exact ih
theorem cnt_le {x : Stp} {p : ByteArray} : cntS x.inn p ≤ ((ypc x).filter (tgE (0, p))).length ∧ cntS x.out p ≤ ((ypc x).filter (tgE (1, p))).length := by
  unfold ypc
  simp only [List.filter_append, List.length_append, v7o]
  have e2 : decide ((0 : Int) = 1) = false := rfl
  have e3 : decide ((1 : Int) = 0) = false := rfl
  simp only [decide_true, e2, e3, cond_true, cond_false]
  omega
section
variable {s : Sht} {r : Int} {x : Rcp}
theorem Acc.cnt (h : Acc s r x) {i : Nat} (hi : i < x.steps.length) (p : ByteArray) : inN x.steps p i ≤ 1 ∧ outN x.steps p i ≤ 1 := by
  have hd := (v0f.1 (h.hw i hi)).2.2.2.2
  have h0 := (dupT_cnt hd (0, p)).1
  have h1 := (dupT_cnt hd (1, p)).1
  have hc := cnt_le (x := x.steps.getD i default) (p := p)
  unfold inN outN
  omega
theorem Acc.inSum (h : Acc s r x) {i : Nat} (hi : i < x.steps.length) {p : ByteArray} (hp : p ∈ (x.steps.getD i default).inn) {n : Nat} (hn : n ≤ x.steps.length) : sumN (inN x.steps p) n = if i < n then 1 else 0 := by
  have hz : ∀ j, j < x.steps.length → j ≠ i → inN x.steps p j = 0 := fun j hj hne => by
    by_cases hc : inN x.steps p j = 0
    · exact hc
    · have hm := z8r.1 (Nat.pos_of_ne_zero hc)
      exact absurd (h.one hj hi (zc0.2 hm) (zc0.2 hp)) hne
  split
  · rename_i hin
    refine sumN_one hin ?_ (fun j hj hne => hz j (by omega) hne)
    have h1 := (h.cnt hi p).1
    have h2 : 0 < inN x.steps p i := z8r.2 hp
    omega
  · exact sumN_zero (fun j hj => hz j (by omega) (by omega))
theorem Acc.outSum (h : Acc s r x) {i : Nat} (hi : i < x.steps.length) {p : ByteArray} (hp : p ∈ (x.steps.getD i default).out) {n : Nat} (hn : n ≤ x.steps.length) (hin : i < n) : sumN (outN x.steps p) n = 1 := by
  refine sumN_one hin ?_ (fun j hj hne => ?_)
  · have h1 := (h.cnt hi p).2
    have h2 : 0 < outN x.steps p i := z8r.2 hp
    omega
  · by_cases hc : outN x.steps p j = 0
    · exact hc
    · have hm := z8r.1 (Nat.pos_of_ne_zero hc)
      exact absurd (h.one (by omega) hi (wsp.2 hm) (wsp.2 hp)) hne
theorem Acc.linear (h : Acc s r x) : linM x.steps = true := by
  rw [linM_iff]
  intro i hi
  refine ⟨fun p hp => ?_, fun p hp => ?_⟩
  · rw [linI_iff hi, h.inSum hi hp (Nat.le_refl _), if_pos hi, h.inSum hi hp (by omega), if_neg (by omega)]
    obtain ⟨j, hj, hpo⟩ := h.made hi hp
    exact ⟨h.outSum (by omega) hpo (by omega) hj, by simp, h.outSum (by omega) hpo (Nat.le_refl _) (by omega), by simp⟩
  · rw [linO_iff, h.outSum hi hp (Nat.le_refl _) hi]
    obtain ⟨j, hj, hpi⟩ := h.used hi hp
    rw [h.inSum hj hpi (Nat.le_refl _), if_pos hj]
    exact ⟨by simp, by simp⟩
theorem Acc.times (h : Acc s r x) {k : Int} (hk : k = 0 ∨ k = 1 ∨ k = 5) {w : ByteArray} (hm : x99 (z6h x.steps x.steps.length) k w = false) : xwf x.steps k w = 1 := by
  unfold x99 at hm
  obtain ⟨v, hv⟩ := ygv (show ¬ (ynd tgE (z6h x.steps x.steps.length) (2 + k, w)).isNone = true by rw [hm]; decide)
  obtain ⟨j, hj, _, ht⟩ := (xvh x.steps x.steps.length).old _ _ hv
  exact times_one j hj ((thing_nm hk).1 ht) (fun i hi hn => h.one hi hj ((thing_nm hk).2 hn) ht)
theorem Acc.whole (h : Acc s r x) (hst : ∀ y ∈ x.steps, vyc y = true) : y1v s x = true := by
  obtain ⟨hcd, hid, hru⟩ := right_parts h.hR
  obtain ⟨_, g1, g2, g3⟩ := gap_iff.1 h.hg
  rw [List.any_eq_false] at g1 g2 g3
  unfold y1v
  simp only [Bool.and_eq_true, List.all_eq_true]
  refine ⟨fun y hy => ?_, fun _ _ => trivial, fun y hy => ?_, fun y hy => ?_, fun y hy => ?_⟩
  · obtain ⟨i, hi, e⟩ := List.getElem_of_mem hy
    have ey : x.steps.getD i default = y := by rw [List.getD_eq_getElem?_getD, List.getElem?_eq_getElem hi]; exact e
    obtain ⟨_, w2, w3, w4, _⟩ := v0f.1 (h.hw i hi)
    rw [ey] at w2 w3 w4
    unfold whS
    rw [Bool.and_eq_true, List.all_eq_true]
    refine ⟨?_, fun w hw => ?_⟩
    · by_cases hk : y.kind = 0 ∨ y.kind = 1 ∨ y.kind = 2 ∨ y.kind = 6 ∨ y.kind = 5
      · rw [there_iff hk]
        rw [step_named (hst y hy) hk, decide_eq_false (show ¬ y.kind = 7 by omega)] at w3
        cases hl : ynd tgE (vgd s) (y.kind, y.name) with
        | none => rw [hl] at w3; cases w3
        | some _ => rfl
      · unfold v40
        rw [decide_eq_false (by omega), decide_eq_false (show ¬ y.kind = 1 by omega), decide_eq_false (show ¬ y.kind = 2 by omega), decide_eq_false (show ¬ y.kind = 6 by omega), decide_eq_false (show ¬ y.kind = 5 by omega)]
        rfl
    · rw [List.any_eq_false] at w2
      have hb := (Bool.or_eq_false_iff.1 w4).2
      rw [List.any_eq_false] at hb
      obtain ⟨u, hu⟩ := ygv (w2 w hw)
      have hb := hb w hw
      unfold badW yyx at hb
      rw [hu] at hb
      have hbu : wsk u = true := by simpa using hb
      rcases foldF_some (nm := Cel.name) (uu := Cel.unit) hu with ⟨c, hc, hn, hcu⟩ | hn
      · unfold v8h
        have hany : s.cells.any (fun z => seq z.name w) = true := List.any_eq_true.2 ⟨c, hc, seqt.2 hn⟩
        rw [vb3, hany, cond_true]
        have hge : 0 ≤ idxF (fun z : Cel => seq z.name w) s.cells := by
          have := vb3 (fun z : Cel => seq z.name w) s.cells
          rw [hany] at this
          exact of_decide_eq_true this
        obtain ⟨hlt, hq⟩ := idxF_get hge
        have hmem := wax hlt
        have ec : s.cells.getD (idxF (fun z : Cel => seq z.name w) s.cells).toNat default = c := hcd _ hmem c hc (by rw [hn]; exact seqt.1 hq)
        rw [ec, hru c hc, hcu, hbu]
        rfl
      · cases hn
  · unfold whI
    cases hq : seq y.kind x.kind with
    | true =>
      rw [cond_true]
      have hg := g1 y hy
      unfold gapI at hg
      rw [hq, Bool.true_and] at hg
      exact decide_eq_true (h.times (.inl rfl) (by simpa using hg))
    | false =>
      rw [cond_false]
      refine decide_eq_true ?_
      by_cases ht : xwf x.steps 0 y.name = 0
      · exact ht
      · obtain ⟨i, hi, hn⟩ := times_pos (Nat.pos_of_ne_zero ht)
        obtain ⟨hk, hnm⟩ := isN_iff.1 hn
        have w4 := (v0f.1 (h.hw i hi)).2.2.2.1
        rw [hk, hnm] at w4
        have hz := (Bool.or_eq_false_iff.1 w4).1
        have hs := foldF_is (nm := Inp.name) (uu := Inp.kind) (w := y.name) (l := s.inputs) (m := []) (.inl ⟨y, hy, rfl⟩)
        obtain ⟨u, hu⟩ := Option.isSome_iff_exists.1 hs
        unfold yyx yz8 at hz
        rw [hu] at hz
        rcases foldF_some (nm := Inp.name) (uu := Inp.kind) hu with ⟨c, hc, hn, hcu⟩ | hn
        · have ec := hid c hc y hy hn
          rw [← hcu, ec] at hz
          rw [Option.getD_some, hq] at hz
          cases hz
        · cases hn
  · unfold whM
    have hg := g2 y hy
    unfold gapM at hg
    exact decide_eq_true (h.times (.inr (.inl rfl)) (by simpa using hg))
  · unfold whP
    have hg := g3 y hy
    unfold gapP at hg
    exact decide_eq_true (h.times (.inr (.inr rfl)) (by simpa using hg))
end
end Go.Hp.T
