/- Plain law: ParcelOnce, the other way round. -/
import Derived.Test.YtbdoipfmafbhoaaGreatDoorY7o
/- Plain law: ParcelOnce, the other way round. -/
namespace Go.Hp.T
open Go Go.RowKit Go.Slot Go.Hp Go.Slot.T
set_option maxRecDepth 10000
theorem at_mem {α : Type} [Inhabited α] {l : List α} {y : α} (hy : y ∈ l) : ∃ i, i < l.length ∧ l.getD i default = y := by
  obtain ⟨i, hi, e⟩ := List.getElem_of_mem hy
  exact ⟨i, hi, by rw [List.getD_eq_getElem?_getD, List.getElem?_eq_getElem hi]; exact e⟩
section
variable {s : Sht} {x : Rcp}
theorem whole_parts (h : y1v s x = true) : (∀ y ∈ x.steps, v40 s y = true ∧ ∀ w ∈ y.cells, v8h s w = true) ∧ (∀ y ∈ s.inputs, whI x y = true) ∧ (∀ y ∈ s.imports, xwf x.steps 1 y.name = 1) ∧ ∀ y ∈ s.ports, xwf x.steps 5 y.name = 1 := by
  unfold y1v whS whM whP at h
  simp only [Bool.and_eq_true, List.all_eq_true, decide_eq_true_eq] at h
  exact ⟨h.1, h.2.2.1, h.2.2.2.1, h.2.2.2.2⟩
theorem whole_input (h : y1v s x = true) {y : Stp} (hy : y ∈ x.steps) (hk : y.kind = 0) : (∃ z ∈ s.inputs, z.name = y.name) ∧ (∀ z ∈ s.inputs, z.name = y.name → seq z.kind x.kind = true) ∧ xwf x.steps 0 y.name = 1 := by
  obtain ⟨h1, h2, _, _⟩ := whole_parts h
  have ht := (h1 y hy).1
  unfold v40 at ht
  rw [hk] at ht
  obtain ⟨z, hz, hn⟩ := List.any_eq_true.1 (show s.inputs.any (fun z => seq z.name y.name) = true from ht)
  have hn := seqt.1 hn
  obtain ⟨i, hi, ei⟩ := at_mem hy
  have hge : 0 < xwf x.steps 0 y.name := times_ge (i := i) hi (by rw [ei, isN_iff]; exact ⟨hk, rfl⟩)
  have hall : ∀ z ∈ s.inputs, z.name = y.name → seq z.kind x.kind = true := fun z hz e => by
    have := h2 z hz
    unfold whI at this
    rw [e] at this
    cases hq : seq z.kind x.kind with
    | true => rfl
    | false =>
      rw [hq, cond_false, decide_eq_true_iff] at this
      omega
  refine ⟨⟨z, hz, hn⟩, hall, ?_⟩
  have := h2 z hz
  unfold whI at this
  rw [hall z hz hn, cond_true, decide_eq_true_iff, hn] at this
  exact this
theorem whole_times (h : y1v s x = true) {y : Stp} (hy : y ∈ x.steps) (hk : y.kind = 0 ∨ y.kind = 1 ∨ y.kind = 5) : xwf x.steps y.kind y.name = 1 := by
  rcases hk with hk | hk | hk
  · rw [hk]; exact (whole_input h hy hk).2.2
  · obtain ⟨h1, _, h3, _⟩ := whole_parts h
    have ht := (h1 y hy).1
    unfold v40 at ht
    rw [hk] at ht
    obtain ⟨z, hz, hn⟩ := List.any_eq_true.1 (show s.imports.any (fun z => seq z.name y.name) = true from ht)
    rw [hk, ← seqt.1 hn]
    exact h3 z hz
  · obtain ⟨h1, _, _, h4⟩ := whole_parts h
    have ht := (h1 y hy).1
    unfold v40 at ht
    rw [hk] at ht
    obtain ⟨z, hz, hn⟩ := List.any_eq_true.1 (show s.ports.any (fun z => seq z.name y.name) = true from ht)
    rw [hk, ← seqt.1 hn]
    exact h4 z hz
theorem bareL_at (hcd : ∀ a ∈ s.cells, ∀ b ∈ s.cells, a.name = b.name → a = b) {w : ByteArray} (h : v8h s w = true) : ∃ c ∈ s.cells, c.name = w ∧ ∀ u, yk4 (wzt s) w = some u → wsk u = true := by
  unfold v8h at h
  cases hd : decide (0 ≤ idxF (fun z : Cel => seq z.name w) s.cells) with
  | false => rw [hd] at h; cases h
  | true =>
    rw [hd, cond_true, Bool.and_eq_true] at h
    obtain ⟨hlt, hq⟩ := idxF_get (of_decide_eq_true hd)
    have hm := wax hlt
    refine ⟨_, hm, seqt.1 hq, fun u hu => ?_⟩
    rcases foldF_some (nm := Cel.name) (uu := Cel.unit) hu with ⟨c, hc, hn, hcu⟩ | hn
    · rw [← hcu, hcd c hc _ hm (by rw [hn]; exact (seqt.1 hq).symm)]
      exact h.2
    · cases hn
theorem acc_of {r : Int} (hR : y4x s = true) (h0 : 0 ≤ r) (h1 : r < s.recipes.length) (hst : ∀ y ∈ x.steps, vyc y = true) (hl : linM x.steps = true) (hw : y1v s x = true) : Acc s r x := by
  obtain ⟨hcd, hid, hru⟩ := right_parts hR
  have hl := linM_iff.1 hl
  obtain ⟨p1, p2, p3, p4⟩ := whole_parts hw
  have hin : ∀ i, i < x.steps.length → ∀ p ∈ (x.steps.getD i default).inn, sumN (inN x.steps p) x.steps.length = 1 := fun i hi p hp => ((linI_iff hi).1 ((hl i hi).1 p hp)).2.2.2
  have hout : ∀ i, i < x.steps.length → ∀ p ∈ (x.steps.getD i default).out, sumN (outN x.steps p) x.steps.length = 1 := fun i hi p hp => (linO_iff.1 ((hl i hi).2 p hp)).1
  have hbook := fun n => xvh x.steps n
  have isk : ∀ i, i < x.steps.length → ∀ t, t ∈ ypc (x.steps.getD i default) → (ynd tgE (z6h x.steps x.steps.length) t).isSome = true := fun i hi t ht => (hbook x.steps.length).all i hi t ht
  refine ⟨hR, h0, h1, fun i hi => ?_, ?_⟩
  · have hy := wax hi
    have hys := hst _ hy
    rw [v0f]
    refine ⟨?_, ?_, ?_, ?_, ?_⟩
    · rw [List.any_eq_false]
      intro p hp hn
      have hb := ((linI_iff hi).1 ((hl i hi).1 p hp)).1
      obtain ⟨j, hj, hpo⟩ := sumN_pos (show 0 < sumN (outN x.steps p) i by omega)
      have := (hbook i).all j hj (1, p) (wsp.2 (z8r.1 hpo))
      unfold noMk at hn
      cases hq : ynd tgE (z6h x.steps i) (1, p) with
      | none => rw [hq] at this; cases this
      | some _ => rw [hq] at hn; cases hn
    · rw [List.any_eq_false]
      intro w hwc hn
      obtain ⟨c, hc, hcn, _⟩ := bareL_at hcd ((p1 _ hy).2 w hwc)
      have := foldF_is (nm := Cel.name) (uu := Cel.unit) (w := w) (l := s.cells) (m := []) (.inl ⟨c, hc, hcn⟩)
      unfold noCl wzt at hn
      obtain ⟨u, hu⟩ := Option.isSome_iff_exists.1 this
      rw [hu] at hn
      cases hn
    · by_cases hk : (x.steps.getD i default).kind = 0 ∨ (x.steps.getD i default).kind = 1 ∨ (x.steps.getD i default).kind = 2 ∨ (x.steps.getD i default).kind = 6 ∨ (x.steps.getD i default).kind = 5
      · have ht := (p1 _ hy).1
        rw [there_iff hk] at ht
        obtain ⟨u, hu⟩ := Option.isSome_iff_exists.1 ht
        rw [hu]
        simp
      · by_cases h7 : (x.steps.getD i default).kind = 7
        · rw [decide_eq_true h7]; simp
        · rw [step_plain hys hk h7]; rfl
    · rw [Bool.or_eq_false_iff]
      constructor
      · by_cases hk : (x.steps.getD i default).kind = 0
        · obtain ⟨⟨z, hz, hzn⟩, hall, _⟩ := whole_input hw hy hk
          have := foldF_is (nm := Inp.name) (uu := Inp.kind) (w := (x.steps.getD i default).name) (l := s.inputs) (m := []) (.inl ⟨z, hz, hzn⟩)
          obtain ⟨u, hu⟩ := Option.isSome_iff_exists.1 this
          rcases foldF_some (nm := Inp.name) (uu := Inp.kind) hu with ⟨c, hc, hn, hcu⟩ | hn
          · unfold yyx yz8
            rw [hu, Option.getD_some, ← hcu, hall c hc hn]
            simp
          · cases hn
        · rw [decide_eq_false hk]; rfl
      · rw [List.any_eq_false]
        intro w hwc hb
        obtain ⟨c, hc, hcn, hbu⟩ := bareL_at hcd ((p1 _ hy).2 w hwc)
        have := foldF_is (nm := Cel.name) (uu := Cel.unit) (w := w) (l := s.cells) (m := []) (.inl ⟨c, hc, hcn⟩)
        obtain ⟨u, hu⟩ := Option.isSome_iff_exists.1 this
        have hb1 := hbu u hu
        unfold badW yyx wzt at hb
        rw [hu, Option.getD_some, hb1] at hb
        cases hb
    · cases hd : dupT (z6h x.steps i) (ypc (x.steps.getD i default)) [] with
      | false => rfl
      | true =>
        exfalso
        rcases x8c hd with ⟨t, ht, h6⟩ | ⟨t, ht, h6⟩ | ⟨t, ht, h6⟩
        · obtain ⟨v, hv⟩ := Option.isSome_iff_exists.1 h6
          obtain ⟨j, hj, _, htj⟩ := (hbook i).old _ _ hv
          rcases ysc.1 ht with ⟨p, hp, rfl⟩ | ⟨p, hp, rfl⟩ | ⟨hk, rfl⟩
          · have a1 := sumN_two (f := inN x.steps p) hj hi
            have a2 := hin i hi p hp
            have a3 : 0 < inN x.steps p i := z8r.2 hp
            have a4 : 0 < inN x.steps p j := z8r.2 (zc0.1 htj)
            omega
          · have a1 := sumN_two (f := outN x.steps p) hj hi
            have a2 := hout i hi p hp
            have a3 : 0 < outN x.steps p i := z8r.2 hp
            have a4 : 0 < outN x.steps p j := z8r.2 (wsp.1 htj)
            omega
          · have a1 := whole_times hw hy hk
            have a2 := (thing_nm hk).1 htj
            have a3 := times_two hj hi a2 (isN_iff.2 ⟨rfl, rfl⟩)
            omega
        · cases h6
        · have hdb := x40 h6
          unfold z9k at hdb
          rw [Bool.or_eq_true, List.any_eq_true, List.any_eq_true] at hdb
          rcases hdb with ⟨p, hp, h7⟩ | ⟨p, hp, h7⟩
          · have a1 := sumN_ge (f := inN x.steps p) hi
            have a2 := hin i hi p hp
            have a3 : (1 : Int) < (cntS (x.steps.getD i default).inn p : Nat) := of_decide_eq_true h7
            unfold inN at a1 a2
            omega
          · have a1 := sumN_ge (f := outN x.steps p) hi
            have a2 := hout i hi p hp
            have a3 : (1 : Int) < (cntS (x.steps.getD i default).out p : Nat) := of_decide_eq_true h7
            unfold outN at a1 a2
            omega
  · have hmiss : ∀ k w, (k = 0 ∨ k = 1 ∨ k = 5) → xwf x.steps k w = 1 → x99 (z6h x.steps x.steps.length) k w = false := fun k w hk ht => by
      obtain ⟨i, hi, hn⟩ := times_pos (show 0 < xwf x.steps k w by omega)
      have := isk i hi _ ((thing_nm hk).2 hn)
      unfold x99
      obtain ⟨u, hu⟩ := Option.isSome_iff_exists.1 this
      rw [hu]
      rfl
    refine gap_iff.2 ⟨fun i hi => ?_, ?_, ?_, ?_⟩
    · unfold zia
      rw [List.any_eq_false]
      intro p hp hn
      have hb := (linO_iff.1 ((hl i hi).2 p hp)).2
      obtain ⟨j, hj, hpi⟩ := sumN_pos (show 0 < sumN (inN x.steps p) x.steps.length by omega)
      have := isk j hj (0, p) (zc0.2 (z8r.1 hpi))
      unfold w3k at hn
      cases hq : ynd tgE (z6h x.steps x.steps.length) (0, p) with
      | none => rw [hq] at this; cases this
      | some _ => rw [hq] at hn; cases hn
    · rw [List.any_eq_false]
      intro y hy hn
      unfold gapI at hn
      rw [Bool.and_eq_true] at hn
      have := p2 y hy
      unfold whI at this
      rw [hn.1, cond_true, decide_eq_true_iff] at this
      rw [hmiss 0 y.name (.inl rfl) this] at hn
      exact absurd hn.2 (by decide)
    · rw [List.any_eq_false]
      intro y hy hn
      unfold gapM at hn
      rw [hmiss 1 y.name (.inr (.inl rfl)) (p3 y hy)] at hn
      cases hn
    · rw [List.any_eq_false]
      intro y hy hn
      unfold gapP at hn
      rw [hmiss 5 y.name (.inr (.inr rfl)) (p4 y hy)] at hn
      cases hn
end
theorem acc_look {s : Sht} {r : Int} (h : Acc s r (s.recipes.getD r.toNat default)) : z4k s r = (0, 0, []) := by
  unfold z4k
  have h0 := h.h0
  have h1 := h.h1
  rw [h.hR, decide_eq_false (show ¬ r < 0 by omega), decide_eq_false (show ¬ (s.recipes.length : Int) ≤ r by omega)]
  generalize s.recipes.getD r.toNat default = x at *
  have hp := zdo (C := wzt s) (I := yz8 s) (N := vgd s) (kind := x.kind) (l := x.steps) x.steps.length (Nat.le_refl _) h.hw
  rw [List.drop_length, z9q] at hp
  show (match z9q (wzt s) (yz8 s) (vgd s) x.kind x.steps 0 [] with
    | .inl k => k
    | .inr H => endL s x H) = _
  rw [hp]
  show endL s x (z6h x.steps x.steps.length) = _
  unfold endL
  rw [h.hg]
  rfl
theorem once_law {s : Sht} {r : Int} (hR : y4x s = true) (h0 : 0 ≤ r) (h1 : r < s.recipes.length) : ((z4k s r).1 = 0 → (z4k s r).2.1 = 0) ∧ decide ((z4k s r).1 = 0) = (linM (s.recipes.getD r.toNat default).steps && y1v s (s.recipes.getD r.toNat default)) := by
  have hst : ∀ y ∈ (s.recipes.getD r.toNat default).steps, vyc y = true := fun y hy => vd5 hR (wax (show r.toNat < s.recipes.length by omega)) hy
  constructor
  · exact fun h => by rw [acc_look (xco h)]
  · rw [Bool.eq_iff_iff, decide_eq_true_iff, Bool.and_eq_true]
    constructor
    · exact fun h => ⟨(xco h).linear, (xco h).whole hst⟩
    · exact fun h => by rw [acc_look (acc_of hR h0 h1 hst h.1 h.2)]
end Go.Hp.T
