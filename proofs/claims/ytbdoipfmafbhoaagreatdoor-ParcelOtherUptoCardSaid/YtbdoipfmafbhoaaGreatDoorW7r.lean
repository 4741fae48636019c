/- Plain law: ParcelOther. -/
import Derived.Test.YtbdoipfmafbhoaaGreatDoorW37
/- Plain law: ParcelOther. -/
namespace Go.Hp.T
open Go Go.RowKit Go.Slot Go.Hp Go.Slot.T
set_option maxRecDepth 10000
def pfx : ByteArray := ⟨#[120, 95]⟩
def cal (l : List ByteArray) : List ByteArray := l.map fun s => pfx ++ s
def calS (y : Stp) : Stp := ⟨y.kind, cal y.inn, cal y.out, y.name, y.cells, y.amount⟩
def keepC (x : Rcp) (c : Cel) : Bool := x.steps.any fun y => decide (0 < (cntS y.cells c.name : Int))
def cellO (c : Cel) : Cel := ⟨c.name, c.unit, default⟩
def cellsO (s : Sht) (x : Rcp) : List Cel := (s.cells.filter (keepC x)).map cellO
def keepI (x : Rcp) (y : Inp) : Bool := seq y.kind x.kind || decide (0 < (xwf x.steps 0 y.name : Int))
def othS (s : Sht) (x : Rcp) : Sht := ⟨⟨#[111, 116, 104, 101, 114]⟩, s.imports, s.inputs.filter (keepI x), [], [], cellsO s x, s.ports, s.stores, [⟨x.kind, x.steps.map calS⟩]⟩
def renT (t : Tg) : Tg := bif decide (t.1 = 0) || decide (t.1 = 1) then (t.1, pfx ++ t.2) else t
theorem pfx_inj {a b : ByteArray} : seq (pfx ++ a) (pfx ++ b) = seq a b := by
  rw [v75, v75]
  refine decide_eq_decide.2 ⟨fun h => ?_, fun h => by rw [h]⟩
  have h1 := congrArg (fun z : ByteArray => z.data.toList) h
  simp only [ByteArray.data_append, Array.toList_append, List.append_cancel_left_eq] at h1
  exact ByteArray.ext (Array.ext' h1)
theorem renT_eq (a b : Tg) : tgE (renT a) (renT b) = tgE a b := by
  obtain ⟨a1, a2⟩ := a
  obtain ⟨b1, b2⟩ := b
  unfold renT
  dsimp only
  by_cases h1 : a1 = 0 ∨ a1 = 1
  · have e1 : (decide (a1 = 0) || decide (a1 = 1)) = true := by simpa using h1
    rw [e1, cond_true]
    by_cases h2 : b1 = 0 ∨ b1 = 1
    · have e2 : (decide (b1 = 0) || decide (b1 = 1)) = true := by simpa using h2
      rw [e2, cond_true]
      show (decide (a1 = b1) && seq (pfx ++ a2) (pfx ++ b2)) = (decide (a1 = b1) && seq a2 b2)
      rw [pfx_inj]
    · have e2 : (decide (b1 = 0) || decide (b1 = 1)) = false := by simpa using h2
      rw [e2, cond_false]
      show (decide (a1 = b1) && _) = (decide (a1 = b1) && _)
      rw [decide_eq_false (by omega)]
      rfl
  · have e1 : (decide (a1 = 0) || decide (a1 = 1)) = false := by simpa using h1
    rw [e1, cond_false]
    by_cases h2 : b1 = 0 ∨ b1 = 1
    · have e2 : (decide (b1 = 0) || decide (b1 = 1)) = true := by simpa using h2
      rw [e2, cond_true]
      show (decide (a1 = b1) && _) = (decide (a1 = b1) && _)
      rw [decide_eq_false (by omega)]
      rfl
    · have e2 : (decide (b1 = 0) || decide (b1 = 1)) = false := by simpa using h2
      rw [e2, cond_false]
def renB {α : Type} (H : List (Tg × α)) : List (Tg × α) := H.map fun p => (renT p.1, p.2)
theorem ren_look {α : Type} {t : Tg} : ∀ {H : List (Tg × α)}, ynd tgE (renB H) (renT t) = ynd tgE H t
  | [] => rfl
  | p :: H => by
    show (bif tgE (renT t) (renT p.1) then some p.2 else ynd tgE (renB H) (renT t)) = bif tgE t p.1 then some p.2 else ynd tgE H t
    rw [renT_eq, ren_look]
theorem ren_upd {α : Type} {t : Tg} {v : α} : ∀ {H : List (Tg × α)}, updG tgE (renB H) (renT t) v = renB (updG tgE H t v)
  | [] => rfl
  | p :: H => by
    show (bif tgE (renT t) (renT p.1) then (renT t, v) :: renB H else (renT p.1, p.2) :: updG tgE (renB H) (renT t) v) = renB (bif tgE t p.1 then (t, v) :: H else p :: updG tgE H t v)
    rw [renT_eq, ren_upd]
    cases tgE t p.1 <;> rfl
theorem ren_add {k : Int} : ∀ {T : List Tg} {H : Mb}, addT (renB H) k (T.map renT) = renB (addT H k T)
  | [], _ => rfl
  | y :: T, H => by
    show addT (updG tgE (renB H) (renT y) k) k (T.map renT) = renB (addT (updG tgE H y k) k T)
    rw [ren_upd, ren_add]
theorem ren_cnt : ∀ {T : List Tg} {m : Mb}, cntM (T.map renT) (renB m) = renB (cntM T m)
  | [], _ => rfl
  | y :: T, m => by
    show cntM (T.map renT) (updG tgE (renB m) (renT y) ((ynd tgE (renB m) (renT y)).getD 0 + 1)) = renB (cntM T (updG tgE m y ((ynd tgE m y).getD 0 + 1)))
    rw [ren_look, ren_upd, ren_cnt]
theorem ren_dup {H : Mb} : ∀ {T : List Tg} {m : Mn}, dupT (renB H) (T.map renT) (renB m) = dupT H T m
  | [], _ => rfl
  | y :: T, m => by
    rw [List.map_cons, dupT, dupT, ren_look, ren_look, ren_upd, ren_dup]
theorem ren_blameL {e a : Int} {H K : Mb} : ∀ {T : List Tg}, yis e a (renB H) (renB K) (T.map renT) = yis e a H K T
  | [] => rfl
  | y :: T => by
    rw [List.map_cons, yis, yis, ren_look, ren_look, ren_blameL]
theorem ren_things (y : Stp) : ypc (calS y) = (ypc y).map renT := by
  unfold ypc calS cal
  dsimp only
  rw [List.map_append, List.map_append, List.map_map, List.map_map, List.map_map, List.map_map]
  congr 1
  cases hb : (decide (y.kind = 0) || (decide (y.kind = 1) || decide (y.kind = 5))) with
  | false => rfl
  | true =>
    have hk : y.kind = 0 ∨ y.kind = 1 ∨ y.kind = 5 := by simpa using hb
    rw [cond_true, List.map_cons, List.map_nil]
    unfold renT
    dsimp only
    rw [decide_eq_false (show ¬ 2 + y.kind = 0 by omega), decide_eq_false (show ¬ 2 + y.kind = 1 by omega)]
    rfl
theorem ren_blame {e a : Int} {H : Mb} {y : Stp} : zet e a (renB H) (calS y) = zet e a H y := by
  unfold zet
  rw [ren_things]
  have := ren_cnt (T := ypc y) (m := [])
  rw [show cntM ((ypc y).map renT) [] = renB (cntM (ypc y) []) from this, ren_blameL]
theorem ren_any {k : Int} (hk : k = 0 ∨ k = 1) {H : Mb} {l : List ByteArray} : (cal l).any (fun p => (ynd tgE (renB H) (k, p)).isNone) = l.any (fun p => (ynd tgE H (k, p)).isNone) := by
  unfold cal
  rw [List.any_map]
  congr 1
  funext p
  have e : renT (k, p) = (k, pfx ++ p) := by
    unfold renT
    rcases hk with rfl | rfl <;> rfl
  show (ynd tgE (renB H) (k, pfx ++ p)).isNone = _
  rw [← e, ren_look]
theorem ren_hi {k : Int} (hk : 2 ≤ k) (w : ByteArray) : renT (k, w) = (k, w) := by
  unfold renT
  dsimp only
  rw [decide_eq_false (by omega), decide_eq_false (show ¬ k = 1 by omega)]
  rfl
structure Like (C I C' I' : Ms) (N N' : Mn) (y : Stp) : Prop where
  c : ∀ w ∈ y.cells, yk4 C' w = yk4 C w
  n : (ynd tgE N' (y.kind, y.name)).isSome = (ynd tgE N (y.kind, y.name)).isSome
  i : y.kind = 0 → yk4 I' y.name = yk4 I y.name
theorem any_congr {α : Type} {p q : α → Bool} : ∀ {l : List α}, (∀ x ∈ l, p x = q x) → l.any p = l.any q
  | [], _ => rfl
  | x :: l, h => by rw [List.any_cons, List.any_cons, h x List.mem_cons_self, any_congr (fun y hy => h y (List.mem_cons_of_mem _ hy))]
theorem none_some {α : Type} (o : Option α) : o.isNone = !o.isSome := by cases o <;> rfl
theorem ren_wrong {C I C' I' : Ms} {N N' : Mn} {H : Mb} {kind : ByteArray} {y : Stp} (h : Like C I C' I' N N' y) : veh C' I' N' (renB H) kind (calS y) = veh C I N H kind y := by
  unfold veh
  rw [ren_things]
  have e1 : (calS y).inn.any (noMk (renB H)) = y.inn.any (noMk H) := ren_any (.inr rfl)
  have e2 : (calS y).cells.any (noCl C') = y.cells.any (noCl C) := any_congr fun w hw => by unfold noCl; rw [h.c w hw]
  have e3 : (calS y).cells.any (badW C') = y.cells.any (badW C) := any_congr fun w hw => by unfold badW yyx; rw [h.c w hw]
  have e4 : (decide (y.kind = 0) && !seq (yyx I' y.name) kind) = (decide (y.kind = 0) && !seq (yyx I y.name) kind) := by
    by_cases hk : y.kind = 0
    · unfold yyx; rw [h.i hk]
    · rw [decide_eq_false hk]; rfl
  have e5 : dupT (renB H) ((ypc y).map renT) [] = dupT H (ypc y) [] := ren_dup (m := [])
  rw [e1, e2, e3, e5]
  show (bif y.inn.any (noMk H) then 4 else bif y.cells.any (noCl C) then 4 else
    bif !(seq y.name ⟨#[]⟩) && (!decide (y.kind = 7) && (ynd tgE N' (y.kind, y.name)).isNone) then 4 else
    bif (decide (y.kind = 0) && !seq (yyx I' y.name) kind) || y.cells.any (badW C) then 13 else bif dupT H (ypc y) [] then 5 else 0) = _
  rw [none_some (ynd tgE N' (y.kind, y.name)), h.n, ← none_some, e4]
theorem ren_lookL {C I C' I' : Ms} {N N' : Mn} {kind : ByteArray} : ∀ {l : List Stp} {i : Nat} {H : Mb}, (∀ y ∈ l, Like C I C' I' N N' y) → z9q C' I' N' kind (l.map calS) i (renB H) = (match z9q C I N kind l i H with | .inl k => .inl k | .inr H => .inr (renB H))
  | [], i, H, _ => rfl
  | y :: l, i, H, h => by
    rw [List.map_cons, z9q, z9q, ren_wrong (h y List.mem_cons_self), ren_blame, ren_things, ren_add, ren_lookL (fun z hz => h z (List.mem_cons_of_mem _ hz))]
    cases decide (¬ veh C I N H kind y = 0) <;> rfl
theorem find_congr {p q : Nat → Bool} : ∀ {l : List Nat}, (∀ x ∈ l, p x = q x) → l.find? p = l.find? q
  | [], _ => rfl
  | x :: l, h => by rw [List.find?_cons, List.find?_cons, h x List.mem_cons_self, find_congr (fun y hy => h y (List.mem_cons_of_mem _ hy))]
theorem ren_unused {H : Mb} {l : List Stp} : v6b (renB H) (l.map calS) = v6b H l := by
  unfold v6b
  rw [List.length_map]
  refine find_congr fun i hi => ?_
  have hi := List.mem_range.1 hi
  rw [getD_map hi]
  exact ren_any (.inl rfl)
theorem ren_miss {H : Mb} {k : Int} (hk : 0 ≤ k) {w : ByteArray} : x99 (renB H) k w = x99 H k w := by
  unfold x99
  have := ren_look (t := (2 + k, w)) (H := H)
  rw [ren_hi (by omega)] at this
  rw [this]
theorem ren_end {s : Sht} {x : Rcp} {H : Mb} : endL (othS s x) ⟨x.kind, x.steps.map calS⟩ (renB H) = endL s x H := by
  have hg : gapR (othS s x) ⟨x.kind, x.steps.map calS⟩ (renB H) = gapR s x H := by
    unfold gapR
    rw [ren_unused]
    cases v6b H x.steps with
    | some i => rfl
    | none =>
      dsimp only
      have e1 : (othS s x).inputs.any (gapI (renB H) x.kind) = s.inputs.any (gapI H x.kind) := by
        show (s.inputs.filter (keepI x)).any _ = _
        rw [List.any_filter]
        refine any_congr fun y _ => ?_
        unfold gapI keepI
        rw [ren_miss (by decide)]
        cases seq y.kind x.kind <;> simp
      have e2 : (othS s x).imports.any (gapM (renB H)) = s.imports.any (gapM H) := any_congr fun y _ => by unfold gapM; rw [ren_miss (by decide)]
      have e3 : (othS s x).ports.any (gapP (renB H)) = s.ports.any (gapP H) := any_congr fun y _ => by unfold gapP; rw [ren_miss (by decide)]
      rw [e1, e2, e3]
  unfold endL
  rw [hg, List.length_map]
theorem foldF_keep {α β : Type} {nm uu : α → ByteArray} {nm' uu' : β → ByteArray} {f : α → β} {keep : α → Bool} {w : ByteArray} (hn : ∀ a, nm' (f a) = nm a) (hu : ∀ a, uu' (f a) = uu a) : ∀ {l : List α} {m m' : Ms}, (∀ a ∈ l, nm a = w → keep a = true) → yk4 m' w = yk4 m w → yk4 (((l.filter keep).map f).foldl (fun m x => updF m (nm' x) (uu' x)) m') w = yk4 (l.foldl (fun m x => updF m (nm x) (uu x)) m) w
  | [], _, _, _, h => h
  | a :: l, m, m', hk, h => by
    have ih := fun m m' => foldF_keep hn hu (l := l) (m := m) (m' := m') (fun b hb => hk b (List.mem_cons_of_mem _ hb))
    rw [List.filter_cons]
    cases hq : keep a with
    | true =>
      refine ih _ _ ?_
      show yk4 (updF m' (nm' (f a)) (uu' (f a))) w = yk4 (updF m (nm a) (uu a)) w
      rw [hn, hu, x8l, x8l, h]
    | false =>
      refine ih _ _ ?_
      show yk4 m' w = yk4 (updF m (nm a) (uu a)) w
      rw [x8l]
      cases hs : seq w (nm a) with
      | true =>
        have := hk a List.mem_cons_self (seqt.1 hs).symm
        rw [hq] at this
        cases this
      | false => exact h
theorem oth_like {s : Sht} {x : Rcp} {y : Stp} (hy : y ∈ x.steps) : Like (wzt s) (yz8 s) (wzt (othS s x)) (yz8 (othS s x)) (vgd s) (vgd (othS s x)) y where
  c := fun w hw => by
    refine foldF_keep (nm := Cel.name) (uu := Cel.unit) (nm' := Cel.name) (uu' := Cel.unit) (f := cellO) (fun _ => rfl) (fun _ => rfl) (fun c _ hn => ?_) rfl
    unfold keepC
    refine List.any_eq_true.2 ⟨y, hy, decide_eq_true ?_⟩
    rw [hn]
    have := z8r.2 hw
    omega
  n := by
    rw [whr, whr]
    have e : (othS s x).inputs.any (fun z => decide (y.kind = 0) && seq z.name y.name) = s.inputs.any (fun z => decide (y.kind = 0) && seq z.name y.name) := by
      show (s.inputs.filter (keepI x)).any _ = _
      rw [List.any_filter]
      refine any_congr fun z _ => ?_
      by_cases hk : y.kind = 0
      · cases hq : seq z.name y.name with
        | false => simp
        | true =>
          obtain ⟨i, hi, ei⟩ := at_mem hy
          have := w0y (k := 0) (w := z.name) hi (by rw [ei, ziv]; exact ⟨hk, (seqt.1 hq).symm⟩)
          unfold keepI
          rw [decide_eq_true (show 0 < (xwf x.steps 0 z.name : Int) by omega), Bool.or_true, Bool.true_and]
      · rw [decide_eq_false hk]; simp
    rw [e]
    rfl
  i := fun hk => by
    have := foldF_keep (nm := Inp.name) (uu := Inp.kind) (nm' := Inp.name) (uu' := Inp.kind) (f := id) (keep := keepI x) (w := y.name) (fun _ => rfl) (fun _ => rfl) (l := s.inputs) (m := []) (m' := []) (fun z _ hn => by
      obtain ⟨i, hi, ei⟩ := at_mem hy
      have := w0y (k := 0) (w := z.name) hi (by rw [ei, ziv]; exact ⟨hk, hn.symm⟩)
      unfold keepI
      rw [decide_eq_true (show 0 < (xwf x.steps 0 z.name : Int) by omega), Bool.or_true]) rfl
    rw [List.map_id] at this
    exact this
theorem other_law {s : Sht} {r : Int} (hR : y4x s = true) (h0 : 0 ≤ r) (h1 : r < s.recipes.length) (hR' : y4x (othS s (s.recipes.getD r.toNat default)) = true) : z4k (othS s (s.recipes.getD r.toNat default)) 0 = z4k s r := by
  unfold z4k
  rw [hR, hR', decide_eq_false (show ¬ r < 0 by omega), decide_eq_false (show ¬ (s.recipes.length : Int) ≤ r by omega)]
  generalize s.recipes.getD r.toNat default = x at *
  show (match z9q (wzt (othS s x)) (yz8 (othS s x)) (vgd (othS s x)) x.kind (x.steps.map calS) 0 (renB []) with
    | .inl k => k
    | .inr H => endL (othS s x) ⟨x.kind, x.steps.map calS⟩ H) = (match z9q (wzt s) (yz8 s) (vgd s) x.kind x.steps 0 [] with
    | .inl k => k
    | .inr H => endL s x H)
  rw [ren_lookL (C := wzt s) (I := yz8 s) (N := vgd s) (fun y hy => oth_like hy)]
  cases z9q (wzt s) (yz8 s) (vgd s) x.kind x.steps 0 [] with
  | inl k => rfl
  | inr H => exact ren_end
end Go.Hp.T
