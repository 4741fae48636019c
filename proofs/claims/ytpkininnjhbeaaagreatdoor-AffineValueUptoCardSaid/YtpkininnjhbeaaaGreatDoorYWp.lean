import Derived.Test.YtpkininnjhbeaaaGreatDoorY36
import Derived.Test.YtpkininnjhbeaaaGreatDoorY37
namespace Go.Hp.T
open Go Go.RowKit Go.Slot Go.Hp Go.Slot.T
open Go.Proofs.Tryz (prog)
set_option maxRecDepth 100000
set_option maxHeartbeats 0
attribute [local irreducible] hide
abbrev bdOf (vs : List Fc) (s : Sl) : Bd := ⟨s.name, s.f.at' vs⟩
def bindB (ss : List Sl) (vs : List Fc) : Bool := ss.all fun s => decide (s.f.ok vs.length ∧ oks vs)
theorem cBinds19 (ss : List Sl) (vs : List Fc) (hl : ss.length ≤ 6) (hv : vs.length ≤ 8) (hs : ∀ s ∈ ss, s.f.l.length ≤ 6 ∧ s.f.le 4) (hsv : ∀ f ∈ vs, f.sz ≤ 4) :
    CallsD Gs prog 25 [.one (.sl 6 (ss.map Sl.C)), .one (.sl 4 (vs.map Fc.C))] (.tup [.one (.sl 5 (bif bindB ss vs then (ss.map (bdOf vs)).map Bd.C else [])), .one (cB (bindB ss vs))]) := by
  have hB : 4 + 2 + vs.length * (2 * 4 + 1) ≤ 67108864 := by omega
  have ha : ∀ i, i < ss.length → CallsD Gs prog 20 [.agg (ss.getD i default).f.C, .one (.sl 4 (vs.map Fc.C))] (.tup [.agg ((ss.getD i default).f.at' vs).C, .one (cB (decide ((ss.getD i default).f.ok vs.length ∧ oks vs)))]) := fun i hi => by
    obtain ⟨h1, h2⟩ := hs _ (y7p hi)
    exact cAt _ vs (by omega) (by omega) h2 hsv hB
  simp only [Af.C_eq, Fc.C_eq] at ha
  generalize hR : bindB ss vs = R
  refine CallsD.run [] Go.Proofs.Tryz.func25 rfl rfl rfl ?_; simp only [Go.Proofs.Tryz.f25]; refine hgR ?_
  repeat' ((first | refine hfk ?_ ?_ <;> intros | refine hik ?_) <;> refine hgS ?_)
  refine x20 [0, 1] (fun i : Nat => [(6, .one (.sl 0 5 0 i)), (7, .one (.dat (cI i)))]) (fun i => [.arr (.sl 5 (((ss.take i).map (bdOf vs)).map Bd.C)) 0 (some 59)])
    (fun i => i ≤ ss.length ∧ ∀ j, j < i → decide ((ss.getD j default).f.ok vs.length ∧ oks vs) = true) (fun i => ss.length - i) 0 ⟨Nat.zero_le _, fun j hj => by omega⟩ ?_ ?_
  · refine hg ?_
    refine StH.trans (StH.empty (d := 6) (es := 5) (c := .sl 5 []) (T := some 59) rfl rfl (fun r hr => by cases hr) rfl) ?_
    refine hg ?_
    exact StH.same svl rfl
  rintro i ⟨h1, h2⟩
  have hz : (ss.take i).length = i := by rw [List.length_take]; omega
  refine hg1 @hz ?_
  refine vt2 (fun hlt _ => ?_) (fun hlt _ => ?_)
  · have hlt' : i < ss.length := by omega
    have hi := ha i hlt'
    have bad : decide ((ss.getD i default).f.ok vs.length ∧ oks vs) = false → R = false := fun h => by
      rw [← hR]
      unfold bindB
      rw [List.all_eq_false]
      exact ⟨_, y7p hlt', by rw [h]; decide⟩
    have hnext := fun h => xm4 (p := fun j => decide ((ss.getD j default).f.ok vs.length ∧ oks vs) = true) h2 h
    have ht : ((ss.take i).map (bdOf vs)).map Bd.C ++ [bdC (bdOf vs (ss.getD i default))] = ((ss.take (i + 1)).map (bdOf vs)).map Bd.C := by
      rw [wcz hlt']; simp; rfl
    generalize decide ((ss.getD i default).f.ok vs.length ∧ oks vs) = o at hi bad hnext
    clear hR h2 ha
    refine hg ?_
    repeat' ((first | refine hfk ?_ ?_ <;> intros | refine hik ?_ | with_reducible first | refine hcA ?_ | refine hcB ?_) <;> refine hgS ?_)
    all_goals first
      | exact .tup (.cons (.one (.nilSl _)) (.cons (.refl _) .nil))
      | (rw [bad (by assumption)]; exact .tup (.cons (.one (.nilSl _)) (.cons (.refl _) .nil)))
      | (refine ⟨i + 1, ⟨by omega, hnext (by assumption)⟩, by omega, ?_⟩
         rw [← ht]
         have hz2 : ((ss.take (i + 1)).map (bdOf vs)).length = i + 1 := by rw [List.length_map, List.length_take]; omega
         rw [List.length_take, Nat.min_eq_left (by omega)]
         exact StH.back [0, 1, 6, 7] 0 2 1 rfl rfl rfl rfl rfl (by kernel_rfl) (StH.same svl rfl))
  · have e : i = ss.length := by omega
    have eR : R = true := by
      rw [← hR]
      unfold bindB
      rw [List.all_eq_true]
      intro s hs'
      obtain ⟨j, hj, rfl⟩ := List.getElem_of_mem hs'
      have := h2 j (by omega)
      rwa [show ss.getD j default = ss[j] from by simp [hj]] at this
    subst eR
    rw [e, List.take_length]
    refine hg ?_
    repeat' ((first | refine hfk ?_ ?_ <;> intros | refine hik ?_) <;> refine hgS ?_)
    all_goals exact RLe.ofEq rfl
theorem oks_of : ∀ {vs : List Fc}, oks vs → ∃ l : List Rat, vs = l.map Fc.of
  | [], _ => ⟨[], rfl⟩
  | v :: vs, h => by
    obtain ⟨h1, h2⟩ := y4q.1 h
    obtain ⟨l, rfl⟩ := oks_of h2
    exact ⟨v.val :: l, by rw [List.map_cons]; congr 1; obtain ⟨q, hq⟩ := Fc.vy4 h1; rw [hq, Fc.xhg]⟩
theorem wValueRun (x : Ex) (ss : List Sl) (ms : List Tb) (vs : List Fc) (rows : List (List Cell)) (q w : Rat) (l : List Rat) (_hl : ss.length ≤ 1048576) (hne : ss.length ≠ 0)
    (f1 : CallsD Gs prog 9 [.agg (exC x), .one (.sl 6 (ss.map Sl.C)), .one (.sl 3 (ms.map Tb.C))] (.one (cB true))) (f3 : CallsD Gs prog 17 [.one (.sl 4 (vs.map Fc.C))] (.one (cB true)))
    (o1 : CallsD Gs prog 10 [.agg (exC x), .one (.sl 6 (ss.map Sl.C)), .one (.sl 3 (ms.map Tb.C))] (.tup [.agg (afC (q, l)), .one (cI 0)]))
    (b1 : CallsD Gs prog 25 [.one (.sl 6 (ss.map Sl.C)), .one (.sl 4 (vs.map Fc.C))] (.tup [.one (.sl 5 rows), .one (cB true)]))
    (a1 : CallsD Gs prog 20 [.agg (afC (q, l)), .one (.sl 4 (vs.map Fc.C))] (.tup [.agg (qC (some w)), .one (cB true)]))
    (v1 : CallsD Gs prog 24 [.agg (exC x), .one (.sl 5 rows), .one (.sl 3 (ms.map Tb.C))] (rsR (⟨false, false, some w⟩, 0)))
    (s1 : CallsD Gs prog 22 [.agg (qC (some w)), .agg (qC (some w))] (.one (cB true))) :
    CallsD Gs prog 6 [.agg (exC x), .one (.sl 6 (ss.map Sl.C)), .one (.sl 3 (ms.map Tb.C)), .one (.sl 4 (vs.map Fc.C))] (.one (cB true)) := by
  have s0 := xg8
  refine CallsD.run [] Go.Proofs.Tryz.func6 rfl rfl rfl ?_; simp only [Go.Proofs.Tryz.f6]; refine hgR ?_
  repeat' ((first | refine hfk ?_ ?_ <;> intros | refine hik ?_ | with_reducible first | refine hcA ?_ | refine hcB ?_) <;> refine hgS ?_)
  all_goals first
    | (exfalso; omega)
    | refine lfE ?_; first | exact trivial | rfl
theorem wAffValue (x : Ex) (ss : List Sl) (ms : List Tb) (vs : List Fc) (h : Ar19 x ss ms) (sl : vs.length ≤ 1048576 ∧ ∀ f ∈ vs, f.sz ≤ 1048576) :
    CallsD Gs prog 6 [.agg (exC x), .one (.sl 6 (ss.map Sl.C)), .one (.sl 3 (ms.map Tb.C)), .one (.sl 4 (vs.map Fc.C))] (.one (cB true)) := by
  have f1 := h.few (Γ := Gs)
  have f3 := v6h vs sl.1 sl.2
  cases hf : yw7 x ss ms with
  | false =>
    rw [hf] at f1
    refine CallsD.run [] Go.Proofs.Tryz.func6 rfl rfl rfl ?_; simp only [Go.Proofs.Tryz.f6]; refine hgR ?_
    repeat' ((first | refine hfk ?_ ?_ <;> intros | refine hik ?_ | with_reducible first | refine hcA ?_ | refine hcB ?_ | refine wml (xg8) ?_ | refine ysj (xg8) ?_) <;> refine hgS ?_)
    all_goals refine lfE ?_; first | exact trivial | rfl
  | true => cases hv : fewL vs with
    | false =>
      rw [hf] at f1
      rw [hv] at f3
      refine CallsD.run [] Go.Proofs.Tryz.func6 rfl rfl rfl ?_; simp only [Go.Proofs.Tryz.f6]; refine hgR ?_
      repeat' ((first | refine hfk ?_ ?_ <;> intros | refine hik ?_ | with_reducible first | refine hcA ?_ | refine hcB ?_ | refine wml (xg8) ?_ | refine ysj (xg8) ?_) <;> refine hgS ?_)
      all_goals refine lfE ?_; first | exact trivial | rfl
    | true =>
      rw [hf] at f1
      rw [hv] at f3
      obtain ⟨n1, n2⟩ := zvu hv
      obtain ⟨k1, k2⟩ := wl2 hf
      have o1 := h.of hf (Γ := Gs)
      have b1 := cBinds19 ss vs k1 n1 (fun s hs => (k2 s hs)) n2
      cases hb : bindB ss vs with
      | false =>
        rw [hb] at b1
        have hz := ziw x ss ms
        generalize affF x ss ms = r at o1 hz
        obtain ⟨⟨t, i, c, l⟩, e⟩ := r
        by_cases he : e = 0
        · subst he
          refine CallsD.run [] Go.Proofs.Tryz.func6 rfl rfl rfl ?_; simp only [Go.Proofs.Tryz.f6]; refine hgR ?_
          repeat' ((first | refine hfk ?_ ?_ <;> intros | refine hik ?_ | with_reducible first | refine hcA ?_ | refine hcB ?_ | refine wml (xg8) ?_ | refine ysj (xg8) ?_) <;> refine hgS ?_)
          all_goals refine lfE ?_; first | exact trivial | rfl
        · have := hz he
          simp only [Prod.mk.injEq] at this
          cases this.1
          refine CallsD.run [] Go.Proofs.Tryz.func6 rfl rfl rfl ?_; simp only [Go.Proofs.Tryz.f6]; refine hgR ?_
          repeat' ((first | refine hfk ?_ ?_ <;> intros | refine hik ?_ | with_reducible first | refine hcA ?_ | refine hcB ?_ | refine wml (xg8) ?_ | refine ysj (xg8) ?_) <;> refine hgS ?_)
          all_goals first
            | (exfalso; omega)
            | refine lfE ?_; first | exact trivial | rfl
      | true =>
        rw [hb] at b1
        have b1 : CallsD Gs prog 25 [.one (.sl 6 (ss.map Sl.C)), .one (.sl 4 (vs.map Fc.C))] (.tup [.one (.sl 5 ((ss.map (bdOf vs)).map Bd.C)), .one (cB true)]) := b1
        have hz := ziw x ss ms
        have hG := w9s (x := x) (ms := ms) (fun s hs => (k2 s hs))
        have hV := fun r vq (e : vs = vq.map Fc.of) hn => zmz (B := 4300) (by decide) (x := x) (ss := ss) (ms := ms) (vs := vq) (r := r) (fun s hs => by have := (k2 s hs).2; exact ⟨by have := this.1; omega, fun f hf => by have := this.2 f hf; omega⟩) hn
        generalize hA : affF x ss ms = r at o1 hz hG hV
        obtain ⟨r, e⟩ := r
        by_cases he : e = 0
        · subst he
          cases ss with
          | nil =>
            obtain ⟨t, i, c, l⟩ := r
            rw [List.map_nil] at f1 o1 b1
            refine CallsD.run [] Go.Proofs.Tryz.func6 rfl rfl rfl ?_; simp only [Go.Proofs.Tryz.f6]; refine hgR ?_
            repeat' ((first | refine hfk ?_ ?_ <;> intros | refine hik ?_ | with_reducible first | refine hcA ?_ | refine hcB ?_ | refine wml (xg8) ?_ | refine ysj (xg8) ?_) <;> refine hgS ?_)
            all_goals refine lfE ?_; first | exact trivial | rfl
          | cons s ss =>
            have hok : ∀ y ∈ s :: ss, y.f.ok vs.length ∧ oks vs := fun y hy => by
              have := List.all_eq_true.1 hb y hy
              exact of_decide_eq_true this
            obtain ⟨vq, hq⟩ := oks_of (hok s (by simp)).2
            have hn : vq.length = nOf (s :: ss) := by
              have := (hok s (by simp)).1.1
              rw [hq, List.length_map] at this
              exact this.symm
            obtain ⟨q, e1, e2, e3, e4⟩ := hV r vq hq hn rfl
            obtain ⟨g1, g2'⟩ := hG rfl
            obtain ⟨t, i, c, l⟩ := r
            simp only at e1 e2 e3 g1 g2'
            subst e1 g1
            have hw : (Af.of q l).at' vs = Fc.of (q + dot l vq) := by rw [hq, Af.vei _ _ _ (by omega), zh9]
            rcases g2' with ⟨g2, _⟩ | ⟨_, gi, gl, ⟨q', gq, gz⟩, gr⟩
            · cases g2
            simp only at gi gl gq gr
            cases gq
            have hle : (Af.of q l).le 860000 := ⟨gz, zf5 gr⟩
            have hnl : l.length ≤ 8 := by rw [e3, ← List.length_map (f := Fc.of), ← hq]; exact n1
            have hvs : ∀ f ∈ vs, f.sz ≤ 860000 := fun f hf => Nat.le_trans (n2 f hf) (by decide)
            have a1 := cAt (Γ := Gs) (Af.of q l) vs (by show (l.map Fc.of).length ≤ _; rw [List.length_map]; omega) (by omega) hle hvs (by omega)
            have hok : (Af.of q l).ok vs.length ∧ oks vs := ⟨(Af.xd3 _ _ _).2 (by rw [hq, List.length_map]; exact e3), (hok s (by simp)).2⟩
            rw [decide_eq_true hok, hw, y6w] at a1
            have hsz : qs (q + dot l vq) ≤ 67108864 := by
              have h1 := v1x hle hvs
              rw [hw] at h1
              have h2 : (Af.of q l).l.length = l.length := by show (l.map Fc.of).length = _; rw [List.length_map]
              rw [h2] at h1
              have h1 : qs (q + dot l vq) ≤ 860000 + 2 + l.length * (2 * 860000 + 1) := h1
              omega
            have s1 := xb9 (Γ := Gs) (Fc.of (q + dot l vq)) (Fc.of (q + dot l vq)) hsz hsz
            rw [decide_eq_true rfl] at s1
            have v1 := vpt (Γ := Gs) x ((s :: ss).map (bdOf vs)) ms h.x (by rw [List.length_map]; omega) (by have := h.m; omega) (fun b hb => by
              obtain ⟨y, hy, rfl⟩ := List.mem_map.1 hb
              refine ⟨(h.ss y hy).1, ?_⟩
              have h1 := v1x (k2 y hy).2 n2
              have h2 := (k2 y hy).1
              have h1 : (y.f.at' vs).sz ≤ 4 + 2 + y.f.l.length * (2 * 4 + 1) := h1
              show (y.f.at' vs).sz ≤ 330000
              omega) h.ms
            rw [show (s :: ss).map (bdOf vs) = (s :: ss).map fun s => (⟨s.name, s.f.at' (vq.map Fc.of)⟩ : Bd) by rw [hq], e4] at v1
            rw [show (s :: ss).map (bdOf vs) = (s :: ss).map fun s => (⟨s.name, s.f.at' (vq.map Fc.of)⟩ : Bd) by rw [hq]] at b1
            exact wValueRun x (s :: ss) ms vs _ q _ l (by omega) (by simp) f1 f3 o1 b1 a1 v1 s1
        · have := hz he
          simp only [Prod.mk.injEq] at this
          cases this.1
          refine CallsD.run [] Go.Proofs.Tryz.func6 rfl rfl rfl ?_; simp only [Go.Proofs.Tryz.f6]; refine hgR ?_
          repeat' ((first | refine hfk ?_ ?_ <;> intros | refine hik ?_ | with_reducible first | refine hcA ?_ | refine hcB ?_ | refine wml (xg8) ?_ | refine ysj (xg8) ?_) <;> refine hgS ?_)
          all_goals first
            | (exfalso; omega)
            | refine lfE ?_; first | exact trivial | rfl
end Go.Hp.T
