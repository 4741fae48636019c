/- RecipeWhole: the walk. -/
import Derived.Test.YtkbkjjahlafhoaaGreatDoorQ17
import Derived.Test.YtkbkjjahlafhoaaGreatDoorQ41
/- RecipeWhole: the walk. -/
namespace Go.Hp.T
open Go Go.RowKit Go.Slot Go.Hp Go.Slot.T
open Go.Proofs.Tryz
attribute [local irreducible] hide RH
set_option maxRecDepth 10000
set_option maxHeartbeats 8000000
variable {Γ : List (Nat × List Cell)}
abbrev fcB (x : Fc) : SB := .box ((fcC x).map .dat) (some 51)
theorem fInt5 (n : Int) (hn : inI n) {z : Fc} (h : z = Fc.of n) : CallsD Γ prog 14 [.one (cI n)] (.agg (fcC z)) := by
  have := zzp (Γ := Γ) n hn
  rw [← h] at this
  exact this
theorem cTotal (l : List Fc) (hl : l.length ≤ 50) (hz : ∀ x ∈ l, x.sz ≤ 1000000) : CallsD Γ prog 13 [.one (frsC l)] (.agg (fcC (totF l))) := by
  have c0 := fInt5 (Γ := Γ) 0 (by decide) (z := Fc.of 0) rfl
  have hs := fun i hi => wte hz i hi
  obtain ⟨z, hz0⟩ : ∃ z, totF [] = z := ⟨_, rfl⟩
  rw [show Fc.of 0 = z from hz0] at c0
  replace hz0 : ∃ _ : Unit, totF [] = z := ⟨(), hz0⟩
  refine hE [] func13 f13.eq_1 ?_
  (with_reducible refine wdy c0 ?_)<;>refine hgS ?_
  clear c0
  refine wf5 [0, 2, 3] (fun i : Nat => [(4, .one (.dat (cI i)))]) (fun i => [.box (zrC.map .dat) (some 51), fcB (totF (l.take i))]) (fun i => i ≤ l.length) (fun i => l.length - i) 0 (Nat.zero_le _) ?_ ?_
  · refine hg ?_
    obtain ⟨_, hz0⟩ := hz0
    rw [hz0]
    exact sS
  clear hz0
  intro i hi
  by_cases hlt : i < l.length
  · have s1 := hs i hi
    have s2 := hz _ (ldM (d := Fc.zero) hlt)
    have s3 : i * (1000000 + 1) ≤ 50 * (1000000 + 1) := Nat.mul_le_mul_right _ (by omega)
    obtain ⟨e, c1⟩ := fAdd (Γ := Γ) (totF (l.take i)) (l.getD i Fc.zero) (by omega) (by omega)
    rw [← zdm hlt] at c1
    obtain ⟨w, hw⟩ : ∃ w, totF (l.take (i + 1)) = w := ⟨_, rfl⟩
    rw [hw] at c1
    replace hw : ∃ _ : Unit, totF (l.take (i + 1)) = w := ⟨(), hw⟩
    generalize totF (l.take i) = v at *
    clear hs hz
    refine hg ?_
    repeat' first|refine hF ?_ ?_<;>intros|refine hI ?_|(with_reducible refine y04 c1 ?_)<;>refine hgS ?_
    all_goals try (exfalso; omega)
    refine ⟨i + 1, by omega, by omega, ?_⟩
    obtain ⟨_, hw⟩ := hw
    rw [hw]
    exact sS
  · have ei : l.take i = l := List.take_of_length_le (by omega)
    rw [ei]
    generalize totF l = v at *
    clear hs hz ei
    refine hg ?_
    refine hF ?_ ?_<;>intros
    all_goals try (exfalso; omega)
    exact RLe.ofEq rfl
abbrev whA (s : Sht) (r : Int) (cs : List Sc) (a : List Fc) : List AV := [.agg (shtC s), .one (cI r), .one (.sl 8 (cs.map Sc.C)), .one (frsC a)]
theorem wWhole0 (hG : vjd Γ 0 = .elt sgC) (s : Sht) (r : Int) (cs : List Sc) (a : List Fc) (hs : s.Sm) (hl : cs.length ≤ 1048576) (hz : ∀ x ∈ cs, x.sz ≤ 67108864) (ha : a.length ≤ 1048576 ∧ ∀ x ∈ a, x.sz ≤ 1048576) (h : ¬ (fewM s r cs = true ∧ voe a = true)) : CallsD Γ prog 3 (whA s r cs a) (.one (cB true)) := by
  have c0 := xzr hG
  have c1 := yxp (Γ := Γ) s r cs hs hl hz
  have c2 := zr1 (Γ := Γ) a ha.1 (fun x hx => Nat.le_trans (ha.2 x hx) (by decide))
  have hk : fewM s r cs = false ∨ (fewM s r cs = true ∧ voe a = false) := by
    cases h1 : fewM s r cs with
    | false => exact .inl rfl
    | true =>
      cases h2 : voe a with
      | false => exact .inr ⟨rfl, rfl⟩
      | true => exact absurd ⟨h1, h2⟩ h
  clear hG h hs hz ha
  generalize fewM s r cs = q1 at *
  generalize voe a = q2 at *
  rcases hk with rfl | ⟨rfl, rfl⟩
  · clear c2
    refine hE [] func3 f3.eq_1 ?_
    repeat' ((with_reducible first|refine wdy c0 ?_|refine wdy c1 ?_)<;>refine hgS ?_)
    exact RLe.ofEq rfl
  · refine hE [] func3 f3.eq_1 ?_
    repeat' ((with_reducible first|refine wdy c0 ?_|refine wdy c1 ?_|refine wdy c2 ?_)<;>refine hgS ?_)
    exact RLe.ofEq rfl
theorem wWhole1 (hG : vjd Γ 0 = .elt sgC) (s : Sht) (r : Int) (cs : List Sc) (a : List Fc) (hs : s.Sm) (hl : cs.length ≤ 1048576) (hz : ∀ x ∈ cs, x.sz ≤ 67108864) (ha : a.length ≤ 1048576 ∧ ∀ x ∈ a, x.sz ≤ 1048576) (h : fewM s r cs = true) (h2 : voe a = true) (e m : Int) (he : ¬ e = 0) (hf : ww1 s r cs = (noFl, e, m)) (hk : e = 1 ∨ e = (vt5 s r).1 ∨ ((vt5 s r).1 = 0 ∧ (e = 3 ∨ e = 15))) : CallsD Γ prog 3 (whA s r cs a) (.one (cB true)) := by
  have c0 := xzr hG
  have c1 := yxp (Γ := Γ) s r cs hs hl hz
  have c2 := zr1 (Γ := Γ) a ha.1 (fun x hx => Nat.le_trans (ha.2 x hx) (by decide))
  have c3 := yy1 (Γ := Γ) hs h
  have c4 := vwp (Γ := Γ) s r hs
  rw [h] at c1
  rw [h2] at c2
  rw [hf] at c3
  generalize (vt5 s r).1 = g at *
  generalize (vt5 s r).2.1 = g2 at *
  replace hk : ∃ _ : Unit, (e = 1 ∨ e = g ∨ (g = 0 ∧ (e = 3 ∨ e = 15))) := ⟨(), hk⟩
  clear hG h h2 hs hz hf ha
  refine hE [] func3 f3.eq_1 ?_
  repeat' first|refine hF ?_ ?_<;>intros|(with_reducible first|refine wdy c0 ?_|refine wdy c1 ?_|refine wdy c2 ?_|refine wdy c3 ?_|refine wdy c4 ?_)<;>refine hgS ?_
  all_goals first
    | exact RLe.ofEq rfl
    | (exfalso; omega)
    | (exfalso; obtain ⟨_, hk⟩ := hk; omega)
    | (obtain ⟨_, hk⟩ := hk; refine RLe.ofEq ?_; rw [decide_eq_true (by omega)])
theorem wWhole2 (hG : vjd Γ 0 = .elt sgC) (s : Sht) (r : Int) (cs : List Sc) (a : List Fc) (hs : s.Sm) (hl : cs.length ≤ 1048576) (hz : ∀ x ∈ cs, x.sz ≤ 67108864) (ha : a.length ≤ 1048576 ∧ ∀ x ∈ a, x.sz ≤ 1048576) (h : fewM s r cs = true) (h2 : voe a = true) (f : Fl) (hf : ww1 s r cs = (f, 0, 0)) (hk : (vt5 s r).1 = 0) (W : yi5 f) : CallsD Γ prog 3 (whA s r cs a) (.one (cB true)) := by
  obtain ⟨za1, za⟩ := z0z h2
  have c0 := xzr hG
  have c1 := yxp (Γ := Γ) s r cs hs hl hz
  have c2 := zr1 (Γ := Γ) a ha.1 (fun x hx => Nat.le_trans (ha.2 x hx) (by decide))
  have c3 := yy1 (Γ := Γ) hs h
  have c4 := vwp (Γ := Γ) s r hs
  have c5 := zuf (Γ := Γ) f a W.sm ha.1 (fun x hx => Nat.le_trans (za x hx) (by decide))
  rw [h] at c1
  rw [h2] at c2
  rw [hf] at c3
  rw [hk] at c4
  generalize (vt5 s r).2.1 = g2 at *
  have w1 := W.sl
  have w2 := W.ol
  have w3 := W.hl
  have hra : ∀ i, i < a.length → CallsD Γ prog 16 [.agg (fcC (a.getD i Fc.zero))] (.one (cB (decide (a.getD i Fc.zero).ok))) := fun i hi => yg8 _ (Nat.le_trans (za _ (ldM hi)) (by decide))
  have hR : yed f a = true ↔ a.length = f.srcs.length ∧ ∀ x ∈ a, x.ok := ⟨fun h => (w01 h).2, fun h => wbb W.right h.1 h.2⟩
  have hrun : yed f a = true → (runF f a).length = f.outs.length ∧ totF (runF f a) = totF a ∧ CallsD Γ prog 13 [.one (frsC (runF f a))] (.agg (fcC (totF a))) := fun h => by
    obtain ⟨r1, r2⟩ := W.v83 h (fun y hy => Nat.le_trans (za y hy) (by decide))
    refine ⟨r1, W.run h, ?_⟩
    rw [← W.run h]
    exact cTotal _ (by omega) r2
  have c7 := cTotal (Γ := Γ) a (by omega) (fun x hx => Nat.le_trans (za x hx) (by decide))
  have c8 : CallsD Γ prog 12 [.agg (fcC (totF a)), .agg (fcC (totF a))] (.one (cB true)) := xbj _ (by
    have := wte za a.length (Nat.le_refl _)
    rw [List.take_length] at this
    omega)
  generalize totF a = ta at *
  have hcol : ∀ i, i < f.srcs.length → CallsD Γ prog 13 [.one (frsC (colL f i f.shares.length))] (.agg (fcC (Fc.of 1))) := fun i hi => by
    rw [← W.zwg hi]
    exact cTotal _ (by rw [yg7 (Nat.le_refl _)]; omega) (fun x hx => Nat.le_trans (W.xgk hi x hx).2.2 (by decide))
  have hrow := W.row
  obtain ⟨o, ho⟩ : ∃ o, Fc.of 1 = o := ⟨_, rfl⟩
  have c9 := fInt5 (Γ := Γ) 1 (by decide) (z := o) ho.symm
  have c10 : CallsD Γ prog 12 [.agg (fcC o), .agg (fcC o)] (.one (cB true)) := xbj _ (by rw [← ho]; have := wzi; omega)
  rw [ho] at hcol
  clear hG h h2 hs hz hf W ho
  refine hE [] func3 f3.eq_1 ?_
  repeat' ((with_reducible first|refine wdy c0 ?_|refine wdy c1 ?_|refine wdy c2 ?_|refine wdy c3 ?_|refine wdy c4 ?_)<;>refine hgS ?_)
  all_goals try (exfalso; omega)
  clear c0 c1 c2 c3 c4
  refine wf5 [3, 9, 10] (fun i : Nat => [(15, .one (.dat (cI i)))]) (fun _ => [bxSh s, flB f]) (fun i => i ≤ f.srcs.length) (fun i => f.srcs.length - i) 0 (Nat.zero_le _) ?_ ?_
  · refine hg ?_
    exact sS
  intro i hi
  refine hg ?_
  refine y8g (fun hlt _ => ?_) (fun hlt _ => ?_)
  · have hlt' : i < f.srcs.length := by omega
    have q1 := hcol i hlt'
    clear hcol c5 hrun hR hra c7 c8
    refine hg ?_
    refine wf5 [3, 9, 10, 15] (fun m : Nat => [(16, .one (.sl 2 4 0 m)), (17, .one (.dat (cI m)))]) (fun m => [bxSh s, flB f, .arr (.sl 4 ((colL f i m).map Fc.C)) 0 (some 51)]) (fun m => m ≤ f.outs.length) (fun m => f.outs.length - m) 0 (Nat.zero_le _) ?_ ?_
    · refine hg ?_
      refine StH.trans (StH.empty (d := 16) (es := 4) (c := .sl 4 []) (T := some 51) rfl rfl (fun r hr => by cases hr) rfl) ?_
      refine hg ?_
      exact sS
    intro m hm
    have hsl := yg7 (f := f) (i := i) (m := m) (by omega)
    refine hg ?_
    refine y8g (fun hlt2 _ => ?_) (fun hlt2 _ => ?_)
    · have hm' : m < f.shares.length := by omega
      have hss := yfj (f := f) (i := i) hm'
      have hrl := hrow _ (z1y hm')
      clear q1 c9 c10 hrow
      refine hg ?_
      repeat' first|refine hF ?_ ?_<;>intros|refine hI ?_
      all_goals try (exfalso; omega)
      refine ⟨m + 1, by omega, by omega, ?_⟩
      refine StH.back [3, 9, 10, 15, 16, 17] 2 3 3 rfl rfl rfl rfl rfl (by kernel_rfl) ?_
      try simp only
      rw [hss]
      refine hg3 @List.length_append.{0} @List.length_singleton.{0} @hsl ?_
      exact StH.same svl (by simp only [List.map_append, List.map_cons, List.map_nil]; rfl)
    have em : m = f.shares.length := by omega
    subst em
    clear hrow hm hlt2
    generalize colL f i f.shares.length = sm at *
    rw [← hsl]
    have hsb : sm.length ≤ 1048576 := by omega
    clear hsl
    refine hg ?_
    repeat' ((with_reducible first|refine wdy q1 ?_|refine wdy c9 ?_|refine wdy c10 ?_)<;>refine hgS ?_)
    all_goals try (exfalso; omega)
    refine ⟨i + 1, by omega, by omega, ?_⟩
    refine StH.cutN [3, 9, 10, 15] 2 rfl ?_ ?_
    · refine hg ?_
      first | exact trivial | rfl
    exact sS
  clear hcol c9 c10 hrow hi hlt
  refine hg ?_
  have hx : ∃ _ : Unit, (yed f a = true ↔ a.length = f.srcs.length ∧ ∀ x ∈ a, x.ok) := ⟨(), hR⟩
  clear hR
  generalize yed f a = R at *
  by_cases hla : a.length = f.srcs.length
  · have hl1 : (runF f a).length ≤ 1048576 := by
      have := w2
      unfold runF
      cases yed f a with
      | true => rw [cond_true, List.length_map]; omega
      | false => exact Nat.zero_le _
    generalize runF f a = l at *
    (with_reducible refine wdy c5 ?_)<;>refine hgS ?_
    all_goals try (exfalso; omega)
    refine wf5 [3, 9, 10, 18, 19] (fun i : Nat => [(20, .one (.dat (cI i)))]) (fun _ => [bxSh s, flB f]) (fun i => i ≤ a.length ∧ ∀ j, j < i → (a.getD j Fc.zero).ok) (fun i => a.length - i) 0 ⟨Nat.zero_le _, fun j hj => by omega⟩ ?_ ?_
    · refine hg ?_
      exact sS
    rintro i ⟨hi, hj⟩
    replace hj : ∃ _ : Unit, ∀ j, j < i → (a.getD j Fc.zero).ok := ⟨(), hj⟩
    by_cases hlt : i < a.length
    · have q1 := hra i hlt
      clear hra hrun c5 c7 c8
      by_cases hok : (a.getD i Fc.zero).ok
      · rw [decide_eq_true hok] at q1
        replace hok : ∃ _ : Unit, (a.getD i Fc.zero).ok := ⟨(), hok⟩
        refine hg ?_
        repeat' first|refine hF ?_ ?_<;>intros|(with_reducible refine wdy q1 ?_)<;>refine hgS ?_
        all_goals try (exfalso; omega)
        exact ⟨i + 1, ⟨by omega, yas (hj.elim fun _ h => h) (hok.elim fun _ h => h)⟩, by omega, sS⟩
      · rw [decide_eq_false hok] at q1
        have hRf : R = false := by
          obtain ⟨_, hx⟩ := hx
          cases R with
          | false => rfl
          | true => exact absurd ((hx.1 rfl).2 _ (ldM hlt)) hok
        subst hRf
        clear hok hx hj
        refine hg ?_
        repeat' first|refine hF ?_ ?_<;>intros|(with_reducible refine wdy q1 ?_)<;>refine hgS ?_
        all_goals try (exfalso; omega)
        exact RLe.ofEq rfl
    · have hRt : R = true := by
        obtain ⟨_, hx⟩ := hx
        obtain ⟨_, hj⟩ := hj
        exact hx.2 ⟨hla, fun y hy => by
          obtain ⟨j, hjl, rfl⟩ := List.getElem_of_mem hy
          rw [← ldE (d := Fc.zero) hjl]
          exact hj j (by omega)⟩
      subst hRt
      obtain ⟨r1, _, c6⟩ := hrun rfl
      clear hrun hx hj hra c5
      refine hg ?_
      repeat' first|refine hF ?_ ?_<;>intros|(with_reducible first|refine wdy c6 ?_|refine wdy c7 ?_|refine wdy c8 ?_)<;>refine hgS ?_
      all_goals first
        | (exfalso; omega)
        | exact RLe.ofEq rfl
  · have hRf : R = false := by
      obtain ⟨_, hx⟩ := hx
      cases R with
      | false => rfl
      | true => exact absurd (hx.1 rfl).1 hla
    subst hRf
    have hl1 : (runF f a).length ≤ 1048576 := by
      unfold runF
      cases yed f a with
      | true => rw [cond_true, List.length_map]; omega
      | false => exact Nat.zero_le _
    clear hrun hx hra c7 c8
    generalize runF f a = l at *
    repeat' first|refine hF ?_ ?_<;>intros|(with_reducible refine wdy c5 ?_)<;>refine hgS ?_
    all_goals first
      | (exfalso; omega)
      | exact RLe.ofEq rfl
theorem wWhole (hG : vjd Γ 0 = .elt sgC) (s : Sht) (r : Int) (cs : List Sc) (a : List Fc) (hs : s.Sm) (hcs : cs.length ≤ 1048576 ∧ ∀ x ∈ cs, x.sz ≤ 1048576) (ha : a.length ≤ 1048576 ∧ ∀ x ∈ a, x.sz ≤ 1048576) : CallsD Γ prog 3 (whA s r cs a) (.one (cB true)) := by
  have hl := hcs.1
  have hz : ∀ x ∈ cs, x.sz ≤ 67108864 := fun x hx => Nat.le_trans (hcs.2 x hx) (by decide)
  by_cases h : fewM s r cs = true ∧ voe a = true
  · obtain ⟨h1, h2⟩ := h
    have hc := y6a (s := s) (r := r) (cs := cs)
    cases hR : ww1 s r cs with
    | mk f ea =>
      rw [hR] at hc
      cases hc with
      | arg => exact wWhole1 hG s r cs a hs hl hz ha h1 h2 1 0 (by decide) hR (.inl rfl)
      | look h3 h4 => exact wWhole1 hG s r cs a hs hl hz ha h1 h2 _ _ h4 hR (.inr (.inl rfl))
      | err h3 h4 e n h5 => exact wWhole1 hG s r cs a hs hl hz ha h1 h2 e n (by omega) hR (.inr (.inr ⟨h4, h5⟩))
      | ok h3 h4 h5 => exact wWhole2 hG s r cs a hs hl hz ha h1 h2 _ hR h4 (wb8 (ys5 h4) (y71 h3) (v1j h1 h3 (ys5 h4)) h5)
  · exact wWhole0 hG s r cs a hs hl hz ha h
end Go.Hp.T
