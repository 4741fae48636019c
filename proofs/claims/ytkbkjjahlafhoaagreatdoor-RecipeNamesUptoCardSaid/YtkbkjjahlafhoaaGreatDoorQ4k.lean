/- RecipeNames: the walk. -/
import Derived.Test.YtkbkjjahlafhoaaGreatDoorQ17
import Derived.Test.YtkbkjjahlafhoaaGreatDoorQ42
import Derived.Test.YtkbkjjahlafhoaaGreatDoorQ36
/- RecipeNames: the walk. -/
namespace Go.Hp.T
open Go Go.RowKit Go.Slot Go.Hp Go.Slot.T
open Go.Proofs.Tryz
attribute [local irreducible] hide RH
set_option maxRecDepth 10000
set_option maxHeartbeats 8000000
variable {Γ : List (Nat × List Cell)}
theorem noFl_sm : Fl.Sm noFl := ⟨by decide, by decide, by decide, fun r hr => (by cases hr), fun r hr => (by cases hr)⟩
theorem add0_sz (x : Fc) : (Fc.add x (Fc.of 0)).sz ≤ x.sz := by
  by_cases h : x.ok
  · obtain ⟨q, rfl⟩ := Fc.xzx h
    rw [Fc.vmb, Rat.add_zero]
    exact Nat.le_refl _
  · rw [show Fc.add x (Fc.of 0) = Fc.zero from Fc.x0i fun h' => h h'.1]
    exact Nat.zero_le _
theorem flow_sm {s : Sht} {r : Int} {cs : List Sc} (hs : s.Sm) (hf : fewM s r cs = true) : (ww1 s r cs).1.Sm := by
  have hc := y6a (s := s) (r := r) (cs := cs)
  generalize ww1 s r cs = R at *
  cases hc with
  | arg => exact noFl_sm
  | look => exact noFl_sm
  | err => exact noFl_sm
  | ok h3 h4 h5 =>
    obtain ⟨f1, _, _, f4⟩ := v0v hs (ys5 h4) (y71 h3) (v1j hf h3 (ys5 h4))
    have f4 := f4 h5
    have hw := x6p s cs (s.recipes.getD r.toNat default).steps (s.recipes.getD r.toNat default).steps.length
    generalize ytm s cs (s.recipes.getD r.toNat default).steps nilW (s.recipes.getD r.toNat default).steps.length = w at *
    refine ⟨by show w.srcs.length ≤ _; omega, by show w.outs.length ≤ _; omega, by show (w.shares.map _).length ≤ _; rw [List.length_map]; omega, fun q hq => ?_, fun q hq y hy => ?_⟩
    · obtain ⟨l, hl, rfl⟩ := List.mem_map.1 (show q ∈ w.shares.map (wsy w.srcs.length) from hq)
      have := f4 l hl
      unfold wsy
      rw [List.length_map, List.length_append, List.length_replicate]
      omega
    · obtain ⟨l, hl, rfl⟩ := List.mem_map.1 (show q ∈ w.shares.map (wsy w.srcs.length) from hq)
      obtain ⟨x, hx, rfl⟩ := List.mem_map.1 hy
      refine Nat.le_trans (add0_sz x) ?_
      rcases List.mem_append.1 hx with hx | hx
      · exact (f4 l hl).2.2 x hx
      · rw [(List.mem_replicate.1 hx).2]
        exact Nat.le_trans zyp (by decide)
abbrev rnA (s : Sht) (r : Int) (cs : List Sc) (b : Fc) : List AV := [.agg (shtC s), .one (cI r), .one (.sl 8 (cs.map Sc.C)), .agg (fcC b)]
theorem fFew2 (x : Fc) (h : x.sz ≤ 67108864) : CallsD Γ prog 20 [.agg (fcC x), .one (cI 2)] (.one (cB (decide (x.sz ≤ 2)))) := by
  have := y3v (Γ := Γ) x 2 (by have := szL h; omega) (by have := szL h; omega)
  rwa [decide_eq_decide.2 (show (x.sz : Int) ≤ 2 ↔ x.sz ≤ 2 by omega)] at this
/-- the arguments that the statement is about -/
structure NmOk (s : Sht) (r : Int) (cs : List Sc) (b : Fc) : Prop where
  few : fewM s r cs = true
  bz : b.sz ≤ 2
  bok : b.ok
  pos : 0 < Fc.sign b
  r0 : 0 ≤ r
  r1 : r < s.recipes.length
theorem wNames0 (hG : vjd Γ 0 = .elt sgC) (s : Sht) (r : Int) (cs : List Sc) (b : Fc) (hs : s.Sm) (hl : cs.length ≤ 1048576) (hz : ∀ x ∈ cs, x.sz ≤ 67108864) (hb : b.sz ≤ 67108864) (h : ¬ NmOk s r cs b) : CallsD Γ prog 6 (rnA s r cs b) (.one (cB true)) := by
  have c0 := xzr hG
  have c1 := yxp (Γ := Γ) s r cs hs hl hz
  have c2 := fFew2 (Γ := Γ) b hb
  have c3 := yg8 (Γ := Γ) b hb
  have c4 := zct (Γ := Γ) b hb
  have hrl := hs.rl
  by_cases h1 : fewM s r cs = true
  · by_cases h2 : b.sz ≤ 2
    · by_cases h3 : b.ok
      · rw [h1] at c1
        rw [decide_eq_true h2] at c2
        rw [decide_eq_true h3] at c3
        have h' : Fc.sign b ≤ 0 ∨ r < 0 ∨ (s.recipes.length : Int) ≤ r := by
          refine Classical.byContradiction fun hn => h ⟨h1, h2, h3, ?_, ?_, ?_⟩ <;> omega
        generalize Fc.sign b = g at *
        clear hG h h1 h2 h3 hs hz
        rcases h' with h' | h' | h'
        · refine hE [] func6 f6.eq_1 ?_
          repeat' first | refine hF ?_ ?_ <;> intros | refine hI ?_ | (with_reducible first | refine wdy (c0) ?_ | refine y04 (c0) ?_ | refine wdy (c1) ?_ | refine y04 (c1) ?_ | refine wdy (c2) ?_ | refine y04 (c2) ?_ | refine wdy (c3) ?_ | refine y04 (c3) ?_ | refine wdy (c4) ?_ | refine y04 (c4) ?_)<;>refine hgS ?_
          all_goals first | exact RLe.ofEq rfl | (exfalso; omega)
        · refine hE [] func6 f6.eq_1 ?_
          repeat' first | refine hF ?_ ?_ <;> intros | refine hI ?_ | (with_reducible first | refine wdy (c0) ?_ | refine y04 (c0) ?_ | refine wdy (c1) ?_ | refine y04 (c1) ?_ | refine wdy (c2) ?_ | refine y04 (c2) ?_ | refine wdy (c3) ?_ | refine y04 (c3) ?_ | refine wdy (c4) ?_ | refine y04 (c4) ?_)<;>refine hgS ?_
          all_goals first | exact RLe.ofEq rfl | (exfalso; omega)
        · refine hE [] func6 f6.eq_1 ?_
          repeat' first | refine hF ?_ ?_ <;> intros | refine hI ?_ | (with_reducible first | refine wdy (c0) ?_ | refine y04 (c0) ?_ | refine wdy (c1) ?_ | refine y04 (c1) ?_ | refine wdy (c2) ?_ | refine y04 (c2) ?_ | refine wdy (c3) ?_ | refine y04 (c3) ?_ | refine wdy (c4) ?_ | refine y04 (c4) ?_)<;>refine hgS ?_
          all_goals first | exact RLe.ofEq rfl | (exfalso; omega)
      · rw [h1] at c1
        rw [decide_eq_true h2] at c2
        rw [decide_eq_false h3] at c3
        clear hG h h1 h2 h3 hs hz c4
        refine hE [] func6 f6.eq_1 ?_
        repeat' first | refine hF ?_ ?_ <;> intros | refine hI ?_ | (with_reducible first | refine wdy (c0) ?_ | refine y04 (c0) ?_ | refine wdy (c1) ?_ | refine y04 (c1) ?_ | refine wdy (c2) ?_ | refine y04 (c2) ?_ | refine wdy (c3) ?_ | refine y04 (c3) ?_)<;>refine hgS ?_
        all_goals exact RLe.ofEq rfl
    · rw [h1] at c1
      rw [decide_eq_false h2] at c2
      clear hG h h1 h2 hs hz c3 c4
      refine hE [] func6 f6.eq_1 ?_
      repeat' first | refine hF ?_ ?_ <;> intros | refine hI ?_ | (with_reducible first | refine wdy (c0) ?_ | refine y04 (c0) ?_ | refine wdy (c1) ?_ | refine y04 (c1) ?_ | refine wdy (c2) ?_ | refine y04 (c2) ?_)<;>refine hgS ?_
      all_goals exact RLe.ofEq rfl
  · rw [Bool.eq_false_iff.2 h1] at c1
    clear hG h h1 hs hz c2 c3 c4
    refine hE [] func6 f6.eq_1 ?_
    repeat' first | refine hF ?_ ?_ <;> intros | refine hI ?_ | (with_reducible first | refine wdy (c0) ?_ | refine y04 (c0) ?_ | refine wdy (c1) ?_ | refine y04 (c1) ?_)<;>refine hgS ?_
    all_goals exact RLe.ofEq rfl
/-- the rows of the recipes, with the renamed one -/
abbrev rnRows (s : Sht) (n : Nat) : List (List Cell) := (s.recipes.map Rcp.C).set n [cS (s.recipes.getD n default).kind, .sl 6 (((s.recipes.getD n default).steps.map calT).map Stp.C)]
theorem rnRows_eq (s : Sht) (n : Nat) : rnRows s n = (renS s n).recipes.map Rcp.C := by
  show _ = (s.recipes.set n (renX (s.recipes.getD n default))).map Rcp.C
  rw [List.map_set]
  rfl
abbrev rnC (s : Sht) (R : List (List Cell)) : List Cell := [cS s.name, .sl 6 (s.imports.map Imp.C), .sl 3 (s.inputs.map Inp.C), .sl 3 (s.tables.map Tb.C), .sl 7 (s.funcs.map Fnc.C), .sl 7 (s.cells.map Cel.C), .sl 3 (s.ports.map Por.C), .sl 3 (s.stores.map Sto.C), .sl 2 R]
theorem rnC_eq (s : Sht) (n : Nat) : shtC (renS s n) = rnC s (rnRows s n) := by rw [rnRows_eq]; rfl
abbrev bxN (s : Sht) : SB := .box ((shtC s).map .dat) (some 31)
abbrev tB (s : Sht) : SB := .box [.dat (cS s.name), .dat (.sl 6 (s.imports.map Imp.C)), .dat (.sl 3 (s.inputs.map Inp.C)), .dat (.sl 3 (s.tables.map Tb.C)), .dat (.sl 7 (s.funcs.map Fnc.C)), .dat (.sl 7 (s.cells.map Cel.C)), .dat (.sl 3 (s.ports.map Por.C)), .dat (.sl 3 (s.stores.map Sto.C)), .sl 3 2 0 s.recipes.length] (some 31)
theorem stp_dat (l : List Stp) (b : Nat) {n : Nat} (hn : n = l.length) {η : List SB} {T : Option TypeId} (hb : gB η b = .arr (.sl 6 (l.map Stp.C)) 0 T) : xf6 η (.sl b 6 0 n) = some (.sl 6 (l.map Stp.C), [b]) := by
  subst hn
  simp [xf6, hb, Cell.esz, Cell.cnt, subC]
theorem wNames2 (hG : vjd Γ 0 = .elt sgC) (s : Sht) (n : Nat) (cs : List Sc) (b : Fc) (hs : s.Sm) (hl : cs.length ≤ 1048576) (hz : ∀ x ∈ cs, x.sz ≤ 67108864) (h : NmOk s n cs b) : CallsD Γ prog 6 (rnA s n cs b) (.one (cB true)) := by
  obtain ⟨hf, hbz, hbo, hbp, _, hn⟩ := h
  have hn : n < s.recipes.length := by omega
  have c0 := xzr hG
  have c1 := yxp (Γ := Γ) s n cs hs hl hz
  have c2 := fFew2 (Γ := Γ) b (by omega)
  have c3 := yg8 (Γ := Γ) b (by omega)
  have c4 := zct (Γ := Γ) b (by omega)
  have hfs : fewS s = true := by
    have := (show wdi s = true by unfold fewM at hf; simp only [Bool.and_eq_true] at hf; exact hf.1)
    unfold wdi at this
    simp only [Bool.and_eq_true] at this
    exact this.1.1
  have hs' := wih (r := n) hs hfs hn
  have hP : Pos b := ⟨hbo, by
    have h1 : 0 < sg b.val.num := by
      unfold Fc.sign at hbp
      rwa [if_pos hbo] at hbp
    rw [yap] at h1
    rcases Fc.x99 b.val 0 with ⟨_, e⟩ | ⟨_, e⟩ | ⟨h2, _⟩
    · omega
    · omega
    · exact h2⟩
  have c5 := zjd (Γ := Γ) s hs
  have c6 := zjd (Γ := Γ) _ hs'
  have c7 := yy1 (Γ := Γ) hs hf
  have c8 := fun h1 h2 => zdm (Γ := Γ) hs hs' hf hP hbz h1 h2 (by omega) (show (n : Int) < s.recipes.length by omega)
  have c9 := z5s (Γ := Γ) _ (flow_sm hs hf)
  rw [rnC_eq] at c6 c8
  unfold rnRows at c6 c8
  rw [hf] at c1
  rw [decide_eq_true hbz] at c2
  rw [decide_eq_true hbo] at c3
  have hx := hs.r _ (z1y hn)
  have hxl := hx.2.1
  have hcal : ∀ y ∈ (s.recipes.getD n default).steps, (y.inn.length ≤ 1073741824 ∧ y.out.length ≤ 1073741824) ∧ CallsD Γ prog 21 [.one (zjy y.inn)] (.one (zjy (calq y.inn))) ∧ CallsD Γ prog 21 [.one (zjy y.out)] (.one (zjy (calq y.out))) := fun y hy => ⟨⟨(hx.2.2 y hy).il, (hx.2.2 y hy).ol⟩, vk2 _ (hx.2.2 y hy).il (hx.2.2 y hy).i, vk2 _ (hx.2.2 y hy).ol (hx.2.2 y hy).o⟩
  have hmul : ∀ x ∈ cs, (∃ e, CallsD Γ prog 23 [.agg (fcC x.low), .agg (fcC b)] (.tup [.agg (fcC (Fc.mul x.low b)), .one (cI e)])) ∧ ∃ e, CallsD Γ prog 23 [.agg (fcC x.high), .agg (fcC b)] (.tup [.agg (fcC (Fc.mul x.high b)), .one (cI e)]) := fun x hx => ⟨fMul _ _ (Sc.yjv (hz x hx)).1 (by omega), fMul _ _ (Sc.yjv (hz x hx)).2 (by omega)⟩
  have hrl := hs.rl
  generalize ww1 s n cs = R at *
  obtain ⟨f, e, m⟩ := R
  generalize vtb s = q at *
  generalize vtb (renS s n) = q' at *
  clear hG hs hs' hz hf hfs hP hx hbz hbo
  refine hE [(23, [.join])] func6 f6.eq_1 ?_
  repeat' first | refine hF ?_ ?_ <;> intros | refine hI ?_ | (with_reducible first | refine wdy (c0) ?_ | refine y04 (c0) ?_ | refine wdy (c1) ?_ | refine y04 (c1) ?_ | refine wdy (c2) ?_ | refine y04 (c2) ?_ | refine wdy (c3) ?_ | refine y04 (c3) ?_ | refine wdy (c4) ?_ | refine y04 (c4) ?_)<;>refine hgS ?_
  all_goals try (exfalso; omega)
  clear c0 c1 c2 c3 c4
  refine wy2 ?_
  refine hg ?_
  refine wf5 [1, 2, 4, 7, 9, 10] (fun p : Nat × List Stp => [(11, .one (.sl 4 6 0 p.2.length)), (12, .one (.dat (cI p.1)))]) (fun p => [bxN s, .box ((fcC b).map .dat) (some 51), tB s, .arr (.sl 2 (s.recipes.map Rcp.C)) 0 (some 67), .arr (.sl 6 (p.2.map Stp.C)) 0 (some 70)])
    (fun p => p.1 ≤ (s.recipes.getD n default).steps.length ∧ p.2 = ((s.recipes.getD n default).steps.take p.1).map calT) (fun p => (s.recipes.getD n default).steps.length - p.1) (0, []) ⟨Nat.zero_le _, by simp⟩ ?_ ?_
  · refine hg ?_
    refine StH.trans (StH.empty (d := 11) (es := 6) (c := .sl 6 []) (T := some 70) rfl rfl (fun r hr => by cases hr) rfl) ?_
    refine hg ?_
    exact sS
  rintro ⟨i, acc⟩ ⟨hi, ha⟩
  dsimp only at hi ha
  have hal : acc.length ≤ 1073741824 := by rw [ha]; simp; omega
  refine hg ?_
  refine y8g (fun hlt _ => ?_) (fun hlt _ => ?_)
  · have hlt' : i < (s.recipes.getD n default).steps.length := by omega
    obtain ⟨⟨yi, yo⟩, k1, k2⟩ := hcal _ (z1y hlt')
    have ha' : acc ++ [calT ((s.recipes.getD n default).steps.getD i default)] = ((s.recipes.getD n default).steps.take (i + 1)).map calT := by
      rw [ha, vys hlt', List.map_append]
      rfl
    clear c5 c6 c7 c8 c9 hcal hmul ha
    refine hg ?_
    repeat' first | refine hF ?_ ?_ <;> intros | refine hI ?_
    refine wf5 [1, 2, 4, 7, 9, 10, 11, 12, 13] (fun m : Nat => [(14, .one (.dat (cI m)))]) (fun _ => [bxN s, .box ((fcC b).map .dat) (some 51), tB s, .arr (.sl 2 (s.recipes.map Rcp.C)) 0 (some 67), .arr (.sl 6 (acc.map Stp.C)) 0 (some 70), .box ((stpC ((s.recipes.getD n default).steps.getD i default)).map .dat) (some 70)])
      (fun m => m ≤ ((s.recipes.getD n default).steps.getD i default).inn.length + ((s.recipes.getD n default).steps.getD i default).out.length) (fun m => ((s.recipes.getD n default).steps.getD i default).inn.length + ((s.recipes.getD n default).steps.getD i default).out.length - m) 0 (Nat.zero_le _) ?_ ?_
    · refine hg ?_
      exact sS
    intro m hm
    refine hg ?_
    refine y8g (fun hlm _ => ?_) (fun hlm _ => ?_)
    · refine hg ?_
      repeat' first | refine hF ?_ ?_ <;> intros | refine hI ?_
      all_goals first
        | (exfalso; omega)
        | exact RLe.ofEq rfl
        | exact ⟨m + 1, by omega, by omega, sS⟩
    clear hlm hm
    refine hg ?_
    repeat' first | refine hF ?_ ?_ <;> intros | refine hI ?_ | (with_reducible first | refine wdy (k1) ?_ | refine y04 (k1) ?_ | refine wdy (k2) ?_ | refine y04 (k2) ?_)<;>refine hgS ?_
    refine ⟨(i + 1, acc ++ [calT ((s.recipes.getD n default).steps.getD i default)]), ⟨by dsimp only; omega, ha'⟩, by dsimp only; omega, ?_⟩
    refine StH.back [1, 2, 4, 7, 9, 10, 11, 12] 4 6 5 rfl rfl rfl rfl rfl (by kernel_rfl) ?_
    simp only [List.map_append, List.map_cons, List.map_nil]
    refine hg2 @List.length_append.{0} @List.length_singleton.{0} ?_
    exact sS
  rw [List.take_of_length_le (show (s.recipes.getD n default).steps.length ≤ i by omega)] at ha
  subst ha
  clear hcal hlt hi
  refine hg ?_
  refine hfrz (G := []) 11 rfl (stp_dat ((s.recipes.getD n default).steps.map calT) 4 (List.length_map _).symm rfl) rfl rfl ?_
  cases q with
  | false =>
    clear c6 c7 c8 c9 hmul
    refine hg ?_
    repeat' first | refine hF ?_ ?_ <;> intros | refine hI ?_ | (with_reducible first | refine wdy (c5) ?_ | refine y04 (c5) ?_)<;>refine hgS ?_
    all_goals exact RLe.ofEq rfl
  | true =>
    cases q' with
    | false =>
      clear c7 c8 c9 hmul
      refine hg ?_
      repeat' first | refine hF ?_ ?_ <;> intros | refine hI ?_ | (with_reducible first | refine wdy (c5) ?_ | refine y04 (c5) ?_ | refine wdy (c6) ?_ | refine y04 (c6) ?_)<;>refine hgS ?_
      all_goals exact RLe.ofEq rfl
    | true =>
      have c8 := c8 rfl rfl
      refine hg ?_
      repeat' first | refine hF ?_ ?_ <;> intros | refine hI ?_ | (with_reducible first | refine wdy (c5) ?_ | refine y04 (c5) ?_ | refine wdy (c6) ?_ | refine y04 (c6) ?_)<;>refine hgS ?_
      clear c5 c6
      have hRl : ((s.recipes.map Rcp.C).set n [cS (s.recipes.getD n default).kind, .sl 6 (((s.recipes.getD n default).steps.map calT).map Stp.C)]).length = s.recipes.length := by simp
      generalize (s.recipes.map Rcp.C).set n [cS (s.recipes.getD n default).kind, .sl 6 (((s.recipes.getD n default).steps.map calT).map Stp.C)] = Rw at *
      refine wf5 [1, 2, 4, 7, 9, 10] (fun p : Nat × List Sc => [(16, .one (.sl 5 8 0 p.2.length)), (17, .one (.dat (cI p.1)))]) (fun p => [bxN s, .box ((fcC b).map .dat) (some 51), tB s, .arr (.sl 2 Rw) (s.recipes.length * 2) (some 67), .arr (.sl 6 (((s.recipes.getD n default).steps.map calT).map Stp.C)) ((s.recipes.getD n default).steps.length * 6) (some 70), .arr (.sl 8 (p.2.map Sc.C)) 0 (some 80)])
        (fun p => p.1 ≤ cs.length ∧ p.2 = (cs.take p.1).map (mulV b)) (fun p => cs.length - p.1) (0, []) ⟨Nat.zero_le _, by simp⟩ ?_ ?_
      · refine hg ?_
        refine StH.trans (StH.empty (d := 16) (es := 8) (c := .sl 8 []) (T := some 80) rfl rfl (fun r hr => by cases hr) rfl) ?_
        refine hg ?_
        exact sS
      rintro ⟨i, acc⟩ ⟨hi, ha⟩
      dsimp only at hi ha
      have hal : acc.length ≤ 1073741824 := by rw [ha]; simp; omega
      refine hg ?_
      refine y8g (fun hlt _ => ?_) (fun hlt _ => ?_)
      · have hlt' : i < cs.length := by omega
        obtain ⟨⟨e1, m1⟩, e2, m2⟩ := hmul _ (ldM (d := Sc.zero) hlt')
        have ha' : acc ++ [mulV b (cs.getD i Sc.zero)] = (cs.take (i + 1)).map (mulV b) := by
          rw [ha, ymy Sc.zero hlt', List.map_append]
          rfl
        clear c7 c8 c9 hmul ha
        refine hg ?_
        repeat' first | refine hF ?_ ?_ <;> intros | refine hI ?_ | (with_reducible first | refine wdy (m1) ?_ | refine y04 (m1) ?_ | refine wdy (m2) ?_ | refine y04 (m2) ?_)<;>refine hgS ?_
        refine ⟨(i + 1, acc ++ [mulV b (cs.getD i Sc.zero)]), ⟨by dsimp only; omega, ha'⟩, by dsimp only; omega, ?_⟩
        refine StH.back [1, 2, 4, 7, 9, 10, 16, 17] 5 8 6 rfl rfl rfl rfl rfl (by kernel_rfl) ?_
        simp only [List.map_append, List.map_cons, List.map_nil]
        refine hg2 @List.length_append.{0} @List.length_singleton.{0} ?_
        exact sS
      rw [List.take_of_length_le (show cs.length ≤ i by omega)] at ha
      subst ha
      clear hmul hlt hi
      refine hg ?_
      repeat' first | refine hF ?_ ?_ <;> intros | refine hI ?_ | (with_reducible first | refine wdy (c7) ?_ | refine y04 (c7) ?_ | refine wdy (c8) ?_ | refine y04 (c8) ?_ | refine wdy (c9) ?_ | refine y04 (c9) ?_)<;>refine hgS ?_
      all_goals exact RLe.ofEq rfl
theorem wNames (hG : vjd Γ 0 = .elt sgC) (s : Sht) (r : Int) (cs : List Sc) (b : Fc) (hs : s.Sm) (hcs : cs.length ≤ 1048576 ∧ ∀ x ∈ cs, x.sz ≤ 1048576) (hb : b.sz ≤ 1048576) : CallsD Γ prog 6 (rnA s r cs b) (.one (cB true)) := by
  have hz : ∀ x ∈ cs, x.sz ≤ 67108864 := fun x hx => Nat.le_trans (hcs.2 x hx) (by decide)
  by_cases h : NmOk s r cs b
  · obtain ⟨n, rfl⟩ := Int.eq_ofNat_of_zero_le h.r0
    exact wNames2 hG s n cs b hs hcs.1 hz h
  · exact wNames0 hG s r cs b hs hcs.1 hz (Nat.le_trans hb (by decide)) h
end Go.Hp.T
