/- Law 19: AffineAdds: the walk. -/
import Derived.Test.YtpkininnjhbeaaaGreatDoorZ35
/- Law 19: AffineAdds: the walk. -/
namespace Go.Hp.T
open Go Go.RowKit Go.Slot Go.Hp Go.Slot.T
open Go.Proofs.Tryz (prog)
set_option maxRecDepth 100000
set_option maxHeartbeats 8000000
variable {b a:Af} {m k:Nat}
attribute [local irreducible] hide
theorem er_val {p : Prop} [Decidable p] {b : Bool} (h : decide p = b) : Fc.er p = bif b then 0 else 1 := by
  subst h
  by_cases h : p
  · rw [Fc.wop h, decide_eq_true h]; rfl
  · rw [Fc.w7p h, decide_eq_false h]; rfl
theorem er_iff {p q : Prop} [Decidable p] [Decidable q] (h : p ↔ q) : Fc.er p = Fc.er q := by
  rw [er_val (p := p) rfl, er_val (p := q) rfl, decide_eq_decide.2 h]
theorem leM {n:Nat} (h : a.le m) (hn : m ≤ n) : a.le n := ⟨Nat.le_trans h.1 hn, fun f hf => Nat.le_trans (h.2 f hf) hn⟩
theorem each_le {op : Fc → Fc → Fc} {n:Nat} (h : ∀ x y : Fc, x.sz ≤ m → y.sz ≤ n → (op x y).sz ≤ k) (ha : a.le m) (hb : b.le n) : (Af.each op a b).le k :=
  ⟨h _ _ ha.1 hb.1, fun f hf => by
    obtain ⟨x, hx, y, hy, rfl⟩ := ycf (show f ∈ List.zipWith op a.l b.l from hf)
    exact h _ _ (ha.2 x hx) (hb.2 y hy)⟩
theorem plus_le {n:Nat} (ha : a.le n) (hb : b.le n) (hl : a.l.length ≤ k) : (Af.plus a b).le (n + n + 1) ∧ (Af.plus a b).l.length ≤ k := by
  unfold Af.plus
  split
  · exact ⟨each_le (fun x y hx hy => Nat.le_trans (Fc.wiv x y) (by omega)) ha hb, by show (List.zipWith Fc.add a.l b.l).length ≤ k; rw [List.length_zipWith]; omega⟩
  · exact ⟨⟨by show Fc.zero.sz ≤ _; exact Nat.le_trans (by decide : Fc.zero.sz ≤ 0) (Nat.zero_le _), fun f hf => by cases hf⟩, Nat.zero_le _⟩
theorem times_le {f : Fc} {n:Nat} (ha : a.le n) (hf : f.sz ≤ n) (hl : a.l.length ≤ k) : (Af.times a f).le (n + n + 1) ∧ (Af.times a f).l.length ≤ k := by
  unfold Af.times
  split
  · exact ⟨each_le (fun x y hx _ => Nat.le_trans (Fc.z5x x f) (by omega)) ha ha, by show (List.zipWith _ a.l a.l).length ≤ k; rw [List.length_zipWith]; omega⟩
  · exact ⟨⟨by show Fc.zero.sz ≤ _; exact Nat.le_trans (by decide : Fc.zero.sz ≤ 0) (Nat.zero_le _), fun f hf => by cases hf⟩, Nat.zero_le _⟩
theorem at_sz {v : List Fc} {B : Nat} (ha : a.le B) (hv : ∀ f ∈ v, f.sz ≤ B) : (a.at' v).sz ≤ B + 2 + a.l.length * (2 * B + 1) := by
  unfold Af.at'
  split
  · have h1 := vjl a.l v (Af.copy a.c) ha.2 hv
    have h2 := w9x a.c
    have h3 := ha.1
    omega
  · exact Nat.le_trans (by decide : Fc.zero.sz ≤ 0) (Nat.zero_le _)
theorem wAddsRun (a b P T : Af) (l : List Fc) (f X Y Z W S M : Fc) (E1 E2 e3 e4 : Int) (b1 b2 b3 b4 o1 o2 o3 o4 q1 q2 : Bool) (_ha : a.l.length ≤ 1048576) (_hl : l.length ≤ 1048576) (f1 : CallsD Gs prog 16 [.agg a.C] (.one (cB true))) (f2 : CallsD Gs prog 16 [.agg b.C] (.one (cB true))) (f3 : CallsD Gs prog 17 [.one (.sl 4 (l.map Fc.C))] (.one (cB true))) (f4 : CallsD Gs prog 17 [.one (.sl 4 [f.C])] (.one (cB true))) (p1 : CallsD Gs prog 14 [.agg a.C, .agg b.C] (.tup [.agg P.C, .one (cI E1)])) (p2 : CallsD Gs prog 14 [.agg b.C, .agg a.C] (.tup [.agg P.C, .one (cI E1)])) (t1 : CallsD Gs prog 13 [.agg a.C, .agg f.C] (.tup [.agg T.C, .one (cI E2)])) (r1 : CallsD Gs prog 18 [.agg a.C, .one (.raw (.int .i64 a.l.length))] (.one (.raw (.bool b1)))) (r2 : CallsD Gs prog 18 [.agg b.C, .one (.raw (.int .i64 a.l.length))] (.one (.raw (.bool b2)))) (r3 : CallsD Gs prog 18 [.agg a.C, .one (.raw (.int .i64 l.length))] (.one (.raw (.bool b4)))) (rf : CallsD Gs prog 19 [.agg f.C] (.one (.raw (.bool b3)))) (sm : CallsD Gs prog 15 [.agg P.C, .agg P.C] (.one (cB true))) (a1 : CallsD Gs prog 20 [.agg a.C, .one (.sl 4 (l.map Fc.C))] (.tup [.agg X.C, .one (.raw (.bool o1))])) (a2 : CallsD Gs prog 20 [.agg b.C, .one (.sl 4 (l.map Fc.C))] (.tup [.agg Y.C, .one (.raw (.bool o2))])) (a3 : CallsD Gs prog 20 [.agg P.C, .one (.sl 4 (l.map Fc.C))] (.tup [.agg Z.C, .one (.raw (.bool o3))])) (a4 : CallsD Gs prog 20 [.agg T.C, .one (.sl 4 (l.map Fc.C))] (.tup [.agg W.C, .one (.raw (.bool o4))])) (ad : CallsD Gs prog 21 [.agg X.C, .agg Y.C] (.tup [.agg S.C, .one (.raw (.int .i64 e3))])) (mu : CallsD Gs prog 23 [.agg X.C, .agg f.C] (.tup [.agg M.C, .one (.raw (.int .i64 e4))])) (s1 : CallsD Gs prog 22 [.agg Z.C, .agg S.C] (.one (.raw (.bool q1)))) (s2 : CallsD Gs prog 22 [.agg W.C, .agg M.C] (.one (.raw (.bool q2))))
    (e1 : E1 = bif b1 && b2 then 0 else 1) (e2 : E2 = bif b1 && b3 then 0 else 1)
    (hc : (o1 = false ∧ b1 = false) ∨ (o1 = false ∧ b1 = true) ∨ (o1 = true ∧ b1 = true ∧ b4 = true ∧ b3 = true ∧ o4 = true ∧ q2 = true ∧ o2 = false) ∨ (o1 = true ∧ b1 = true ∧ b4 = true ∧ b3 = true ∧ o4 = true ∧ q2 = true ∧ o2 = true ∧ b2 = true ∧ o3 = true ∧ q1 = true) ∨
        (o1 = true ∧ b1 = true ∧ b4 = true ∧ b3 = false ∧ o2 = false) ∨ (o1 = true ∧ b1 = true ∧ b4 = true ∧ b3 = false ∧ o2 = true ∧ b2 = true ∧ o3 = true ∧ q1 = true)) :
    CallsD Gs prog 4 [.agg a.C, .agg b.C, .one (.sl 4 (l.map Fc.C)), .agg f.C] (.one (cB true)) := by
  have s0 := xg8
  simp only [Af.C_eq, Fc.C_eq] at f1 f2 f4 p1 p2 t1 r1 r2 r3 rf sm a1 a2 a3 a4 ad mu s1 s2
  rcases hc with ⟨rfl, rfl⟩ | ⟨rfl, rfl⟩ | ⟨rfl, rfl, rfl, rfl, rfl, rfl, rfl⟩ | ⟨rfl, rfl, rfl, rfl, rfl, rfl, rfl, rfl, rfl, rfl⟩ | ⟨rfl, rfl, rfl, rfl, rfl⟩ | ⟨rfl, rfl, rfl, rfl, rfl, rfl, rfl, rfl⟩
  rotate_left
  cases b2 <;> cases b3
  rotate_left 4
  cases b2
  rotate_left 3
  cases b2
  rotate_left 3
  all_goals
    simp only [Bool.and_true, Bool.and_false, Bool.false_and, cond_true, cond_false] at e1 e2
    subst e1 e2
    refine CallsD.run [] Go.Proofs.Tryz.func4 rfl rfl rfl ?_; simp only [Go.Proofs.Tryz.f4]; refine hgR ?_
    repeat' ((first | refine hfk ?_ ?_ <;> intros | refine hik ?_ | with_reducible first | refine wml (s0) ?_ | refine ysj (s0) ?_ | refine wml (f1) ?_ | refine ysj (f1) ?_ | refine wml (f2) ?_ | refine ysj (f2) ?_ | refine wml (f3) ?_ | refine ysj (f3) ?_ | refine wml (f4) ?_ | refine ysj (f4) ?_ | refine wml (p1) ?_ | refine ysj (p1) ?_ | refine wml (p2) ?_ | refine ysj (p2) ?_ | refine wml (t1) ?_ | refine ysj (t1) ?_ | refine wml (r1) ?_ | refine ysj (r1) ?_ | refine wml (r2) ?_ | refine ysj (r2) ?_ | refine wml (r3) ?_ | refine ysj (r3) ?_ | refine wml (rf) ?_ | refine ysj (rf) ?_ | refine wml (sm) ?_ | refine ysj (sm) ?_ | refine wml (a1) ?_ | refine ysj (a1) ?_ | refine wml (a2) ?_ | refine ysj (a2) ?_ | refine wml (a3) ?_ | refine ysj (a3) ?_ | refine wml (a4) ?_ | refine ysj (a4) ?_ | refine wml (ad) ?_ | refine ysj (ad) ?_ | refine wml (mu) ?_ | refine ysj (mu) ?_ | refine wml (s1) ?_ | refine ysj (s1) ?_ | refine wml (s2) ?_ | refine ysj (s2) ?_) <;> refine hgS ?_)
    all_goals refine lfE ?_; first | exact trivial | rfl
theorem wAffAdds (a b : Af) (l : List Fc) (f : Fc) (sa : AfS a) (sb : AfS b) (sl : l.length ≤ 1048576 ∧ ∀ x ∈ l, x.sz ≤ 1048576) (sf : f.sz ≤ 1048576) :
    CallsD Gs prog 4 [.agg a.C, .agg b.C, .one (.sl 4 (l.map Fc.C)), .agg f.C] (.one (cB true)) := by
  have f1 := w5v (Γ := Gs) a sa.1 sa.2
  have f2 := w5v (Γ := Gs) b sb.1 sb.2
  have f3 := v6h l sl.1 sl.2
  have f4 := v6h [f] (by show 1 ≤ 1048576; decide) (fun x hx => by cases List.mem_singleton.1 hx; exact sf)
  by_cases hf : fewA a ∧ fewA b ∧ fewL l = true ∧ fewL [f] = true
  · obtain ⟨h1, h2, h3, h4⟩ := hf
    rw [decide_eq_true h1] at f1
    rw [decide_eq_true h2] at f2
    rw [h3] at f3
    rw [h4] at f4
    obtain ⟨n1, n2⟩ := zvu h3
    have n4 : f.sz ≤ 4 := (zvu h4).2 f (by simp)
    obtain ⟨la, za⟩ := h1
    obtain ⟨lb, zb⟩ := h2
    obtain ⟨zp, lp⟩ := plus_le za zb la
    obtain ⟨zt, lt⟩ := times_le za n4 la
    have p1 := wjc (Γ := Gs) a b (by omega) (by omega) (leM (m := 4) za (by decide)) (leM (m := 4) zb (by decide))
    have p2 := wjc (Γ := Gs) b a (by omega) (by omega) (leM (m := 4) zb (by decide)) (leM (m := 4) za (by decide))
    rw [← wlh a b, er_iff zda.symm] at p2
    have t1 := zy8 (Γ := Gs) a f (by omega) (leM (m := 4) za (by decide)) (by omega)
    have r1 := v1n (Γ := Gs) a a.l.length (by omega) (leM (m := 4) za (by decide))
    have r2 := v1n (Γ := Gs) b a.l.length (by omega) (leM (m := 4) zb (by decide))
    have r3 := v1n (Γ := Gs) a l.length (by omega) (leM (m := 4) za (by decide))
    have rf := yg0 (Γ := Gs) f (by omega)
    have sm := z4n (Γ := Gs) (Af.plus a b) (Af.plus a b) (by omega) (by omega) (leM (m := 9) zp (by decide)) (leM (m := 9) zp (by decide))
    rw [decide_eq_true rfl] at sm
    have hb : ∀ B : Nat, B ≤ 9 → B + 2 + l.length * (2 * B + 1) ≤ 67108864 := fun B hB => by
      have := Nat.mul_le_mul n1 (show 2 * B + 1 ≤ 19 by omega)
      omega
    have n3 : ∀ f ∈ l, f.sz ≤ 9 := fun f hf => Nat.le_trans (n2 f hf) (by decide)
    have a1 := cAt (Γ := Gs) a l (by omega) (by omega) (leM (m := 4) za (by decide : 4 ≤ 9)) n3 (hb 9 (by decide))
    have a2 := cAt (Γ := Gs) b l (by omega) (by omega) (leM (m := 4) zb (by decide : 4 ≤ 9)) n3 (hb 9 (by decide))
    have a3 := cAt (Γ := Gs) (Af.plus a b) l (by omega) (by omega) zp n3 (hb 9 (by decide))
    have a4 := cAt (Γ := Gs) (Af.times a f) l (by omega) (by omega) zt n3 (hb 9 (by decide))
    have hz : ∀ c : Af, c.le 9 → c.l.length ≤ 6 → (c.at' l).sz ≤ 125 := fun c hc hl => by
      have := at_sz hc n3
      omega
    have zx := hz a (leM (m := 4) za (by decide)) la
    have zy := hz b (leM (m := 4) zb (by decide)) lb
    have zz := hz _ zp lp
    have zw := hz _ zt lt
    have ad := wza (Γ := Gs) (a.at' l) (b.at' l) (by omega) (by omega)
    have mu := zu5 (Γ := Gs) (a.at' l) f (by omega) (by omega)
    have zs := Fc.wiv (a.at' l) (b.at' l)
    have zm := Fc.z5x (a.at' l) f
    have s1 := xb9 (Γ := Gs) ((Af.plus a b).at' l) (Fc.add (a.at' l) (b.at' l)) (by omega) (by omega)
    have s2 := xb9 (Γ := Gs) ((Af.times a f).at' l) (Fc.mul (a.at' l) f) (by omega) (by omega)
    have g1 : decide (a.ok l.length ∧ oks l) = true → decide (b.ok l.length ∧ oks l) = true → decide (a.ok a.l.length) = true ∧ decide (b.ok a.l.length) = true ∧ decide ((Af.plus a b).ok l.length ∧ oks l) = true ∧ decide ((Af.plus a b).at' l = Fc.add (a.at' l) (b.at' l)) = true := fun h k => by
      simp only [decide_eq_true_eq] at h k ⊢
      have e := wfe h.1
      obtain ⟨p, q⟩ := wav h.1 k.1 h.2
      exact ⟨by rw [e]; exact h.1, by rw [e]; exact k.1, ⟨p, h.2⟩, q⟩
    have g2 : decide (a.ok l.length ∧ oks l) = true → decide f.ok = true → decide ((Af.times a f).ok l.length ∧ oks l) = true ∧ decide ((Af.times a f).at' l = Fc.mul (a.at' l) f) = true := fun h k => by
      simp only [decide_eq_true_eq] at h k ⊢
      obtain ⟨p, q⟩ := xx4 h.1 k h.2
      exact ⟨⟨p, h.2⟩, q⟩
    have g3 : decide (a.ok l.length ∧ oks l) = true → decide (a.ok l.length) = true := fun h => by
      simp only [decide_eq_true_eq] at h ⊢
      exact h.1
    have g4 : decide (a.ok l.length ∧ oks l) = true → decide (a.ok a.l.length) = true := fun h => by
      simp only [decide_eq_true_eq] at h ⊢
      rw [wfe h.1]; exact h.1
    have e1 := er_val (p := a.ok a.l.length ∧ b.ok a.l.length) (Bool.decide_and _ _)
    have e2 := er_val (p := a.ok a.l.length ∧ f.ok) (Bool.decide_and _ _)
    refine wAddsRun a b (Af.plus a b) (Af.times a f) l f (a.at' l) (b.at' l) ((Af.plus a b).at' l) ((Af.times a f).at' l) (Fc.add (a.at' l) (b.at' l)) (Fc.mul (a.at' l) f) _ _ _ _ (decide (a.ok a.l.length)) (decide (b.ok a.l.length)) (decide f.ok) (decide (a.ok l.length)) (decide (a.ok l.length ∧ oks l)) (decide (b.ok l.length ∧ oks l)) (decide ((Af.plus a b).ok l.length ∧ oks l)) (decide ((Af.times a f).ok l.length ∧ oks l)) _ _ (by omega) (by omega) f1 f2 f3 f4 p1 p2 t1 r1 r2 r3 rf sm a1 a2 a3 a4 ad mu s1 s2 e1 e2 ?_
    revert g1 g2 g3 g4
    clear f1 f2 f3 f4 p1 p2 t1 r1 r2 r3 rf sm a1 a2 a3 a4 ad mu s1 s2 e1 e2
    generalize decide (a.ok a.l.length) = b1
    generalize decide (b.ok a.l.length) = b2
    generalize decide f.ok = b3
    generalize decide (a.ok l.length ∧ oks l) = o1
    generalize decide (b.ok l.length ∧ oks l) = o2
    generalize decide ((Af.plus a b).ok l.length ∧ oks l) = o3
    generalize decide ((Af.times a f).ok l.length ∧ oks l) = o4
    generalize decide (a.ok l.length) = b4
    generalize decide ((Af.plus a b).at' l = Fc.add (a.at' l) (b.at' l)) = q1
    generalize decide ((Af.times a f).at' l = Fc.mul (a.at' l) f) = q2
    intro g1 g2 g3 g4
    cases o1 with
    | false => cases b1 <;> simp
    | true =>
      have k1 := g3 rfl
      have k2 := g4 rfl
      cases b3 with
      | true => cases o2 with
        | true => have k3 := g1 rfl rfl; have k4 := g2 rfl rfl; simp [k1, k2, k3, k4]
        | false => have k4 := g2 rfl rfl; simp [k1, k2, k4]
      | false => cases o2 with
        | true => have k3 := g1 rfl rfl; simp [k1, k2, k3]
        | false => simp [k1, k2]
  · generalize hb1 : decide (fewA a) = b1 at f1
    generalize hb2 : decide (fewA b) = b2 at f2
    generalize hb3 : fewL l = b3 at f3 hf
    generalize hb4 : fewL [f] = b4 at f4 hf
    have hf' : ¬ (b1 = true ∧ b2 = true ∧ b3 = true ∧ b4 = true) := fun h => hf ⟨of_decide_eq_true (hb1.trans h.1), of_decide_eq_true (hb2.trans h.2.1), h.2.2.1, h.2.2.2⟩
    clear hf hb1 hb2 hb3 hb4
    simp only [Af.C_eq, Fc.C_eq, List.map_cons, List.map_nil] at f1 f2 f4
    refine CallsD.run [] Go.Proofs.Tryz.func4 rfl rfl rfl ?_; simp only [Go.Proofs.Tryz.f4]; refine hgR ?_
    repeat' ((first | refine hfk ?_ ?_ <;> intros | refine hik ?_ | with_reducible first | refine wml (xg8) ?_ | refine ysj (xg8) ?_ | refine wml (f1) ?_ | refine ysj (f1) ?_ | refine wml (f2) ?_ | refine ysj (f2) ?_ | refine wml (f3) ?_ | refine ysj (f3) ?_ | refine wml (f4) ?_ | refine ysj (f4) ?_) <;> refine hgS ?_)
    all_goals first
      | (exfalso; simp_all; done)
      | refine lfE ?_; first | exact trivial | rfl
end Go.Hp.T
