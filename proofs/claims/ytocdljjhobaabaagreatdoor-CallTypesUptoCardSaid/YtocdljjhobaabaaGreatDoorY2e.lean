/- Law 18: the walk of CallTypes. -/
import Derived.Test.YtocdljjhobaabaaGreatDoorY32
/- Law 18: the walk of CallTypes. -/
namespace Go.Hp.T
open Go Go.RowKit Go.Slot Go.Hp Go.Slot.T
open Go.Proofs.Tryz (prog)
attribute [local irreducible] hide RH
set_option maxRecDepth 10000
set_option maxHeartbeats 8000000
variable {Γ : List (Nat × List Cell)}
abbrev fnB (f : Fnc) : SB := .box ((fncC f).map .dat) (some 38)
theorem flTy : (vqw prog 9 54 = some 7) = True := eq_true (by kernel_rfl)
theorem agTy : aggT prog 54 = true := by kernel_rfl
theorem egTy : prog.eqGuardType prog.depth 54 = false := by kernel_rfl
theorem fitTy (t : Bool) (a b c d e f : Int) : fitT prog 9 54 [.bool t, .int .i64 a, .int .i64 b, .int .i64 c, .int .i64 d, .int .i64 e, .int .i64 f] = true := by kernel_rfl
attribute [go_sem] flTy agTy egTy fitTy
theorem callX_sm {s : ByteArray} {l : List Ex} (hs : s.size ≤ 1073741824) (hl : l.length ≤ 1073741824) (h : ∀ y ∈ l, y.Sm) : (ydb s l).Sm :=
  .mk (ydb s l) hl (show (ByteArray.mk #[]).size ≤ 1073741824 by decide) hs h
/-- what the loop over the Args has seen -/
def seen18 (xs : List Ex) (vs ps : List Vr) (ms : List Tb) (n : Nat) : Prop := ∀ i, i < n → 0 ≤ (xs.getD i default).rsz 30 10 ∧ ofF (xs.getD i default) vs ms = (⟨false, (ps.getD i default).d⟩, 0)
theorem seen18_next {xs : List Ex} {vs ps : List Vr} {ms : List Tb} {n : Nat} (h : seen18 xs vs ps ms n) (h1 : 0 ≤ (xs.getD n default).rsz 30 10) (h2 : ofF (xs.getD n default) vs ms = (⟨false, (ps.getD n default).d⟩, 0)) : seen18 xs vs ps ms (n + 1) := fun i hi => by
  by_cases e : i = n
  · subst e; exact ⟨h1, h2⟩
  · exact h i (by omega)
/-- all calls as facts; what the plain law says is `hlaw` -/
theorem wTypesRun {F : List Fnc} {w : Int} {j : Nat} {xs : List Ex} {vs ps : List Vr} {ms : List Tb} {f : Fnc} {y z : Ex} {ye ze he m : Int} {t1 t2 : Ty}
    (s1 : CallsD Γ prog 7 [] (.one (cB true))) (f1 : CallsD Γ prog 16 [.one (.sl 7 (F.map Fnc.C)), .one (cI 8)] (.one (cB true))) (c1 : CallsD Γ prog 14 [.one (.sl 7 (F.map Fnc.C))] (.one (cI 0)))
    (n2 : ¬ (F.length : Int) = 0) (n3 : ¬ 6 < (xs.length : Int)) (n4 : ¬ 8 < (vs.length : Int)) (n5 : ¬ 4 < (ms.length : Int)) (hF : F.length ≤ 1048576)
    (hj : (w.tmod ↑F.length).toNat = j) (q0 : 0 ≤ w) (q00 : w ≤ 255) (q1 : 0 ≤ w.tmod ↑F.length) (q2 : j < F.length) (q3 : w.tmod ↑F.length < ↑F.length)
    (hf : F.getD j default = f) (hpl : ps.length ≤ 1073741824)
    (d1 : CallsD Γ prog 18 [.agg (fncC f)] (.tup [.one (.sl 7 (ps.map Vr.C)), .one (cB true)]))
    (r1 : ∀ i, i < xs.length → CallsD Γ prog 10 [.agg (exC (xs.getD i default)), .one (cI 30), .one (cI 10)] (.one (cB (decide (0 ≤ (xs.getD i default).rsz 30 10)))))
    (i1 : ∀ i, i < xs.length → CallsD Γ prog 19 [.agg (exC (xs.getD i default)), .one (.sl 7 (vs.map Vr.C)), .one (.sl 3 (ms.map Tb.C))] (tyR (ofF (xs.getD i default) vs ms)))
    (e1 : CallsD Γ prog 9 [.agg (exC f.body), .one (.sl 7 (F.map Fnc.C))] (.tup [.agg (exC y), .one (cI ye)]))
    (i2 : CallsD Γ prog 19 [.agg (exC y), .one (.sl 7 (ps.map Vr.C)), .one (.sl 3 (ms.map Tb.C))] (.tup [.agg (tyC t1), .one (cI he)]))
    (e2 : CallsD Γ prog 9 [.agg [cI 3, cI 0, cS ⟨#[]⟩, cS f.name, .sl 5 (xs.map Ex.cells)], .one (.sl 7 (F.map Fnc.C))] (.tup [.agg (exC z), .one (cI ze)]))
    (i3 : CallsD Γ prog 19 [.agg (exC z), .one (.sl 7 (vs.map Vr.C)), .one (.sl 3 (ms.map Tb.C))] (.tup [.agg (tyC t2), .one (cI m)]))
    (hlaw : xs.length = ps.length → seen18 xs vs ps ms xs.length → (ye = 0 ∨ ye = 6) ∧ (ye = 0 → he = 0 → ze = 6 ∨ (ze = 0 ∧ t2 = t1 ∧ m = 0))) :
    CallsD Γ prog 6 [.one (.sl 7 (F.map Fnc.C)), .one (.raw (.int .u8 w)), .one (.sl 5 (xs.map Ex.cells)), .one (.sl 7 (vs.map Vr.C)), .one (.sl 3 (ms.map Tb.C))] (.one (cB true)) := by
  refine CallsD.run [(18, [.room 2]), (21, [.room 2]), (24, [.room 3]), (25, [.room 4]), (28, [.room 5])] Go.Proofs.Tryz.func6 rfl rfl rfl ?_; simp only [Go.Proofs.Tryz.f6]; refine hgR ?_
  repeat' ((first | refine hfk ?_ ?_ <;> intros | refine hik ?_ | with_reducible first | refine v47 (s1) ?_ | refine vrf (s1) ?_ | refine v47 (f1) ?_ | refine vrf (f1) ?_ | refine v47 (c1) ?_ | refine vrf (c1) ?_) <;> refine hgS ?_)
  refine hg2 @hj @hf ?_
  repeat' ((first | refine hfk ?_ ?_ <;> intros | refine hik ?_ | with_reducible first | refine v47 (d1) ?_ | refine vrf (d1) ?_) <;> refine hgS ?_)
  rotate_left
  · exact RLe.ofEq rfl
  have hlen : xs.length = ps.length := by omega
  have hlaw := hlaw hlen
  clear s1 f1 c1 d1
  refine yxw [0, 2, 3, 4, 11, 12, 13] (fun n : Nat => [(15, .one (.dat (cI n)))]) (fun _ => [fnB f]) (fun n => n ≤ ms.length) (fun n => ms.length - n) 0 (Nat.zero_le _) ?_ ?_
  · refine hg ?_
    exact StH.same svl rfl
  intro n hn
  refine hg ?_
  refine xw4 (fun hlt _ => ?_) (fun hlt _ => ?_)
  · have hlt' : n < ms.length := by omega
    refine hg ?_
    repeat' ((first | refine hfk ?_ ?_ <;> intros | refine hik ?_) <;> refine hgS ?_)
    · exact RLe.ofEq rfl
    · exact ⟨n + 1, by omega, by omega, StH.same svl rfl⟩
  clear hlt hn
  refine hg ?_
  refine yxw [0, 2, 3, 4, 11, 12, 13] (fun n : Nat => [(16, .one (.dat (cI n)))]) (fun _ => [fnB f]) (fun n => n ≤ xs.length ∧ seen18 xs vs ps ms n) (fun n => xs.length - n) 0 ⟨Nat.zero_le _, fun i hi => absurd hi (Nat.not_lt_zero i)⟩ ?_ ?_
  · refine hg ?_
    exact StH.same svl rfl
  rintro n ⟨hn, hseen⟩
  refine hg ?_
  refine xw4 (fun hlt _ => ?_) (fun hlt _ => ?_)
  · have hlt' : n < xs.length := by omega
    have hltp : n < ps.length := by omega
    have r2 := r1 n hlt'
    have i4 := i1 n hlt'
    have hnx := fun h1 h2 => seen18_next hseen h1 h2
    clear hseen r1 i1 hlaw e1 i2 e2 i3
    obtain ⟨⟨⟨tt, td⟩, te⟩, hr⟩ : ∃ r, ofF (xs.getD n default) vs ms = r := ⟨_, rfl⟩
    rw [hr] at i4 hnx
    clear hr
    by_cases hfw : 0 ≤ (xs.getD n default).rsz 30 10
    · have hnx := hnx hfw
      rw [decide_eq_true hfw] at r2
      clear hfw
      refine hg ?_
      repeat' ((first | refine hfk ?_ ?_ <;> intros | refine hik ?_ | with_reducible first | refine v47 (r2) ?_ | refine vrf (r2) ?_ | refine v47 (i4) ?_ | refine vrf (i4) ?_) <;> refine hgS ?_)
      all_goals first
        | exact RLe.ofEq rfl
        | (refine ⟨n + 1, ⟨by omega, hnx ?_⟩, by omega, StH.back [0, 2, 3, 4, 11, 12, 13, 16] 0 0 1 rfl rfl rfl rfl rfl (by kernel_rfl) (StH.same svl rfl)⟩
           simp_all)
    · rw [decide_eq_false hfw] at r2
      clear hfw
      refine hg ?_
      repeat' ((first | refine hfk ?_ ?_ <;> intros | refine hik ?_ | with_reducible first | refine v47 (r2) ?_ | refine vrf (r2) ?_) <;> refine hgS ?_)
      exact RLe.ofEq rfl
  obtain rfl : n = xs.length := by omega
  obtain ⟨l1, l2⟩ := hlaw hseen
  clear hseen hlaw r1 i1 hlt hn
  refine hg ?_
  rcases l1 with l1 | l1
  · have l3 := l2 l1
    clear l2
    subst l1
    by_cases hh : he = 0
    · have l4 := l3 hh
      clear l3
      subst hh
      rcases l4 with l4 | ⟨rfl, rfl, rfl⟩
      · subst l4
        repeat' ((first | refine hfk ?_ ?_ <;> intros | refine hik ?_ | with_reducible first | refine v47 (e1) ?_ | refine vrf (e1) ?_ | refine v47 (i2) ?_ | refine vrf (i2) ?_ | refine v47 (e2) ?_ | refine vrf (e2) ?_) <;> refine hgS ?_)
        all_goals first
          | exact RLe.ofEq rfl
          | (exfalso; omega)
      · repeat' ((first | refine hfk ?_ ?_ <;> intros | refine hik ?_ | with_reducible first | refine v47 (e1) ?_ | refine vrf (e1) ?_ | refine v47 (i2) ?_ | refine vrf (i2) ?_ | refine v47 (e2) ?_ | refine vrf (e2) ?_ | refine v47 (i3) ?_ | refine vrf (i3) ?_) <;> refine hgS ?_)
        all_goals first
          | exact RLe.ofEq rfl
          | (exfalso; omega)
    · clear l3
      repeat' ((first | refine hfk ?_ ?_ <;> intros | refine hik ?_ | with_reducible first | refine v47 (e1) ?_ | refine vrf (e1) ?_ | refine v47 (i2) ?_ | refine vrf (i2) ?_ | refine v47 (e2) ?_ | refine vrf (e2) ?_) <;> refine hgS ?_)
      all_goals first
        | exact RLe.ofEq rfl
        | (exfalso; omega)
  · clear l2
    subst l1
    repeat' ((first | refine hfk ?_ ?_ <;> intros | refine hik ?_ | with_reducible first | refine v47 (e1) ?_ | refine vrf (e1) ?_) <;> refine hgS ?_)
    all_goals first
      | exact RLe.ofEq rfl
      | (exfalso; omega)
theorem wCallTypes (hG : ws6 Γ 0 = .elt sgC) (F : List Fnc) (w : Int) (xs : List Ex) (vs : List Vr) (ms : List Tb) (hF : F.length ≤ 1048576) (hS : ∀ f ∈ F, f.Sm) (hw0 : 0 ≤ w) (hw1 : w ≤ 255) (has : xs.length ≤ 1048576) (haS : ∀ y ∈ xs, y.Sm)
    (hv : vs.length ≤ 1048576) (hvn : ∀ v ∈ vs, v.name.size ≤ 1073741824) (hm : ms.length ≤ 1048576) (hms : ∀ t ∈ ms, t.Sm) :
    CallsD Γ prog 6 [.one (.sl 7 (F.map Fnc.C)), .one (.raw (.int .u8 w)), .one (.sl 5 (xs.map Ex.cells)), .one (.sl 7 (vs.map Vr.C)), .one (.sl 3 (ms.map Tb.C))] (.one (cB true)) := by
  have s1 := vp3 (Γ := Γ) hG
  have f1 := zi5 (Γ := Γ) F 8 (by omega) hS
  have c1 := vee (Γ := Γ) F (by omega) hS
  by_cases hn : y1e F 8 = true ∧ ¬ (F.length : Int) = 0 ∧ ¬ 6 < (xs.length : Int) ∧ ¬ 8 < (vs.length : Int) ∧ ¬ 4 < (ms.length : Int) ∧ wa2 F = 0
  · obtain ⟨n1, n2, n3, n4, n5, n6⟩ := hn
    rw [n1] at f1
    rw [n6] at c1
    have q1 : 0 ≤ w.tmod ↑F.length := Int.tmod_nonneg _ hw0
    have q3 : w.tmod ↑F.length < ↑F.length := Int.tmod_lt_of_pos w (show (0 : Int) < F.length by omega)
    have q2 : (w.tmod ↑F.length).toNat < F.length := by omega
    obtain ⟨j, hj⟩ : ∃ j, (w.tmod ↑F.length).toNat = j := ⟨_, rfl⟩
    rw [hj] at q2
    have hk := (y5o.1 n6).ok q2
    have hfS := hS _ (xdq q2)
    have hfl := hfS.len
    have hfp := hfS.p
    have d1 := z5v (Γ := Γ) _ hfS (fun p hp => by
      have := List.any_eq_false.1 hk.un p hp
      unfold ziu at this
      simpa using this)
    have hcs := callX_sm hfS.s (show xs.length ≤ 1073741824 by omega) haS
    have hps : ∀ v ∈ (F.getD j default).params.map varP, v.name.size ≤ 1073741824 := fun v hv => by
      obtain ⟨p, hp, rfl⟩ := List.mem_map.1 hv
      exact (hfp p hp).1
    have hlaw := w1c q2 n6 xs vs ms
    refine wTypesRun (y := (yc3 F (F.getD j default).body).1) (z := (yc3 F (ydb (F.getD j default).name xs)).1) s1 f1 c1 n2 n3 n4 n5 hF hj hw0 hw1 q1 q2 q3 rfl (by simpa using hfl) d1 (fun i hi => rFew _ (haS _ (xdq hi)) 30 10 (by decide) (by decide) (by decide) (by decide))
      (fun i hi => w0i _ vs ms (haS _ (xdq hi)) (by omega) (by omega) hvn hms)
      (z09 _ F hfS.b (by omega) hS) (w0i _ _ ms (zsw hfS.b hS) (by simpa using hfl) (by omega) hps hms)
      (z09 (ydb (F.getD j default).name xs) F hcs (by omega) hS) (w0i _ vs ms (zsw hcs hS) (by omega) (by omega) hvn hms)
      (fun hl hseen => ?_)
    have hl' : xs.length = (F.getD j default).params.length := by simpa using hl
    have l := hlaw hl' (fun a ha => by
      obtain ⟨i, hi, rfl⟩ := List.getElem_of_mem ha
      have := (hseen i hi).1
      rwa [show xs.getD i default = xs[i] by simp [hi]] at this) (fun i hi => by
      rw [(hseen i hi).2, getD_map' varP default _ i (by omega)]; rfl)
    refine ⟨l.1, fun h1 h2 => (l.2 h1 h2).imp id (fun h => ⟨h.1, by rw [h.2], by rw [h.2]; exact h2⟩)⟩
  · clear hG hS haS hvn hms
    generalize y1e F 8 = b at *
    generalize wa2 F = e at *
    refine CallsD.run [] Go.Proofs.Tryz.func6 rfl rfl rfl ?_; simp only [Go.Proofs.Tryz.f6]; refine hgR ?_
    repeat' ((first | refine hfk ?_ ?_ <;> intros | refine hik ?_ | with_reducible first | refine v47 (s1) ?_ | refine vrf (s1) ?_ | refine v47 (f1) ?_ | refine vrf (f1) ?_ | refine v47 (c1) ?_ | refine vrf (c1) ?_) <;> refine hgS ?_)
    all_goals first
      | exact RLe.ofEq rfl
      | (exfalso; simp_all; done)
      | (exfalso; simp_all; omega)
end Go.Hp.T
