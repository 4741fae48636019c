/- Law 18: the walk of CallOrder. -/
import Derived.Test.YtocdljjhobaabaaGreatDoorZ36
/- Law 18: the walk of CallOrder. -/
namespace Go.Hp.T
open Go Go.RowKit Go.Slot Go.Hp Go.Slot.T
open Go.Proofs.Tryz (prog)
attribute [local irreducible] hide RH
set_option maxRecDepth 10000
set_option maxHeartbeats 8000000
variable {Γ : List (Nat × List Cell)}
theorem wCallOrder (hG : ws6 Γ 0 = .elt sgC) (F : List Fnc) (x : Ex) (w : Int) (m : Fnc) (hx : x.Sm) (hF : F.length ≤ 1048576) (hS : ∀ f ∈ F, f.Sm) (hm : m.Sm) (hw0 : 0 ≤ w) (hw1 : w ≤ 255) : CallsD Γ prog 4 [.one (.sl 7 (F.map Fnc.C)), .agg (exC x), .one (.raw (.int .u8 w)), .agg (fncC m)] (.one (cB true)) := by
  have s1 := vp3 (Γ := Γ) hG
  have f1 := lFew (Γ := Γ) F x hx (by omega) hS
  have f2 : CallsD Γ prog 16 [.one (.sl 7 [fncC m]), .one (cI 8)] (.one (cB (y1e [m] 8))) := zi5 (Γ := Γ) [m] 8 (by simp) (fun f hf => by
    rcases List.mem_cons.1 hf with e | hf
    · rw [e]; exact hm
    · cases hf)
  generalize (y1e F 8 && decide (0 ≤ x.rsz 120 22)) = b at *
  generalize y1e [m] 8 = b2 at *
  by_cases hn : b = true ∧ ¬ 7 < (F.length : Int) ∧ ¬ (F.length : Int) = 0 ∧ b2 = true
  · obtain ⟨n1, n2, n3, n4⟩ := hn
    subst n1 n4
    have q1 : 0 ≤ w.tmod ↑F.length := Int.tmod_nonneg _ hw0
    have q2 : (w.tmod ↑F.length).toNat < F.length := by
      have := Int.tmod_lt_of_pos w (show (0 : Int) < F.length by omega)
      omega
    have q3 : w.tmod ↑F.length < ↑F.length := by omega
    obtain ⟨j, hj⟩ : ∃ j, (w.tmod ↑F.length).toNat = j := ⟨_, rfl⟩
    rw [hj] at q2
    have hd : List.take (F.length - j) (List.drop j (F.map Fnc.C)) = (F.drop j).map Fnc.C := by
      rw [← List.map_drop, ← List.map_take, List.take_of_length_le (by simp)]
    have ht : List.take (j - 0) (F.map Fnc.C) = (F.take j).map Fnc.C := by rw [Nat.sub_zero, ← List.map_take]
    have hld : (F.drop j).length = F.length - j := List.length_drop
    have hlt : (F.take j).length = j := by rw [List.length_take]; omega
    have hp : (F.drop j ++ F.take j).Perm F := by
      refine List.perm_append_comm.trans ?_
      rw [List.take_append_drop]
    have hSt : ∀ f ∈ F.drop j ++ F.take j, f.Sm := fun f hf => hS f (hp.mem_iff.1 hf)
    have hSm : ∀ f ∈ F ++ [m], f.Sm := fun f hf => by
      rcases List.mem_append.1 hf with h | h
      · exact hS f h
      · rcases List.mem_cons.1 h with e | h
        · rw [e]; exact hm
        · cases h
    have hlT : (F.drop j ++ F.take j).length = F.length := by simp; omega
    have c1 := vee (Γ := Γ) F (by omega) hS
    have c2 := vee (Γ := Γ) (F.drop j ++ F.take j) (by omega) hSt
    have c3 : CallsD Γ prog 14 [.one (.sl 7 (F.map Fnc.C ++ [fncC m]))] (.one (cI (wa2 (F ++ [m])))) := by
      have := vee (Γ := Γ) (F ++ [m]) (by simp; omega) hSm
      rw [List.map_append, List.map_cons, List.map_nil] at this; exact this
    have o1 := xbm hp
    rw [List.map_append] at c2
    have e1 := z09 (Γ := Γ) x F hx (by omega) hS
    have hy := zsw hx hS
    have r1 := rFew (Γ := Γ) _ hy 250 24 (by decide) (by decide) (by decide) (by decide)
    rw [decide_eq_true (x0s F x).1] at r1
    have m1 := y5n (Γ := Γ) _ hy
    have e2 : wa2 F = 0 → CallsD Γ prog 9 [.agg (exC x), .one (.sl 7 ((F.drop j).map Fnc.C ++ (F.take j).map Fnc.C))] (.tup [.agg (exC (yc3 F x).1), .one (cI (yc3 F x).2)]) := fun h => by
      have := z09 (Γ := Γ) x (F.drop j ++ F.take j) hx (by omega) hSt
      rw [List.map_append, ← x3s hp.symm x h] at this; exact this
    have e3 : (yc3 F x).2 = 0 → wa2 (F ++ [m]) = 0 → CallsD Γ prog 9 [.agg (exC x), .one (.sl 7 (F.map Fnc.C ++ [fncC m]))] (.tup [.agg (exC (yc3 F x).1), .one (cI 0)]) := fun h h2 => by
      have := z09 (Γ := Γ) x (F ++ [m]) hx (by simp; omega) hSm
      rw [List.map_append, List.map_cons, List.map_nil, vze x h h2, h] at this; exact this
    generalize (yc3 F x).1 = y at *
    generalize (yc3 F x).2 = e at *
    generalize wa2 F = k1 at *
    generalize wa2 (F.drop j ++ F.take j) = k2 at *
    generalize wa2 (F ++ [m]) = k3 at *
    clear hS hSt hSm hp hlT hG
    refine CallsD.run [(5, [.room 2]), (6, [.room 2])] Go.Proofs.Tryz.func4 rfl rfl rfl ?_; simp only [Go.Proofs.Tryz.f4]; refine hgR ?_
    repeat' ((first | refine hfk ?_ ?_ <;> intros | refine hik ?_ | with_reducible first | refine v47 (s1) ?_ | refine vrf (s1) ?_ | refine v47 (f1) ?_ | refine vrf (f1) ?_ | refine v47 (f2) ?_ | refine vrf (f2) ?_) <;> refine hgS ?_)
    conv => simp (maxSteps := 2000000) (disch := omega) only [go_sem, Nat.reduceAdd, Nat.reduceSub, Nat.reduceMul, Int.reduceToNat, Nat.reduceEqDiff, Nat.reduceBEq, Nat.reduceBneDiff, Nat.reduceLT, Int.reduceEq, Int.reduceLT, Int.reduceLE, Int.reduceNeg, Int.reduceAdd, Int.reduceSub, Int.reduceMul, hj, hd, ht, hld, hlt, List.length_map, List.length_append]
    repeat' ((first | refine hfk ?_ ?_ <;> intros | refine hik ?_) <;> refine hgS ?_)
    conv => simp (maxSteps := 2000000) (disch := omega) only [go_sem, Nat.reduceAdd, Nat.reduceSub, Nat.reduceMul, Int.reduceToNat, Nat.reduceEqDiff, Nat.reduceBEq, Nat.reduceBneDiff, Nat.reduceLT, Int.reduceEq, Int.reduceLT, Int.reduceLE, Int.reduceNeg, Int.reduceAdd, Int.reduceSub, Int.reduceMul, hj, hd, ht, hld, hlt, List.length_map, List.length_append]
    repeat' ((first | refine hfk ?_ ?_ <;> intros | refine hik ?_ | with_reducible first | refine v47 (c1) ?_ | refine vrf (c1) ?_ | refine v47 (c2) ?_ | refine vrf (c2) ?_) <;> refine hgS ?_)
    · exact RLe.ofEq rfl
    rename_i hk
    have hk0 : k1 = 0 := by simpa using hk
    have e2 := e2 hk0
    by_cases h3 : e = 0 ∧ k3 = 0
    · have e4 := e3 h3.1 h3.2
      clear e3
      obtain ⟨h3a, h3b⟩ := h3
      subst h3a h3b
      clear hk hk0 c1 c2 o1
      repeat' ((first | refine hfk ?_ ?_ <;> intros | refine hik ?_ | with_reducible first | refine v47 (e1) ?_ | refine vrf (e1) ?_ | refine v47 (e2) ?_ | refine vrf (e2) ?_ | refine v47 (r1) ?_ | refine vrf (r1) ?_ | refine v47 (m1) ?_ | refine vrf (m1) ?_ | refine v47 (c3) ?_ | refine vrf (c3) ?_ | refine v47 (e4) ?_ | refine vrf (e4) ?_) <;> refine hgS ?_)
      all_goals exact RLe.ofEq rfl
    · clear hk hk0 c1 c2 o1 e3
      repeat' ((first | refine hfk ?_ ?_ <;> intros | refine hik ?_ | with_reducible first | refine v47 (e1) ?_ | refine vrf (e1) ?_ | refine v47 (e2) ?_ | refine vrf (e2) ?_ | refine v47 (r1) ?_ | refine vrf (r1) ?_ | refine v47 (m1) ?_ | refine vrf (m1) ?_ | refine v47 (c3) ?_ | refine vrf (c3) ?_) <;> refine hgS ?_)
      all_goals first
        | exact RLe.ofEq rfl
        | (exfalso; simp_all; done)
        | trace_state
  · clear hS hG
    refine CallsD.run [] Go.Proofs.Tryz.func4 rfl rfl rfl ?_; simp only [Go.Proofs.Tryz.f4]; refine hgR ?_
    repeat' ((first | refine hfk ?_ ?_ <;> intros | refine hik ?_ | with_reducible first | refine v47 (s1) ?_ | refine vrf (s1) ?_ | refine v47 (f1) ?_ | refine vrf (f1) ?_ | refine v47 (f2) ?_ | refine vrf (f2) ?_) <;> refine hgS ?_)
    all_goals first
      | exact RLe.ofEq rfl
      | (exfalso; simp_all; done)
      | (exfalso; simp_all; omega)
end Go.Hp.T
