/- Law 18: the walk of CallCircles. -/
import Derived.Test.YtocdljjhobaabaaGreatDoorZ36
/- Law 18: the walk of CallCircles. -/
namespace Go.Hp.T
open Go Go.RowKit Go.Slot Go.Hp Go.Slot.T
open Go.Proofs.Tryz (prog)
attribute [local irreducible] hide RH
set_option maxRecDepth 10000
set_option maxHeartbeats 8000000
variable {Γ : List (Nat × List Cell)}
abbrev plB (p : List Bool) : SB := .arr (.sl 1 (p.map fun b => [cB b])) 0 none
theorem all_rangeS {p : Nat → Bool} {n : Nat} : (List.range (n + 1)).all p = ((List.range n).all p && p n) := by
  rw [List.range_succ, List.all_append]; simp
theorem wCallCircles (hG : ws6 Γ 0 = .elt sgC) (F : List Fnc) (hF : F.length ≤ 1048576) (hS : ∀ f ∈ F, f.Sm) : CallsD Γ prog 5 [.one (.sl 7 (F.map Fnc.C))] (.one (cB true)) := by
  have s1 := vp3 (Γ := Γ) hG
  have f1 := zi5 (Γ := Γ) F 8 (by omega) hS
  have c1 := vee (Γ := Γ) F (by omega) hS
  by_cases hn : y1e F 8 = true ∧ ¬ 8 < (F.length : Int) ∧ (wa2 F = 0 ∨ wa2 F = 23)
  · obtain ⟨n1, n2, n3⟩ := hn
    have law := vg7 n3
    rw [n1] at f1
    have hout : outF F (F.length - 0) (List.replicate F.length false) 0 = outF F F.length (List.replicate F.length false) 0 := rfl
    have a1 : ∀ i, i < F.length → ∀ k, CallsD Γ prog 17 [.agg (exC (F.getD i default).body), .one (cS (F.getD k default).name)] (.one (cB (y3r (F.getD k default).name (F.getD i default).body))) := fun i hi k => wmf _ _ (hS _ (xdq hi)).b
    generalize wa2 F = e at *
    obtain ⟨R, hR⟩ : ∃ R, outF F F.length (List.replicate F.length false) 0 = R := ⟨_, rfl⟩
    rw [hR] at law hout
    clear hR hS hG n1
    have key : ∀ e' : Int, e = e' → (e' = 0 ∨ e' = 23) → CallsD Γ prog 5 [.one (.sl 7 (F.map Fnc.C))] (.one (cB true)) := by
      intro e' he' hcase
      subst he'
      have hb8 : F.length ≤ 8 := by omega
      have a2 : ∀ i, i < F.length → ∀ k, k < F.length → CallsD Γ prog 17 [.agg (exC (F.getD i default).body), .one (cS (F.getD k default).name)] (.one (cB (y3r (F.getD k default).name (F.getD i default).body))) := fun i hi k _ => a1 i hi k
      clear a1
      rcases hcase with hc | hc
      all_goals
        subst hc
        refine CallsD.run [] Go.Proofs.Tryz.func5 rfl rfl rfl ?_; simp only [Go.Proofs.Tryz.f5]; refine hgR ?_
        repeat' ((first | refine hfk ?_ ?_ <;> intros | refine hik ?_ | with_reducible first | refine v47 (s1) ?_ | refine vrf (s1) ?_ | refine v47 (f1) ?_ | refine vrf (f1) ?_ | refine v47 (c1) ?_ | refine vrf (c1) ?_) <;> refine hgS ?_)
        all_goals
          refine yxw [0, 3, 4, 5] (fun p : Nat × List Bool × Int => [(6, .one (.dat (cI p.2.2))), (7, .one (.dat (cI p.1)))]) (fun p => [plB p.2.1])
            (fun p => p.1 ≤ F.length ∧ p.2.1.length = F.length ∧ (0 ≤ p.2.2 ∧ p.2.2 ≤ 8 * p.1) ∧ outF F (F.length - p.1) p.2.1 p.2.2 = R) (fun p => F.length - p.1) (0, List.replicate F.length false, 0) ⟨Nat.zero_le _, by simp, by simp, hout⟩ ?_ ?_
          · refine hg ?_
            exact StH.same svl (by simp)
          rintro ⟨t, P, c⟩ ⟨ht, hP, hcc, hO⟩
          dsimp only at ht hP hcc hO
          refine hg ?_
          refine xw4 (fun hlt _ => ?_) (fun hlt _ => ?_)
          · have hlt' : t < F.length := by omega
            rw [show F.length - t = F.length - (t + 1) + 1 by omega, outF] at hO
            obtain ⟨R1, hR1⟩ : ∃ R1, inF F F.length 0 P c = R1 := ⟨_, rfl⟩
            rw [hR1] at hO
            have hI0 : inF F (F.length - 0) 0 P c = R1 := hR1
            clear hR1
            refine hg ?_
            refine yxw [0, 3, 4, 5, 7] (fun p : Nat × List Bool × Int => [(6, .one (.dat (cI p.2.2))), (8, .one (.dat (cI p.1)))]) (fun p => [plB p.2.1])
              (fun p => p.1 ≤ F.length ∧ p.2.1.length = F.length ∧ (0 ≤ p.2.2 ∧ p.2.2 ≤ 8 * t + p.1) ∧ inF F (F.length - p.1) p.1 p.2.1 p.2.2 = R1) (fun p => F.length - p.1) (0, P, c) ⟨Nat.zero_le _, hP, by dsimp only; omega, hI0⟩ ?_ ?_
            · refine hg ?_
              exact StH.same svl rfl
            rintro ⟨i, Q, d⟩ ⟨hi, hQ, hdd, hI⟩
            dsimp only at hi hQ hdd hI
            refine hg ?_
            refine xw4 (fun hlt2 _ => ?_) (fun hlt2 _ => ?_)
            · have hlt2' : i < F.length := by omega
              rw [show F.length - i = F.length - (i + 1) + 1 by omega, inF] at hI
              have hQi : i < Q.length := by omega
              obtain ⟨q, hq⟩ : ∃ q, Q.getD i default = q := ⟨_, rfl⟩
              have hfin : ∀ fr, fr = yoa F Q i → (fr = true → inF F (F.length - (i + 1)) (i + 1) (Q.set i true) (d + 1) = R1) ∧ (fr = false → inF F (F.length - (i + 1)) (i + 1) Q d = R1) := fun fr hfr => by
                rw [← hfr] at hI
                exact ⟨fun e => by rw [e] at hI; exact hI, fun e => by rw [e] at hI; exact hI⟩
              have hfree : yoa F Q i = (!q && (List.range F.length).all fun k => Q.getD k false || !y3r (F.getD k default).name (F.getD i default).body) := by
                rw [← hq]; rfl
              have a3 := a2 i hlt2'
              clear hI
              refine hg2 @hq @hQ ?_
              refine yxw [0, 3, 4, 5, 6, 7, 8] (fun p : Nat × Bool => [(9, .one (.dat (cB p.2))), (10, .one (.dat (cI p.1)))]) (fun _ => [plB Q])
                (fun p => p.1 ≤ F.length ∧ p.2 = (!q && (List.range p.1).all fun k => Q.getD k false || !y3r (F.getD k default).name (F.getD i default).body)) (fun p => F.length - p.1) (0, !q) ⟨Nat.zero_le _, by simp⟩ ?_ ?_
              · refine hg ?_
                exact StH.same svl rfl
              rintro ⟨k, fr⟩ ⟨hk, hfr⟩
              dsimp only at hk hfr
              refine hg ?_
              refine xw4 (fun hlt3 _ => ?_) (fun hlt3 _ => ?_)
              · have hlt3' : k < F.length := by omega
                have a4 := a3 k hlt3'
                obtain ⟨b, hb⟩ : ∃ b, Q.getD k default = b := ⟨_, rfl⟩
                have hs : ∃ _ : Unit, ∀ u, u = (fr && (b || !y3r (F.getD k default).name (F.getD i default).body)) → u = (!q && (List.range (k + 1)).all fun k => Q.getD k false || !y3r (F.getD k default).name (F.getD i default).body) := ⟨(), fun u hu => by
                  rw [hu, all_rangeS, ← Bool.and_assoc, ← hfr, ← hb]; rfl⟩
                generalize y3r (F.getD k default).name (F.getD i default).body = cf at *
                clear hfr hfin hfree a3 a2
                cases fr with
                | false =>
                  refine hg ?_
                  repeat' ((first | refine hfk ?_ ?_ <;> intros | refine hik ?_) <;> refine hgS ?_)
                  exact ⟨(k + 1, false), ⟨by dsimp only; omega, hs.elim fun _ h => h _ rfl⟩, by dsimp only; omega, StH.same svl rfl⟩
                | true =>
                  cases b with
                  | true =>
                    refine hg2 @hb @hQ ?_
                    repeat' ((first | refine hfk ?_ ?_ <;> intros | refine hik ?_) <;> refine hgS ?_)
                    exact ⟨(k + 1, true), ⟨by dsimp only; omega, hs.elim fun _ h => h _ rfl⟩, by dsimp only; omega, StH.same svl rfl⟩
                  | false =>
                    refine hg2 @hb @hQ ?_
                    repeat' ((first | refine hfk ?_ ?_ <;> intros | refine hik ?_ | with_reducible first | refine v47 (a4) ?_ | refine vrf (a4) ?_) <;> refine hgS ?_)
                    exact ⟨(k + 1, !cf), ⟨by dsimp only; omega, hs.elim fun _ h => h _ (by simp)⟩, by dsimp only; omega, StH.same svl rfl⟩
              · have ek : k = F.length := by omega
                subst ek
                obtain ⟨g1, g2⟩ := hfin fr (hfr.trans hfree.symm)
                clear hfr hfin hfree a3
                cases fr with
                | true =>
                  refine hg1 @hQ ?_
                  repeat' ((first | refine hfk ?_ ?_ <;> intros | refine hik ?_) <;> refine hgS ?_)
                  exact ⟨(i + 1, Q.set i true, d + 1), ⟨by dsimp only; omega, by simpa using hQ, by dsimp only; omega, g1 rfl⟩, by dsimp only; omega, StH.same svl (by simp)⟩
                | false =>
                  refine hg1 @hQ ?_
                  repeat' ((first | refine hfk ?_ ?_ <;> intros | refine hik ?_) <;> refine hgS ?_)
                  exact ⟨(i + 1, Q, d), ⟨by dsimp only; omega, hQ, by dsimp only; omega, g2 rfl⟩, by dsimp only; omega, StH.same svl rfl⟩
            · rw [show F.length - i = 0 by omega, inF] at hI
              subst hI
              refine hg ?_
              repeat' ((first | refine hfk ?_ ?_ <;> intros | refine hik ?_) <;> refine hgS ?_)
              exact ⟨(t + 1, Q, d), ⟨by dsimp only; omega, hQ, by dsimp only; omega, hO⟩, by dsimp only; omega, StH.same svl rfl⟩
          · rw [show F.length - t = 0 by omega, outF] at hO
            rw [← hO] at law
            clear hO hout
            first
              | (have hl : c = (F.length : Int) := by simpa using law
                 clear law
                 subst hl
                 refine hg ?_
                 repeat' ((first | refine hfk ?_ ?_ <;> intros | refine hik ?_) <;> refine hgS ?_)
                 exact RLe.ofEq rfl)
              | (have hl : decide (c = (F.length : Int)) = false := law
                 clear law
                 refine hg1 @hl ?_
                 repeat' ((first | refine hfk ?_ ?_ <;> intros | refine hik ?_) <;> refine hgS ?_)
                 exact RLe.ofEq rfl)
    exact key e rfl n3
  · clear hG
    generalize y1e F 8 = b at *
    generalize wa2 F = e at *
    refine CallsD.run [] Go.Proofs.Tryz.func5 rfl rfl rfl ?_; simp only [Go.Proofs.Tryz.f5]; refine hgR ?_
    repeat' ((first | refine hfk ?_ ?_ <;> intros | refine hik ?_ | with_reducible first | refine v47 (s1) ?_ | refine vrf (s1) ?_ | refine v47 (f1) ?_ | refine vrf (f1) ?_ | refine v47 (c1) ?_ | refine vrf (c1) ?_) <;> refine hgS ?_)
    all_goals first
      | exact RLe.ofEq rfl
      | (exfalso; simp_all; done)
      | (exfalso; simp_all; omega)
end Go.Hp.T
