/- RecipeEnds: the walk. -/
import Derived.Test.YtkbkjjahlafhoaaGreatDoorQ17
import Derived.Test.YtkbkjjahlafhoaaGreatDoorQ40
import Derived.Test.YtkbkjjahlafhoaaGreatDoorQ36
/- RecipeEnds: the walk. -/
namespace Go.Hp.T
open Go Go.RowKit Go.Slot Go.Hp Go.Slot.T
open Go.Proofs.Tryz
variable {f:Fl}
attribute [local irreducible] hide RH
set_option maxRecDepth 10000
set_option maxHeartbeats 8000000
variable {Γ : List (Nat × List Cell)}
abbrev bxSh (s : Sht) : SB := .box ((shtC s).map .dat) (some 31)
abbrev inB (l : List Int) : SB := .arr (.ints .i64 l) 0 none
abbrev flwA (s : Sht) (r : Int) (cs : List Sc) : List AV := [.agg (shtC s), .one (cI r), .one (.sl 8 (cs.map Sc.C))]
theorem wEnds0 (hG : vjd Γ 0 = .elt sgC) (s : Sht) (r : Int) (cs : List Sc) (hs : s.Sm) (hl : cs.length ≤ 1048576) (hz : ∀ x ∈ cs, x.sz ≤ 67108864) (h : fewM s r cs = false) : CallsD Γ prog 4 (flwA s r cs) (.one (cB true)) := by
  have c0 := xzr hG
  have c1 := yxp (Γ := Γ) s r cs hs hl hz
  rw [h] at c1
  clear hG h hs hz
  refine hE [] func4 f4.eq_1 ?_
  repeat' first | refine hF ?_ ?_ <;> intros | refine hI ?_ | (with_reducible first | refine wdy (c0) ?_ | refine y04 (c0) ?_ | refine wdy (c1) ?_ | refine y04 (c1) ?_)<;>refine hgS ?_
  exact RLe.ofEq rfl
theorem wEnds1 (hG : vjd Γ 0 = .elt sgC) (s : Sht) (r : Int) (cs : List Sc) (hs : s.Sm) (hl : cs.length ≤ 1048576) (hz : ∀ x ∈ cs, x.sz ≤ 67108864) (h : fewM s r cs = true) (he : ¬ (ww1 s r cs).2.1 = 0) : CallsD Γ prog 4 (flwA s r cs) (.one (cB true)) := by
  have c0 := xzr hG
  have c1 := yxp (Γ := Γ) s r cs hs hl hz
  have c2 := yy1 (Γ := Γ) hs h
  rw [h] at c1
  generalize ww1 s r cs = R at *
  obtain ⟨f, e, a⟩ := R
  dsimp only at he c2
  clear hG h hs hz
  refine hE [] func4 f4.eq_1 ?_
  repeat' first | refine hF ?_ ?_ <;> intros | refine hI ?_ | (with_reducible first | refine wdy (c0) ?_ | refine y04 (c0) ?_ | refine wdy (c1) ?_ | refine y04 (c1) ?_ | refine wdy (c2) ?_ | refine y04 (c2) ?_)<;>refine hgS ?_
  all_goals first
    | exact RLe.ofEq rfl
    | (exfalso; omega)
def srcP (f : Fl) (i : Nat) : List (Int × Int) := (f.srcs.take i).map kiS
def outP (f : Fl) (i : Nat) : List (Int × Int) := (f.outs.take i).map kiO
theorem srcP_succ {i : Nat} (h : i < f.srcs.length) : srcP f (i + 1) = srcP f i ++ [kiS (f.srcs.getD i default)] := by
  unfold srcP
  rw [vys h, List.map_append]; rfl
theorem outP_succ {i : Nat} (h : i < f.outs.length) : outP f (i + 1) = outP f i ++ [kiO (f.outs.getD i default)] := by
  unfold outP
  rw [vys h, List.map_append]; rfl
theorem srcP_all (f : Fl) {i : Nat} (h : i = f.srcs.length) : srcP f i = f.srcs.map kiS := by unfold srcP; rw [h, List.take_length]
theorem outP_all (f : Fl) {i : Nat} (h : i = f.outs.length) : outP f i = f.outs.map kiO := by unfold outP; rw [h, List.take_length]
theorem srcP_len (f : Fl) (i : Nat) : (srcP f i).length ≤ f.srcs.length := by unfold srcP; simp; omega
theorem outP_len (f : Fl) (i : Nat) : (outP f i).length ≤ f.outs.length := by unfold outP; simp; omega
theorem wEnds2 (hG : vjd Γ 0 = .elt sgC) (s : Sht) (n : Nat) (cs : List Sc) (hs : s.Sm) (hl : cs.length ≤ 1048576) (hz : ∀ x ∈ cs, x.sz ≤ 67108864) (h : fewM s n cs = true) (hn : n < s.recipes.length) (f : Fl) (hf : ww1 s n cs = (f, 0, 0)) (E : zht s (s.recipes.getD n default) f) : CallsD Γ prog 4 (flwA s n cs) (.one (cB true)) := by
  have c0 := xzr hG
  have c1 := yxp (Γ := Γ) s n cs hs hl hz
  have c2 := yy1 (Γ := Γ) hs h
  rw [h] at c1
  rw [hf] at c2
  have hil := hs.il
  have hnl := hs.nl
  have hpl := hs.pl
  have hstl := hs.sl
  have hrl := hs.rl
  have hyl := (hs.r _ (z1y hn)).2.1
  have fsl := E.sl
  have fol := E.ol
  clear hG h hs hz hf
  refine hE [] func4 f4.eq_1 ?_
  repeat' first | refine hF ?_ ?_ <;> intros | refine hI ?_ | (with_reducible first | refine wdy (c0) ?_ | refine y04 (c0) ?_ | refine wdy (c1) ?_ | refine y04 (c1) ?_ | refine wdy (c2) ?_ | refine y04 (c2) ?_)<;>refine hgS ?_
  all_goals try (exfalso; omega)
  clear c0 c1 c2
  refine wf5 [1, 3, 7, 8, 11, 12, 13] (fun i : Nat => [(14, .one (.dat (cI i)))]) (fun i => [bxSh s, flB f, inB (cntA 0 s.inputs.length (srcP f i)), inB (cntA 1 s.imports.length (srcP f i)), inB (List.replicate s.ports.length 0)]) (fun i => i ≤ f.srcs.length) (fun i => f.srcs.length - i) 0 (Nat.zero_le _) ?_ ?_
  · refine hg ?_
    rw [show cntA 0 s.inputs.length (srcP f 0) = List.replicate s.inputs.length 0 from v83 _ _, show cntA 1 s.imports.length (srcP f 0) = List.replicate s.imports.length 0 from v83 _ _]
    exact sS
  intro i hi
  have lA := zkx 0 s.inputs.length (srcP f i)
  have lB := zkx 1 s.imports.length (srcP f i)
  have lC : (List.replicate s.ports.length (0 : Int)).length = s.ports.length := List.length_replicate
  refine hg3 @lA @lB @lC ?_
  refine y8g (fun hlt _ => ?_) (fun hlt _ => ?_)
  · have hlt' : i < f.srcs.length := by omega
    obtain ⟨q0, q1, q2, q3⟩ := E.si i hlt'
    have hP := srcP_succ hlt'
    have hPl := srcP_len f i
    obtain ⟨P, eP⟩ : ∃ P, srcP f i = P := ⟨_, rfl⟩
    obtain ⟨P', eP'⟩ : ∃ P', srcP f (i + 1) = P' := ⟨_, rfl⟩
    rw [eP, eP'] at hP
    rw [eP] at lA lB hPl
    replace eP' : ∃ _ : Unit, srcP f (i + 1) = P' := ⟨(), eP'⟩
    rw [eP]
    clear eP E
    refine hg3 @lA @lB @lC ?_
    generalize f.srcs.getD i default = y at *
    obtain ⟨kd, ix, am⟩ := y
    dsimp only [kiS] at *
    obtain ⟨j, rfl⟩ := Int.eq_ofNat_of_zero_le q0
    by_cases k0 : kd = 0
    · subst k0
      replace q1 := q1 rfl
      have hv := wa1 (k := 0) (P := P) (show j < s.inputs.length by omega)
      have hw := v3e 0 j P
      have hwr : IntKind.i64.wrap ((cntA 0 s.inputs.length P).getD j 0 + 1) = (cntA 0 s.inputs.length P).getD j 0 + 1 := w64 (by rw [hv]; omega)
      have hA := zdg (k := 0) (n := s.inputs.length) (P := P) (y := ((0 : Int), (j : Int))) rfl (i := j) rfl (v := (cntA 0 s.inputs.length P).getD j 0 + 1) rfl
      have hB := xre (k := 1) (n := s.imports.length) (P := P) (y := ((0 : Int), (j : Int))) (show ¬ (0 : Int) = 1 by decide)
      rw [← hP] at hA hB
      clear hP q2 q3 q0 hv
      refine hg3 @lA @lB @lC ?_
      repeat' first | refine hF ?_ ?_ <;> intros | refine hI ?_
      all_goals try (exfalso; omega)
      refine ⟨i + 1, by omega, by omega, ?_⟩
      rw [← hB]
      obtain ⟨_, eP'⟩ := eP'
      rw [← eP']
      refine StH.cutN [1, 3, 7, 8, 11, 12, 13, 14] 5 rfl ?_ ?_
      · refine hg ?_
        first | exact trivial | rfl
      exact sS
    by_cases k1 : kd = 1
    · subst k1
      replace q2 := q2 rfl
      have hv := wa1 (k := 1) (P := P) (show j < s.imports.length by omega)
      have hw := v3e 1 j P
      have hwr : IntKind.i64.wrap ((cntA 1 s.imports.length P).getD j 0 + 1) = (cntA 1 s.imports.length P).getD j 0 + 1 := w64 (by rw [hv]; omega)
      have hA := zdg (k := 1) (n := s.imports.length) (P := P) (y := ((1 : Int), (j : Int))) rfl (i := j) rfl (v := (cntA 1 s.imports.length P).getD j 0 + 1) rfl
      have hB := xre (k := 0) (n := s.inputs.length) (P := P) (y := ((1 : Int), (j : Int))) (show ¬ (1 : Int) = 0 by decide)
      rw [← hP] at hA hB
      clear hP q1 q3 q0 hv
      refine hg3 @lA @lB @lC ?_
      repeat' first | refine hF ?_ ?_ <;> intros | refine hI ?_
      all_goals try (exfalso; omega)
      refine ⟨i + 1, by omega, by omega, ?_⟩
      rw [← hB]
      obtain ⟨_, eP'⟩ := eP'
      rw [← eP']
      refine StH.cutN [1, 3, 7, 8, 11, 12, 13, 14] 5 rfl ?_ ?_
      · refine hg ?_
        first | exact trivial | rfl
      exact sS
    · have hA := xre (k := 0) (n := s.inputs.length) (P := P) (y := (kd, (j : Int))) k0
      have hB := xre (k := 1) (n := s.imports.length) (P := P) (y := (kd, (j : Int))) k1
      rw [← hP] at hA hB
      replace q3 : kd = 2 → (j : Int) < s.stores.length := q3
      clear hP q1 q2 q0
      by_cases k2 : kd = 2
      · subst k2
        replace q3 := q3 rfl
        refine hg3 @lA @lB @lC ?_
        repeat' first | refine hF ?_ ?_ <;> intros | refine hI ?_
        all_goals try (exfalso; omega)
        refine ⟨i + 1, by omega, by omega, ?_⟩
        rw [← hA, ← hB]
        obtain ⟨_, eP'⟩ := eP'
        rw [← eP']
        refine StH.cutN [1, 3, 7, 8, 11, 12, 13, 14] 5 rfl ?_ ?_
        · refine hg ?_
          first | exact trivial | rfl
        exact sS
      · clear q3
        refine hg3 @lA @lB @lC ?_
        repeat' first | refine hF ?_ ?_ <;> intros | refine hI ?_
        all_goals try (exfalso; omega)
        refine ⟨i + 1, by omega, by omega, ?_⟩
        rw [← hA, ← hB]
        obtain ⟨_, eP'⟩ := eP'
        rw [← eP']
        refine StH.cutN [1, 3, 7, 8, 11, 12, 13, 14] 5 rfl ?_ ?_
        · refine hg ?_
          first | exact trivial | rfl
        exact sS
  have ei := srcP_all f (show i = f.srcs.length by omega)
  rw [ei] at lA lB
  rw [ei]
  clear ei hlt hi
  have mA : ∀ j, j < s.inputs.length → (cntA 0 s.inputs.length (f.srcs.map kiS)).getD j 0 = if seq (s.inputs.getD j default).kind (s.recipes.getD n default).kind = true then 1 else 0 := fun j hj => by rw [wa1 hj, E.mt j hj]; split <;> rfl
  have mB : ∀ j, j < s.imports.length → (cntA 1 s.imports.length (f.srcs.map kiS)).getD j 0 = 1 := fun j hj => by rw [wa1 hj, E.tk j hj]; rfl
  generalize cntA 0 s.inputs.length (f.srcs.map kiS) = A at *
  generalize cntA 1 s.imports.length (f.srcs.map kiS) = B at *
  refine hg3 @lA @lB @lC ?_
  refine wf5 [1, 3, 7, 8, 11, 12, 13] (fun i : Nat => [(16, .one (.dat (cI i)))]) (fun i => [bxSh s, flB f, inB A, inB B, inB (cntA 0 s.ports.length (outP f i))]) (fun i => i ≤ f.outs.length) (fun i => f.outs.length - i) 0 (Nat.zero_le _) ?_ ?_
  · refine hg ?_
    rw [show cntA 0 s.ports.length (outP f 0) = List.replicate s.ports.length 0 from v83 _ _]
    exact sS
  clear lC
  intro i hi
  have lC := zkx 0 s.ports.length (outP f i)
  refine hg3 @lA @lB @lC ?_
  refine y8g (fun hlt _ => ?_) (fun hlt _ => ?_)
  · have hlt' : i < f.outs.length := by omega
    obtain ⟨q0, q1, q2⟩ := E.oi i hlt'
    have hP := outP_succ hlt'
    have hPl := outP_len f i
    obtain ⟨P, eP⟩ : ∃ P, outP f i = P := ⟨_, rfl⟩
    obtain ⟨P', eP'⟩ : ∃ P', outP f (i + 1) = P' := ⟨_, rfl⟩
    rw [eP, eP'] at hP
    rw [eP] at lC hPl
    replace eP' : ∃ _ : Unit, outP f (i + 1) = P' := ⟨(), eP'⟩
    rw [eP]
    clear eP E mA mB
    refine hg3 @lA @lB @lC ?_
    generalize f.outs.getD i default = y at *
    obtain ⟨kd, ix, am, nm⟩ := y
    dsimp only [kiO] at *
    obtain ⟨j, rfl⟩ := Int.eq_ofNat_of_zero_le q0
    by_cases k0 : kd = 0
    · subst k0
      replace q1 := q1 rfl
      have hv := wa1 (k := 0) (P := P) (show j < s.ports.length by omega)
      have hw := v3e 0 j P
      have hwr : IntKind.i64.wrap ((cntA 0 s.ports.length P).getD j 0 + 1) = (cntA 0 s.ports.length P).getD j 0 + 1 := w64 (by rw [hv]; omega)
      have hA := zdg (k := 0) (n := s.ports.length) (P := P) (y := ((0 : Int), (j : Int))) rfl (i := j) rfl (v := (cntA 0 s.ports.length P).getD j 0 + 1) rfl
      rw [← hP] at hA
      clear hP q2 q0 hv
      refine hg3 @lA @lB @lC ?_
      repeat' first | refine hF ?_ ?_ <;> intros | refine hI ?_
      all_goals try (exfalso; omega)
      refine ⟨i + 1, by omega, by omega, ?_⟩
      obtain ⟨_, eP'⟩ := eP'
      rw [← eP']
      refine StH.cutN [1, 3, 7, 8, 11, 12, 13, 16] 5 rfl ?_ ?_
      · refine hg ?_
        first | exact trivial | rfl
      exact sS
    · have hA := xre (k := 0) (n := s.ports.length) (P := P) (y := (kd, (j : Int))) k0
      rw [← hP] at hA
      clear hP q1 q0
      by_cases k1 : kd = 1
      · subst k1
        replace q2 := q2 rfl
        refine hg3 @lA @lB @lC ?_
        repeat' first | refine hF ?_ ?_ <;> intros | refine hI ?_
        all_goals try (exfalso; omega)
        refine ⟨i + 1, by omega, by omega, ?_⟩
        rw [← hA]
        obtain ⟨_, eP'⟩ := eP'
        rw [← eP']
        refine StH.cutN [1, 3, 7, 8, 11, 12, 13, 16] 5 rfl ?_ ?_
        · refine hg ?_
          first | exact trivial | rfl
        exact sS
      · clear q2
        refine hg3 @lA @lB @lC ?_
        repeat' first | refine hF ?_ ?_ <;> intros | refine hI ?_
        all_goals try (exfalso; omega)
        refine ⟨i + 1, by omega, by omega, ?_⟩
        rw [← hA]
        obtain ⟨_, eP'⟩ := eP'
        rw [← eP']
        refine StH.cutN [1, 3, 7, 8, 11, 12, 13, 16] 5 rfl ?_ ?_
        · refine hg ?_
          first | exact trivial | rfl
        exact sS
  have ei := outP_all f (show i = f.outs.length by omega)
  rw [ei] at lC
  rw [ei]
  clear ei hlt hi
  have mC : ∀ j, j < s.ports.length → (cntA 0 s.ports.length (f.outs.map kiO)).getD j 0 = 1 := fun j hj => by rw [wa1 hj, E.gv j hj]; rfl
  generalize cntA 0 s.ports.length (f.outs.map kiO) = C at *
  have eln := E.ln
  clear E
  refine hg3 @lA @lB @lC ?_
  refine wf5 [1, 3, 7, 8, 11, 12, 13] (fun i : Nat => [(18, .one (.dat (cI i)))]) (fun i => [bxSh s, flB f, inB A, inB B, inB C]) (fun i => i ≤ s.inputs.length) (fun i => s.inputs.length - i) 0 (Nat.zero_le _) ?_ ?_
  · refine hg ?_
    exact sS
  intro i hi
  refine hg3 @lA @lB @lC ?_
  refine y8g (fun hlt _ => ?_) (fun hlt _ => ?_)
  · have hlt' : i < s.inputs.length := by omega
    have hm := mA i hlt'
    clear mA mB mC eln
    obtain ⟨v, hv⟩ : ∃ v, A.getD i 0 = v := ⟨_, rfl⟩
    rw [hv] at hm
    cases hq : seq (s.inputs.getD i default).kind (s.recipes.getD n default).kind with
    | true =>
      rw [hq, if_pos rfl] at hm
      subst hm
      refine hg5 @lA @lB @lC @hq @hv ?_
      repeat' first | refine hF ?_ ?_ <;> intros | refine hI ?_
      all_goals first
        | (exfalso; omega)
        | (exfalso; simp_all; done)
        | exact ⟨i + 1, by omega, by omega, sS⟩
    | false =>
      rw [hq, if_neg (by decide)] at hm
      subst hm
      refine hg5 @lA @lB @lC @hq @hv ?_
      repeat' first | refine hF ?_ ?_ <;> intros | refine hI ?_
      all_goals first
        | (exfalso; omega)
        | (exfalso; simp_all; done)
        | exact ⟨i + 1, by omega, by omega, sS⟩
  clear mA hlt hi
  refine hg3 @lA @lB @lC ?_
  refine wf5 [1, 3, 7, 8, 11, 12, 13] (fun i : Nat => [(19, .one (.dat (cI i)))]) (fun i => [bxSh s, flB f, inB A, inB B, inB C]) (fun i => i ≤ s.imports.length) (fun i => s.imports.length - i) 0 (Nat.zero_le _) ?_ ?_
  · refine hg ?_
    exact sS
  intro i hi
  refine hg3 @lA @lB @lC ?_
  refine y8g (fun hlt _ => ?_) (fun hlt _ => ?_)
  · have hm := mB i (show i < s.imports.length by omega)
    clear mB mC eln
    refine hg4 @lA @lB @lC @hm ?_
    repeat' first | refine hF ?_ ?_ <;> intros | refine hI ?_
    all_goals try (exfalso; omega)
    exact ⟨i + 1, by omega, by omega, sS⟩
  clear mB hlt hi
  refine hg3 @lA @lB @lC ?_
  refine wf5 [1, 3, 7, 8, 11, 12, 13] (fun i : Nat => [(20, .one (.dat (cI i)))]) (fun i => [bxSh s, flB f, inB A, inB B, inB C]) (fun i => i ≤ s.ports.length) (fun i => s.ports.length - i) 0 (Nat.zero_le _) ?_ ?_
  · refine hg ?_
    exact sS
  intro i hi
  refine hg3 @lA @lB @lC ?_
  refine y8g (fun hlt _ => ?_) (fun hlt _ => ?_)
  · have hm := mC i (show i < s.ports.length by omega)
    clear mC eln
    refine hg4 @lA @lB @lC @hm ?_
    repeat' first | refine hF ?_ ?_ <;> intros | refine hI ?_
    all_goals try (exfalso; omega)
    exact ⟨i + 1, by omega, by omega, sS⟩
  clear mC hlt hi
  refine hg3 @lA @lB @lC ?_
  refine wf5 [1, 3, 7, 8, 11, 12, 13] (fun i : Nat => [(21, .one (.dat (cI (othN ((s.recipes.getD n default).steps.take i))))), (22, .one (.dat (cI i)))]) (fun i => [bxSh s, flB f, inB A, inB B, inB C]) (fun i => i ≤ (s.recipes.getD n default).steps.length) (fun i => (s.recipes.getD n default).steps.length - i) 0 (Nat.zero_le _) ?_ ?_
  · refine hg ?_
    exact sS
  intro i hi
  have hol : othN ((s.recipes.getD n default).steps.take i) ≤ i := by
    have h1 : othN ((s.recipes.getD n default).steps.take i) ≤ ((s.recipes.getD n default).steps.take i).length := List.length_filter_le _ _
    rw [List.length_take] at h1
    omega
  refine hg3 @lA @lB @lC ?_
  refine y8g (fun hlt _ => ?_) (fun hlt _ => ?_)
  · have hlt' : i < (s.recipes.getD n default).steps.length := by omega
    have hs2 : othN ((s.recipes.getD n default).steps.take (i + 1)) = othN ((s.recipes.getD n default).steps.take i) + (if othS ((s.recipes.getD n default).steps.getD i default) = true then 1 else 0) := by
      unfold othN
      rw [vys hlt', List.filter_append, List.length_append, List.filter_cons, List.filter_nil]
      cases othS ((s.recipes.getD n default).steps.getD i default) <;> rfl
    obtain ⟨w, hw⟩ : ∃ w, othN ((s.recipes.getD n default).steps.take (i + 1)) = w := ⟨_, rfl⟩
    rw [hw] at hs2
    replace hw : ∃ _ : Unit, othN ((s.recipes.getD n default).steps.take (i + 1)) = w := ⟨(), hw⟩
    generalize othN ((s.recipes.getD n default).steps.take i) = v at *
    unfold othS at hs2
    clear eln
    refine hg3 @lA @lB @lC ?_
    generalize (s.recipes.getD n default).steps.getD i default = y at *
    obtain ⟨kk, inn, out, nm, cells, amt⟩ := y
    dsimp only at *
    by_cases k3 : kk = 3
    · subst k3
      replace hs2 : w = v + 1 := hs2
      subst hs2
      refine hg3 @lA @lB @lC ?_
      repeat' first | refine hF ?_ ?_ <;> intros | refine hI ?_
      all_goals try (exfalso; omega)
      refine ⟨i + 1, by omega, by omega, ?_⟩
      obtain ⟨_, hw⟩ := hw
      rw [hw]
      refine StH.cutN [1, 3, 7, 8, 11, 12, 13, 21, 22] 5 rfl ?_ ?_
      · refine hg ?_
        first | exact trivial | rfl
      exact sS
    by_cases k4 : kk = 4
    · subst k4
      replace hs2 : w = v + 1 := hs2
      subst hs2
      refine hg3 @lA @lB @lC ?_
      repeat' first | refine hF ?_ ?_ <;> intros | refine hI ?_
      all_goals try (exfalso; omega)
      refine ⟨i + 1, by omega, by omega, ?_⟩
      obtain ⟨_, hw⟩ := hw
      rw [hw]
      refine StH.cutN [1, 3, 7, 8, 11, 12, 13, 21, 22] 5 rfl ?_ ?_
      · refine hg ?_
        first | exact trivial | rfl
      exact sS
    · rw [decide_eq_false k3, decide_eq_false k4] at hs2
      replace hs2 : w = v := hs2
      subst hs2
      refine hg3 @lA @lB @lC ?_
      repeat' first | refine hF ?_ ?_ <;> intros | refine hI ?_
      all_goals try (exfalso; omega)
      refine ⟨i + 1, by omega, by omega, ?_⟩
      obtain ⟨_, hw⟩ := hw
      rw [hw]
      refine StH.cutN [1, 3, 7, 8, 11, 12, 13, 21, 22] 5 rfl ?_ ?_
      · refine hg ?_
        first | exact trivial | rfl
      exact sS
  rw [show i = (s.recipes.getD n default).steps.length by omega, List.take_length] at hol ⊢
  generalize othN (s.recipes.getD n default).steps = v at *
  refine hg ?_
  repeat' first | refine hF ?_ ?_ <;> intros | refine hI ?_
  exact RLe.ofEq (by rw [decide_eq_true (by omega)])
theorem wEnds (hG : vjd Γ 0 = .elt sgC) (s : Sht) (r : Int) (cs : List Sc) (hs : s.Sm) (hcs : cs.length ≤ 1048576 ∧ ∀ x ∈ cs, x.sz ≤ 1048576) : CallsD Γ prog 4 (flwA s r cs) (.one (cB true)) := by
  have hl := hcs.1
  have hz : ∀ x ∈ cs, x.sz ≤ 67108864 := fun x hx => Nat.le_trans (hcs.2 x hx) (by decide)
  cases h : fewM s r cs with
  | false => exact wEnds0 hG s r cs hs hl hz h
  | true =>
    have hc := y6a (s := s) (r := r) (cs := cs)
    by_cases he : (ww1 s r cs).2.1 = 0
    · cases hR : ww1 s r cs with
      | mk f ea =>
        rw [hR] at hc he
        cases hc with
        | arg => exact absurd he (by decide)
        | look h1 h2 => exact absurd he h2
        | err h1 h2 e n h3 => rcases h3 with rfl | rfl <;> exact absurd he (by dsimp only; decide)
        | ok h1 h2 h3 =>
          obtain ⟨_, ⟨r0, r1⟩, _, _⟩ := x2b h1
          obtain ⟨n, rfl⟩ := Int.eq_ofNat_of_zero_le r0
          have ha := ys5 h2
          exact wEnds2 hG s n cs hs hl hz h (by omega) _ hR (z8i ha (y71 h1) (v4e ha))
    · exact wEnds1 hG s r cs hs hl hz h he
end Go.Hp.T
