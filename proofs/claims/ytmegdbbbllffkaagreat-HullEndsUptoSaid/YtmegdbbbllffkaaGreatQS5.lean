/- Law 17: plain, met; the walk of HullEnds. -/
import Derived.Test.YtmegdbbbllffkaaGreatQ39
/- Law 17: plain, met; the walk of HullEnds. -/
namespace Go.Hp.T
open Go Go.RowKit Go.Slot Go.Hp Go.Slot.T
open Go.Proofs.Tryz (prog)
set_option maxRecDepth 10000
set_option maxHeartbeats 4000000
variable {Γ : List (Nat × List Cell)}
theorem ePlain17 : wp2 prog 24 = false := by kernel_rfl
theorem eMet17 : wp2 prog 25 = false := by kernel_rfl
attribute [go_sem] ePlain17 eMet17
theorem ndL_drop : ∀ (l : List Ex) (n : Nat), Ex.ndL (l.drop n) ≤ Ex.ndL l
  | [], n => by simp
  | y :: l, 0 => Nat.le_refl _
  | y :: l, n + 1 => by
    rw [List.drop_succ_cons]
    have := ndL_drop l n
    rw [show Ex.ndL (y :: l) = Ex.nd y + Ex.ndL l by rw [Ex.ndL]]
    omega
theorem plL_bnd (s : ByteArray) (l : List Ex) : Ex.plL s l ≤ Ex.ndL l ∧ -1000000 * (Ex.ndL l : Int) ≤ Ex.plL s l := (vui (fun y _ => wmg s y)).1
theorem isPl_ops {o : Int} (h : isPl o = true) : o = 0 ∨ o = 1 ∨ (6 ≤ o ∧ o ≤ 11) := by
  unfold isPl at h; simp only [Bool.or_eq_true, Bool.and_eq_true, decide_eq_true_eq] at h; omega
theorem isPl_not {o : Int} (h : isPl o = false) : o ≠ 0 ∧ o ≠ 1 ∧ ¬ (6 ≤ o ∧ o ≤ 11) := by
  unfold isPl at h; simp only [Bool.or_eq_false_iff, Bool.and_eq_false_iff, decide_eq_false_iff_not] at h; omega
theorem cPlain17 (s : ByteArray) : ∀ x : Ex, x.Sm → x.nd ≤ 200 → CallsD Γ prog 24 [.agg (exC x), .one (cS s)] (.one (cI (x.pl s))) := by
  refine Ex.ind (fun x ih hx hnd => ?_)
  have hl := hx.len
  have hpl := Ex.v0n s x
  have hne := Ex.yuy x
  cases hop : isPl x.op with
  | false =>
    rw [hop, cond_false] at hpl
    have ho := isPl_not hop
    rw [hpl]
    clear ih hpl
    refine CallsD.run [] Go.Proofs.Tryz.func24 rfl rfl rfl ?_; simp only [Go.Proofs.Tryz.f24]; refine hgR ?_
    repeat' ((first | refine hfk ?_ ?_ <;> intros | refine hik ?_) <;> refine hgS ?_)
    all_goals first
      | (exfalso; omega)
      | exact RLe.ofEq rfl
  | true =>
    rw [hop, cond_true] at hpl
    have ho := isPl_ops hop
    have hbx := (wmg s x).1
    have hih : ∀ y ∈ x.args, CallsD Γ prog 24 [.agg (exC y), .one (cS s)] (.one (cI (y.pl s))) := fun y hy => ih y hy (hx.arg y hy) (by have := Ex.xks hy; omega)
    clear ih hop
    obtain ⟨b, hb⟩ : ∃ b, (bif decide (x.op = 1) && seq x.name s then (1 : Int) else 0) = b := ⟨_, rfl⟩
    rw [hb] at hpl
    have hb01 : 0 ≤ b ∧ b ≤ 1 := by
      rw [← hb]; cases (decide (x.op = 1) && seq x.name s) <;> simp
    generalize x.pl s = R at *
    obtain ⟨q1, hq1⟩ : ∃ q, seq x.name s = q := ⟨_, rfl⟩
    have hb1 : x.op = 1 → q1 = true → b = 1 := fun h1 h2 => by rw [← hb, hq1, h2, decide_eq_true h1]; rfl
    have hb0 : (x.op = 1 → q1 = false) → b = 0 := fun h => by
      rw [← hb, hq1]
      by_cases h1 : x.op = 1
      · rw [h h1, Bool.and_false]; rfl
      · rw [decide_eq_false h1]; rfl
    clear hb
    refine CallsD.run [] Go.Proofs.Tryz.func24 rfl rfl rfl ?_; simp only [Go.Proofs.Tryz.f24]; refine hgR ?_
    cases q1
    all_goals
      refine hg1 @hq1 ?_
      repeat' ((first | refine hfk ?_ ?_ <;> intros | refine hik ?_) <;> refine hgS ?_)
      all_goals try (exfalso; omega)
      all_goals
        first
          | have e : b = 1 := hb1 (by omega) rfl
          | have e : b = 0 := hb0 (fun h => by first | rfl | (exfalso; omega))
        clear hb1 hb0
        refine y55 [1, 2, 4] (fun p : Nat × Int => [(5, .one (.dat (cI p.2))), (6, .one (.dat (cI p.1)))]) (fun _ => [.box ((exC x).map .dat) (some 24)]) (fun p => p.1 ≤ x.args.length ∧ R = p.2 + Ex.plL s (x.args.drop p.1)) (fun p => x.args.length - p.1) (0, b) ⟨Nat.zero_le _, by rw [List.drop_zero]; exact hpl⟩ ?_ ?_
        · subst e
          refine hg ?_
          exact StH.same svl (by first | rfl | (rename_i ha hd; rw [ha]))
        clear e
        rintro ⟨n, v⟩ ⟨p1, p2⟩
        simp only at p1 p2
        refine hg ?_
        refine vnx (fun hlt _ => ?_) (fun hlt _ => ?_)
        · have hlt' : n < x.args.length := by omega
          have hy := w4t hlt'
          have hc := hih _ hy
          have g1 := (wmg s (x.args.getD n default)).1
          have g2 := Ex.xks hy
          have g3 := plL_bnd s (x.args.drop (n + 1))
          have g4 := ndL_drop x.args (n + 1)
          rw [xqz hlt', Ex.plL] at p2
          clear hih hpl
          generalize (x.args.getD n default).pl s = z at hc g1 p2
          generalize hw : Ex.plL s (x.args.drop (n + 1)) = w at g3 p2
          have p3 : v = R - (z + w) := by omega
          refine hg ?_
          refine v6l hc ?_
          refine hg ?_
          exact ⟨(n + 1, v + z), ⟨by dsimp only; omega, by dsimp only; rw [hw]; omega⟩, by dsimp only; omega, StH.same svl rfl⟩
        · rw [List.drop_eq_nil_of_le (by omega), Ex.plL, Int.add_zero] at p2
          subst p2
          refine hg ?_
          exact RLe.ofEq rfl
/-- the k-th vc6: each name at an end of its zone -/
def endK (zs : List Zn) (k i : Nat) : Bd := ⟨(zs.getD i default).name, bif k.testBit i then (zs.getD i default).s.high else (zs.getD i default).s.low⟩
theorem bits_ex : ∀ (n : Nat) (f : Nat → Bool), ∃ k, k < 2 ^ n ∧ ∀ i, i < n → k.testBit i = f i
  | 0, f => ⟨0, by decide, fun i h => absurd h (Nat.not_lt_zero _)⟩
  | n + 1, f => by
    obtain ⟨k, h1, h2⟩ := bits_ex n (fun i => f (i + 1))
    refine ⟨2 * k + (bif f 0 then 1 else 0), by rw [Nat.pow_succ]; cases f 0 <;> simp only [cond_true, cond_false] <;> omega, fun i hi => ?_⟩
    cases i with
    | zero => rw [Nat.testBit_zero]; cases f 0 <;> simp only [cond_true, cond_false, decide_eq_true_eq, decide_eq_false_iff_not] <;> omega
    | succ i =>
      rw [Nat.testBit_succ, show (2 * k + (bif f 0 then 1 else 0)) / 2 = k by cases f 0 <;> simp only [cond_true, cond_false] <;> omega]
      exact h2 i (by omega)
theorem shr_bit (k i : Nat) (hi : i ≤ 5) : iand .i64 (ishr .i64 (k : Int) (i : Int)) 1 = bif k.testBit i then 1 else 0 := by
  rw [and1, Nat.testBit_eq_decide_div_mod_eq]
  have e : ishr .i64 (k : Int) (i : Int) = ((k / 2 ^ i : Nat) : Int) := by
    unfold ishr
    rw [show min ((i : Int)).toNat IntKind.i64.bits = i by show min ((i : Int)).toNat 64 = i; omega]
    rw [Int.fdiv_eq_ediv_of_nonneg _ (Int.pow_nonneg (by decide))]
    simp
  rw [e]
  cases h : decide (k / 2 ^ i % 2 = 1) with
  | true => have := of_decide_eq_true h; simp only [cond_true]; omega
  | false => have := of_decide_eq_false h; simp only [cond_false]; omega
theorem cMet17 (x : Ex) (zs : List Zn) (q : Rat) (hx : x.Sm) (hzl : zs.length ≤ 5) (hzs : ∀ b ∈ zs, b.name.size ≤ 1073741824 ∧ b.s.sz ≤ 4) (hq : qs q ≤ 67108864) (k0 : Nat) (hk0 : k0 < 2 ^ zs.length) (hgood : valF x (genL (endK zs k0) zs.length) [] = (⟨false, false, some q⟩, 0)) :
    CallsD Γ prog 25 [.agg (exC x), .one (.sl 9 (zs.map Zn.C)), .agg (qC (some q))] (.one (cB true)) := by
  have hv : ∀ k, CallsD Γ prog 22 [.agg (exC x), .one (.sl 5 ((genL (endK zs k) zs.length).map Bd.C)), .one (.raw (.slice none 0 0))] (rsR (valF x (genL (endK zs k) zs.length) [])) := fun k => by
    refine CallsD.argN (vsb x (genL (endK zs k) zs.length) [] hx (by rw [zqu]; omega) (by decide) (fun b hb => ?_) (fun t ht => by cases ht)) (.cons (.refl _) (.cons (.refl _) (.cons (.one (.nilSl _)) .nil)))
    obtain ⟨i, hi, rfl⟩ := v5o hb
    have h1 := hzs _ (w4t hi)
    have ⟨h2, h3⟩ := Sc.zp5 h1.2
    refine ⟨h1.1, ?_⟩
    show (bif k.testBit i then (zs.getD i default).s.high else (zs.getD i default).s.low).sz ≤ 330000
    cases k.testBit i
    · exact Nat.le_trans h2 (by decide)
    · exact Nat.le_trans h3 (by decide)
  have hqz : ∀ k, qz (valF x (genL (endK zs k) zs.length) []).1.v ≤ 67108864 := fun k => Nat.le_trans (vkw (B := 4300) (by decide) (fun b hb => by
    obtain ⟨i, hi, rfl⟩ := v5o hb
    have h1 := hzs _ (w4t hi)
    have ⟨h2, h3⟩ := Sc.zp5 h1.2
    show (bif k.testBit i then (zs.getD i default).s.high else (zs.getD i default).s.low).sz + 10 ≤ 4300
    cases k.testBit i
    · show (zs.getD i default).s.low.sz + 10 ≤ 4300; omega
    · show (zs.getD i default).s.high.sz + 10 ≤ 4300; omega)) (by decide)
  have hsh : ishl .i64 1 (min (zs.length : Int) 5) = ((2 ^ zs.length : Nat) : Int) := by
    have : ∀ n : Nat, n ≤ 5 → ishl .i64 1 (min (n : Int) 5) = ((2 ^ n : Nat) : Int) := fun n hn => by
      rcases (show n = 0 ∨ n = 1 ∨ n = 2 ∨ n = 3 ∨ n = 4 ∨ n = 5 by omega) with rfl | rfl | rfl | rfl | rfl | rfl <;> decide
    exact this _ hzl
  have h32 : 2 ^ zs.length ≤ 32 := Nat.pow_le_pow_right (by decide) hzl
  generalize 2 ^ zs.length = m at hsh hk0 h32
  refine CallsD.run [] Go.Proofs.Tryz.func25 rfl rfl rfl ?_; simp only [Go.Proofs.Tryz.f25]; refine hgR ?_
  repeat' ((first | refine hfk ?_ ?_ <;> intros | refine hik ?_) <;> refine hgS ?_)
  refine y55 [1, 3, 5, 6] (fun k : Nat => [(7, .one (.dat (cI k)))]) (fun _ => [.box ((exC x).map .dat) (some 24), .box ((qC (some q)).map .dat) (some 33)]) (fun k => k ≤ k0) (fun k => m - k) 0 (Nat.zero_le _) ?_ ?_
  · refine hg ?_
    exact StH.same svl rfl
  intro k hk
  refine hg1 @hsh ?_
  refine vnx (fun hlt _ => ?_) (fun hlt _ => (by exfalso; omega))
  refine hg1 @hsh ?_
  repeat' ((first | refine hfk ?_ ?_ <;> intros | refine hik ?_) <;> refine hgS ?_)
  refine y55 [1, 3, 5, 6, 7] (fun i : Nat => [(8, .one (.sl 2 5 0 i)), (9, .one (.dat (cI i)))]) (fun i => [.box ((exC x).map .dat) (some 24), .box ((qC (some q)).map .dat) (some 33), .arr (.sl 5 ((genL (endK zs k) i).map Bd.C)) 0 (some 64)]) (fun i => i ≤ zs.length) (fun i => zs.length - i) 0 (Nat.zero_le _) ?_ ?_
  · refine hg ?_
    refine StH.trans (StH.empty (d := 8) (es := 5) (c := .sl 5 []) (T := some 64) rfl rfl (fun r hr => by cases hr) rfl) ?_
    refine hg ?_
    exact StH.same svl rfl
  intro i hi
  have hlenA : (genL (endK zs k) i).length = i := zqu _ i
  refine hg ?_
  refine vnx (fun hlt2 _ => ?_) (fun hlt2 _ => ?_)
  · have hlt' : i < zs.length := by omega
    have hbit := shr_bit k i (by omega)
    have hlen2 : ((genL (endK zs k) (i + 1)).map Bd.C).length = i + 1 := by rw [List.length_map, zqu]
    have hs : ∀ f : Fc, (bif k.testBit i then (zs.getD i default).s.high else (zs.getD i default).s.low) = f → (genL (endK zs k) i).map Bd.C ++ [[cS (zs.getD i default).name, .raw (.int .i64 f.s), .ints .i64 f.L, .raw (.int .i64 f.t), .ints .i64 f.M]] = (genL (endK zs k) (i + 1)).map Bd.C := fun f hf => by
      rw [genL, List.map_append, ← hf]; rfl
    clear hv hqz hgood
    cases hb : k.testBit i with
    | true =>
      rw [hb, cond_true] at hbit
      have hs := hs (zs.getD i default).s.high (by rw [hb]; rfl)
      refine hg1 @hbit ?_
      repeat' ((first | refine hfk ?_ ?_ <;> intros | refine hik ?_) <;> refine hgS ?_)
      all_goals try (exfalso; omega)
      refine ⟨i + 1, by omega, by omega, ?_⟩
      try simp only [hs, hlen2]
      exact StH.back [1, 3, 5, 6, 7, 8, 9] 2 4 3 rfl rfl rfl rfl rfl (by kernel_rfl) (StH.same svl rfl)
    | false =>
      rw [hb, cond_false] at hbit
      have hs := hs (zs.getD i default).s.low (by rw [hb]; rfl)
      refine hg1 @hbit ?_
      repeat' ((first | refine hfk ?_ ?_ <;> intros | refine hik ?_) <;> refine hgS ?_)
      all_goals try (exfalso; omega)
      refine ⟨i + 1, by omega, by omega, ?_⟩
      try simp only [hs, hlen2]
      exact StH.back [1, 3, 5, 6, 7, 8, 9] 2 4 3 rfl rfl rfl rfl rfl (by kernel_rfl) (StH.same svl rfl)
  · have e : i = zs.length := by omega
    subst e
    by_cases hkk : k = k0
    · subst hkk
      have o1 := hv k
      rw [hgood] at o1
      have c1 := z9e (Γ := Γ) (some q) (some q) hq hq
      rw [decide_eq_true rfl] at c1
      clear hv hqz hgood
      refine hg1 @hlenA ?_
      repeat' ((first | refine hfk ?_ ?_ <;> intros | refine hik ?_ | with_reducible first | refine v6l (o1) ?_ | refine vgi (o1) ?_ | refine v6l (c1) ?_ | refine vgi (c1) ?_) <;> refine hgS ?_)
      all_goals first
        | (exfalso; omega)
        | exact RLe.ofEq rfl
    · have o1 := hv k
      have z1 := hqz k
      clear hv hqz hgood
      generalize valF x (genL (endK zs k) zs.length) [] = r at o1 z1
      obtain ⟨⟨t, b, v⟩, e⟩ := r
      have c1 := z9e (Γ := Γ) v (some q) z1 hq
      generalize decide (v = some q) = b2 at c1
      clear z1 hq
      refine hg1 @hlenA ?_
      repeat' ((first | refine hfk ?_ ?_ <;> intros | refine hik ?_ | with_reducible first | refine v6l (o1) ?_ | refine vgi (o1) ?_ | refine v6l (c1) ?_ | refine vgi (c1) ?_) <;> refine hgS ?_)
      all_goals first
        | (exfalso; omega)
        | exact RLe.ofEq rfl
        | exact ⟨k + 1, by omega, by omega, StH.back [1, 3, 5, 6, 7] 0 0 2 rfl rfl rfl rfl rfl (by kernel_rfl) (StH.same svl rfl)⟩
theorem wEnds17 (x : Ex) (zs : List Zn) (hx : x.Sm) (hzl : zs.length ≤ 1048576) (hbs : ∀ b ∈ zs, b.Sm) :
    CallsD [] prog 8 [.agg (exC x), .one (.sl 9 (zs.map Zn.C))] (.one (cB true)) := by
  have s1 := wub (Γ := [])
  have f1 := yin (Γ := []) x zs [] ⟨hx, hzl, by decide, hbs, fun t ht => by cases ht⟩
  have nil3 : ∀ {f : FuncId} {a b : AV} {r : AV}, CallsD [] prog f [a, b, .one (.sl 3 (([] : List Tb).map Tb.C))] r → CallsD [] prog f [a, b, .one (.raw (.slice none 0 0))] r := fun h => CallsD.argN h (.cons (.refl _) (.cons (.refl _) (.cons (.one (.nilSl _)) .nil)))
  have f1 := nil3 f1
  cases hf : wsk x zs [] with
  | false =>
    rw [hf] at f1
    refine CallsD.run [] Go.Proofs.Tryz.func8 rfl rfl rfl ?_; simp only [Go.Proofs.Tryz.f8]; refine hgR ?_
    repeat' ((first | refine hfk ?_ ?_ <;> intros | refine hik ?_ | with_reducible first | refine v6l (s1) ?_ | refine vgi (s1) ?_ | refine v6l (f1) ?_ | refine vgi (f1) ?_) <;> refine hgS ?_)
    exact RLe.ofEq rfl
  | true =>
  rw [hf] at f1
  obtain ⟨hz4, hz8⟩ := vtj hf
  by_cases h5 : zs.length ≤ 5
  · have o1 := nil3 (vbh (Γ := []) x zs [] hx (by omega) (by decide) (fun b hb => ⟨(hbs b hb).n, by have := hz4 b hb; omega⟩) (fun t ht => by cases ht))
    have k1 := z5d (x := x) (zs := zs) (ms := []) (B := 4300) (by decide) (fun b hb => by have := hz4 b hb; omega) (fun t ht => by cases ht)
    cases hr : hulF x zs [] with
    | inl e =>
      rw [hr] at o1 k1
      have he : ¬ e = 0 := k1
      change CallsD _ _ _ _ (.tup [.agg (scC Sc.zero), .one (cI e)]) at o1
      refine CallsD.run [] Go.Proofs.Tryz.func8 rfl rfl rfl ?_; simp only [Go.Proofs.Tryz.f8]; refine hgR ?_
      repeat' ((first | refine hfk ?_ ?_ <;> intros | refine hik ?_ | with_reducible first | refine v6l (s1) ?_ | refine vgi (s1) ?_ | refine v6l (f1) ?_ | refine vgi (f1) ?_ | refine v6l (o1) ?_ | refine vgi (o1) ?_) <;> refine hgS ?_)
      all_goals first
        | (exfalso; omega)
        | exact RLe.ofEq rfl
    | inr k =>
      have hR := (vdp hr).1
      have hnd := wl8 hR
      have cp := fun s => cPlain17 (Γ := []) s x hx hnd
      rcases k with ⟨c, d⟩ | v
      · rw [hr] at o1
        change CallsD _ _ _ _ (.tup [.agg (scC Sc.zero), .one (cI 13)]) at o1
        refine CallsD.run [] Go.Proofs.Tryz.func8 rfl rfl rfl ?_; simp only [Go.Proofs.Tryz.f8]; refine hgR ?_
        repeat' ((first | refine hfk ?_ ?_ <;> intros | refine hik ?_ | with_reducible first | refine v6l (s1) ?_ | refine vgi (s1) ?_ | refine v6l (f1) ?_ | refine vgi (f1) ?_ | refine v6l (o1) ?_ | refine vgi (o1) ?_) <;> refine hgS ?_)
        all_goals first
          | (exfalso; omega)
          | exact RLe.ofEq rfl
      · have L := fun h2 h3 => xn0 (x := x) (zs := zs) hr (znt (s := ⟨⟨[]⟩⟩) hnd h2) h3
        rw [hr] at o1 k1
        change CallsD _ _ _ _ (.tup [.agg (ivC v), .one (cI 0)]) at o1
        have k1 : ivZ v ≤ 860000 := k1
        have p0 := cp ⟨⟨[]⟩⟩
        have met : ∀ q, qs q ≤ 67108864 → (∃ σ, valF x (zs.map (endZ σ)) [] = (⟨false, false, some q⟩, 0)) → CallsD [] prog 25 [.agg (exC x), .one (.sl 9 (zs.map Zn.C)), .agg (qC (some q))] (.one (cB true)) := fun q hq ⟨σ, h⟩ => by
          obtain ⟨k, hk1, hk2⟩ := bits_ex zs.length (fun i => σ (zs.getD i default).name)
          refine cMet17 x zs q hx h5 (fun b hb => ⟨(hbs b hb).n, hz4 b hb⟩) hq k hk1 ?_
          rw [← h]
          refine congrArg (fun l => valF x l []) ?_
          have e1 : zs.map (endZ σ) = genL (fun i => endZ σ (zs.getD i default)) zs.length := by
            rw [← z6a (endZ σ) (fun i => zs.getD i default), wbx]
          have e2 : ∀ (f g : Nat → Bd) (n : Nat), (∀ i, i < n → f i = g i) → genL f n = genL g n := fun f g n => by
            induction n with
            | zero => intro _; rfl
            | succ n ih => intro h; rw [genL, genL, ih (fun i hi => h i (by omega)), h n (by omega)]
          rw [e1]
          refine e2 _ _ _ (fun i hi => ?_)
          show (⟨_, _⟩ : Bd) = ⟨_, _⟩
          rw [hk2 i hi]
        clear hr hR hz4 nil3
        generalize x.pl ⟨⟨[]⟩⟩ = z0 at p0 L
        refine CallsD.run [] Go.Proofs.Tryz.func8 rfl rfl rfl ?_; simp only [Go.Proofs.Tryz.f8]; refine hgR ?_
        repeat' ((first | refine hfk ?_ ?_ <;> intros | refine hik ?_ | with_reducible first | refine v6l (s1) ?_ | refine vgi (s1) ?_ | refine v6l (f1) ?_ | refine vgi (f1) ?_ | refine v6l (o1) ?_ | refine vgi (o1) ?_ | refine v6l (p0) ?_ | refine vgi (p0) ?_) <;> refine hgS ?_)
        all_goals try (exfalso; omega)
        all_goals try exact RLe.ofEq rfl
        refine y55 [1, 2, 5, 6] (fun n : Nat => [(8, .one (.dat (cI n)))]) (fun _ => [.box ((exC x).map .dat) (some 24), .box ((ivC v).map .dat) (some 35)]) (fun n => n ≤ zs.length ∧ ∀ j, j < n → x.pl (zs.getD j default).name ≤ 1) (fun n => zs.length - n) 0 ⟨Nat.zero_le _, fun j hj => by omega⟩ ?_ ?_
        · refine hg ?_
          exact StH.same svl rfl
        rintro n ⟨hn, hj⟩
        refine hg ?_
        refine vnx (fun hlt _ => ?_) (fun hlt _ => ?_)
        · have hlt' : n < zs.length := by omega
          have c1 := cp (zs.getD n default).name
          have hnext := fun a => xf4 (p := fun j => x.pl (zs.getD j default).name ≤ 1) hj a
          clear cp L met hj
          generalize x.pl (zs.getD n default).name = z at c1 hnext
          refine hg ?_
          repeat' ((first | refine hfk ?_ ?_ <;> intros | refine hik ?_ | with_reducible first | refine v6l (c1) ?_ | refine vgi (c1) ?_) <;> refine hgS ?_)
          all_goals first
            | (exfalso; omega)
            | exact RLe.ofEq rfl
            | exact ⟨n + 1, ⟨by omega, hnext (by omega)⟩, by omega, StH.same svl rfl⟩
        · have e : n = zs.length := by omega
          subst e
          obtain ⟨w, hw, m1, m2⟩ := L (by omega) (fun z hz => by
            obtain ⟨i, hi, rfl⟩ := xpi hz
            exact hj i hi)
          cases hw
          have m1 := met _ (zlo k1) m1
          have m2 := met _ (zhi k1) m2
          clear cp L met hj
          refine hg ?_
          repeat' ((first | refine hfk ?_ ?_ <;> intros | refine hik ?_ | with_reducible first | refine v6l (m1) ?_ | refine vgi (m1) ?_ | refine v6l (m2) ?_ | refine vgi (m2) ?_) <;> refine hgS ?_)
          exact RLe.ofEq rfl
  · refine CallsD.run [] Go.Proofs.Tryz.func8 rfl rfl rfl ?_; simp only [Go.Proofs.Tryz.f8]; refine hgR ?_
    repeat' ((first | refine hfk ?_ ?_ <;> intros | refine hik ?_ | with_reducible first | refine v6l (s1) ?_ | refine vgi (s1) ?_ | refine v6l (f1) ?_ | refine vgi (f1) ?_) <;> refine hgS ?_)
    all_goals first
      | (exfalso; omega)
      | exact RLe.ofEq rfl
end Go.Hp.T
