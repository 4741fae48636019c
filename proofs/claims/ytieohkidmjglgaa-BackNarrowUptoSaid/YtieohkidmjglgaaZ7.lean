import Derived.Test.YtieohkidmjglgaaZ6
/- Contracts of package kitbagref04: times, over. -/
namespace Go.Slot.T
open Go Go.RowKit Go.Slot
open Go.Proofs.Try (prog)
set_option maxRecDepth 10000
set_option maxHeartbeats 4000000

theorem rTimes (a b : List Int) (ha : digits a) (hb : digits b) (la : a.length ≤ 1073741824) (lb : b.length ≤ 1073741824) :
    CallsTo prog 107 [.one (.ints .i64 a), .one (.ints .i64 b)] (.one (.ints .i64 (dig (num a * num b).toNat))) := by
  refine CallsTo.run [(9, [.join]), (12, [.frz 15])] Go.Proofs.Try.func107 rfl rfl ?_; conv => simp (maxSteps := 2000000) (disch := omega) only [go_sem, Nat.reduceAdd, Nat.reduceSub, Nat.reduceMul, Int.reduceToNat, Nat.reduceEqDiff, Nat.reduceBEq, Nat.reduceBneDiff, Go.Proofs.Try.f107, List.replicate]
  refine loopo [0, 1, 4] (fun x : Nat × List Int => [(5, .asl 15), (6, .one (.raw (.int .i64 x.1))), (15, .arr [] (.ints .i64 x.2) none)])
    (fun x => x.1 ≤ a.length ∧ x.2.length = a.length + b.length ∧ digits x.2 ∧ zeroFrom x.2 (x.1 + b.length) ∧ num x.2 = num (a.take x.1) * num b)
    (fun x => a.length - x.1) (0, List.replicate ((a.length : Int) + b.length).toNat 0)
    ⟨Nat.zero_le _, by simp; omega, digits.rep _, (zeroFrom.rep _).mono (Nat.zero_le _), by simp [num, num_rep]⟩ ?_ ?_
  · conv => simp (maxSteps := 2000000) (disch := omega) only [go_sem, Nat.reduceAdd, Nat.reduceSub, Nat.reduceMul, Int.reduceToNat, Nat.reduceEqDiff, Nat.reduceBEq, Nat.reduceBneDiff]
    exact StLe.weaken (by repeat' first | exact .nil | refine .cons (by first | exact .refl _ | exact .any _) ?_) rfl
  rintro ⟨i, o⟩ ⟨hi, ho, hdo, hz, hn⟩
  simp only at hi ho hdo hz hn
  conv => simp (maxSteps := 2000000) (disch := omega) only [go_sem, Nat.reduceAdd, Nat.reduceSub, Nat.reduceMul, Int.reduceToNat, Nat.reduceEqDiff, Nat.reduceBEq, Nat.reduceBneDiff]
  refine condd (fun h => ?_) (fun h => ?_)
  · conv => simp (maxSteps := 2000000) (disch := omega) only [go_sem, Nat.reduceAdd, Nat.reduceSub, Nat.reduceMul, Int.reduceToNat, Nat.reduceEqDiff, Nat.reduceBEq, Nat.reduceBneDiff]
    have hai := ha.getD i
    refine loopo [0, 1, 4, 5, 6] (fun x : Nat × List Int × Int => [(7, .one (.raw (.int .i64 x.2.2))), (8, .one (.raw (.int .i64 x.1))), (15, .arr [] (.ints .i64 x.2.1) none)])
      (fun x => x.1 ≤ b.length + 1 ∧ x.2.1.length = a.length + b.length ∧ digits x.2.1 ∧ zeroFrom x.2.1 (i + max x.1 b.length) ∧ (0 ≤ x.2.2 ∧ x.2.2 ≤ 1048575) ∧ (b.length < x.1 → x.2.2 = 0) ∧
        num x.2.1 + 1048576 ^ (i + x.1) * x.2.2 = num (a.take i) * num b + 1048576 ^ i * (a.getD i 0 * num (b.take x.1)))
      (fun x => b.length + 1 - x.1) (0, o, 0)
      ⟨Nat.zero_le _, ho, hdo, hz.mono (by simp), by simp, by simp, by simp [num, hn]⟩ ?_ ?_
    · conv => simp (maxSteps := 2000000) (disch := omega) only [go_sem, Nat.reduceAdd, Nat.reduceSub, Nat.reduceMul, Int.reduceToNat, Nat.reduceEqDiff, Nat.reduceBEq, Nat.reduceBneDiff]
      exact StLe.weaken (by repeat' first | exact .nil | refine .cons (by first | exact .refl _ | exact .any _) ?_) rfl
    rintro ⟨k, o', c⟩ ⟨hk, ho', hdo', hz', hc, hc0, hn'⟩
    simp only at hk ho' hdo' hz' hc hc0 hn'
    conv => simp (maxSteps := 2000000) (disch := omega) only [go_sem, Nat.reduceAdd, Nat.reduceSub, Nat.reduceMul, Int.reduceToNat, Nat.reduceEqDiff, Nat.reduceBEq, Nat.reduceBneDiff]
    refine joino [0, 1, 4, 5, 6, 7, 8, 15] (fun _ : Unit => []) (fun _ => k < b.length ∨ 0 < c) ?_ ?_
    · conv => simp (maxSteps := 2000000) (disch := omega) only [go_sem, Nat.reduceAdd, Nat.reduceSub, Nat.reduceMul, Int.reduceToNat, Nat.reduceEqDiff, Nat.reduceBEq, Nat.reduceBneDiff]
      refine guardn (fun h1 => ?_) (fun h1 => ?_)
      · conv => simp (maxSteps := 2000000) (disch := omega) only [go_sem, Nat.reduceAdd, Nat.reduceSub, Nat.reduceMul, Int.reduceToNat, Nat.reduceEqDiff, Nat.reduceBEq, Nat.reduceBneDiff, h1]
        refine condd (fun h3 => ?_) (fun h3 => ?_)
        · conv => simp (maxSteps := 2000000) (disch := omega) only [go_sem, Nat.reduceAdd, Nat.reduceSub, Nat.reduceMul, Int.reduceToNat, Nat.reduceEqDiff, Nat.reduceBEq, Nat.reduceBneDiff]
          exact ⟨(), .inr h3, StLe.weaken (by repeat' first | exact .nil | refine .cons (by first | exact .refl _ | exact .any _) ?_) rfl⟩
        · have hc1 : c = 0 := by omega
          rw [take_ge (l := b) (i := k) (by omega), hc1, Int.mul_zero, Int.add_zero] at hn'
          conv => simp (maxSteps := 2000000) (disch := omega) only [go_sem, Nat.reduceAdd, Nat.reduceSub, Nat.reduceMul, Int.reduceToNat, Nat.reduceEqDiff, Nat.reduceBEq, Nat.reduceBneDiff]
          refine ⟨(i + 1, o'), ⟨by dsimp only; omega, ho', hdo', ?_, ?_⟩, by dsimp only; omega, StLe.weaken (by repeat' first | exact .nil | refine .cons (by first | exact .refl _ | exact .any _) ?_) rfl⟩
          · dsimp only
            exact hz'.mono (by omega)
          · dsimp only
            rw [hn', num_take_succ]
            grind
      · have h1' := decide_eq_true h1
        conv => simp (maxSteps := 2000000) (disch := omega) only [go_sem, Nat.reduceAdd, Nat.reduceSub, Nat.reduceMul, Int.reduceToNat, Nat.reduceEqDiff, Nat.reduceBEq, Nat.reduceBneDiff, h1']
        exact ⟨(), .inl (by omega), StLe.weaken (by repeat' first | exact .nil | refine .cons (by first | exact .refl _ | exact .any _) ?_) rfl⟩
    rintro _ hgo
    have hkb : k ≤ b.length := by
      rcases Nat.lt_or_ge b.length k with h | h
      · have := hc0 h; omega
      · exact h
    have hbk := hb.getD k
    have hok := hdo'.getD (i + k)
    have hprod : 0 ≤ a.getD i 0 * b.getD k 0 ∧ a.getD i 0 * b.getD k 0 ≤ 1048575 * 1048575 := ⟨Int.mul_nonneg hai.1 hbk.1, Int.mul_le_mul hai.2 hbk.2 hbk.1 (by decide)⟩
    have eik : ((i : Int) + k).toNat = i + k := by omega
    have ho0 : b.length ≤ k → o'.getD (i + k) 0 = 0 ∧ b.getD k 0 = 0 := fun h => ⟨hz' _ (by omega), getD_ge h⟩
    conv => simp (maxSteps := 2000000) (disch := omega) only [go_sem, Nat.reduceAdd, Nat.reduceSub, Nat.reduceMul, Int.reduceToNat, Nat.reduceEqDiff, Nat.reduceBEq, Nat.reduceBneDiff, eik]
    refine callk (rDigit b k (by omega) (by omega)) ?_
    conv => simp (maxSteps := 2000000) (disch := omega) only [go_sem, Nat.reduceAdd, Nat.reduceSub, Nat.reduceMul, Int.reduceToNat, Nat.reduceEqDiff, Nat.reduceBEq, Nat.reduceBneDiff, eik]
    refine indk (by kernel_rfl) ?_
    conv => simp (maxSteps := 2000000) (disch := omega) only [go_sem, Nat.reduceAdd, Nat.reduceSub, Nat.reduceMul, Int.reduceToNat, Nat.reduceEqDiff, Nat.reduceBEq, Nat.reduceBneDiff, eik]
    have hc0' : b.length ≤ k → (o'.getD (i + k) 0 + a.getD i 0 * b.getD k 0 + c) / 1048576 = 0 := fun h => by
      obtain ⟨e1, e2⟩ := ho0 h
      rw [e1, e2]; omega
    generalize hs : o'.getD (i + k) 0 + a.getD i 0 * b.getD k 0 + c = s at *
    have hm : s.tmod 1048576 = s % 1048576 := Int.tmod_eq_emod_of_nonneg (by omega)
    have hq : s.tdiv 1048576 = s / 1048576 := Int.tdiv_eq_ediv_of_nonneg (by omega)
    have h2 := carry_set (o := o') (i := i + k) (by omega) s
    conv => simp (maxSteps := 2000000) (disch := omega) only [go_sem, Nat.reduceAdd, Nat.reduceSub, Nat.reduceMul, Int.reduceToNat, Nat.reduceEqDiff, Nat.reduceBEq, Nat.reduceBneDiff, hm, hq, eik]
    refine ⟨(k + 1, o'.set (i + k) (s % 1048576), s / 1048576),
      ⟨by dsimp only; omega, by simpa using ho', hdo'.set _ (by omega), ?_, by dsimp only; omega, fun h => hc0' (by dsimp only at h; omega), ?_⟩, by dsimp only; omega, ?_⟩
    · dsimp only
      rcases Nat.lt_or_ge k b.length with h | h
      · rw [show max (k + 1) b.length = max k b.length by omega]
        exact hz'.set_lt _ (by omega)
      · rw [show i + max (k + 1) b.length = i + max k b.length + 1 by omega, show i + k = i + max k b.length by omega]
        exact hz'.set _
    · dsimp only
      rw [num_take_succ, show i + (k + 1) = i + k + 1 by omega, h2, ← hs, Int.pow_add]
      rw [Int.pow_add] at hn'
      grind
    · exact StLe.weaken (by repeat' first | exact .nil | refine .cons (by first | exact .refl _ | exact .any _) ?_) rfl
  · have hia : i = a.length := by omega
    subst hia
    rw [List.take_length] at hn
    conv => simp (maxSteps := 2000000) (disch := omega) only [go_sem, Nat.reduceAdd, Nat.reduceSub, Nat.reduceMul, Int.reduceToNat, Nat.reduceEqDiff, Nat.reduceBEq, Nat.reduceBneDiff]
    refine callk (rTrim o (by omega)) ?_
    conv => simp (maxSteps := 2000000) (disch := omega) only [go_sem, Nat.reduceAdd, Nat.reduceSub, Nat.reduceMul, Int.reduceToNat, Nat.reduceEqDiff, Nat.reduceBEq, Nat.reduceBneDiff]
    exact ⟨_, rfl, by rw [trimL_eq' hdo hn]; exact .one (.refl _)⟩
theorem trimL_one {x : Int} (h : 0 ≤ x ∧ x ≤ 1048575) : trimL [x] = dig x.toNat := trimL_eq' (digits.cons h digits.nil) (by simp [num])
theorem rOver (x y : Nat) (hy : y ≠ 0) (la : (dig x).length ≤ 536870912) (lb : (dig y).length ≤ 536870912) :
    CallsTo prog 102 [.one (.ints .i64 (dig x)), .one (.ints .i64 (dig y))] (.tup [.one (.ints .i64 (dig (x / y))), .one (.ints .i64 (dig (x % y)))]) := by
  have hnx := num_dig x
  have ha := dig_digits x
  have hny := num_dig y
  have hb := dig_digits y
  generalize dig x = a at *
  refine CallsTo.run [(6, [.lit]), (16, [.frz 14])] Go.Proofs.Try.func102 rfl rfl ?_; conv => simp (maxSteps := 2000000) (disch := omega) only [go_sem, Nat.reduceAdd, Nat.reduceSub, Nat.reduceMul, Int.reduceToNat, Nat.reduceEqDiff, Nat.reduceBEq, Nat.reduceBneDiff, Go.Proofs.Try.f102, List.replicate]
  refine loopo [0, 1] (fun z : Nat × List Int × Nat => [(6, .asl 14), (7, .one (.ints .i64 (dig z.2.2))), (8, .one (.raw (.int .i64 ((z.1 : Int) - 1)))), (14, .arr [] (.ints .i64 z.2.1) none)])
    (fun z => z.1 ≤ a.length ∧ z.2.1.length = a.length ∧ digits z.2.1 ∧ z.2.2 < y ∧ num (a.drop z.1) = y * num (z.2.1.drop z.1) + z.2.2) (fun z => z.1) (a.length, List.replicate (a.length : Int).toNat 0, 0)
    ⟨Nat.le_refl _, by simp, digits.rep _, Nat.pos_of_ne_zero hy, by simp [num]⟩ ?_ ?_
  · conv => simp (maxSteps := 2000000) (disch := omega) only [go_sem, Nat.reduceAdd, Nat.reduceSub, Nat.reduceMul, Int.reduceToNat, Nat.reduceEqDiff, Nat.reduceBEq, Nat.reduceBneDiff, dig_zero]
    exact StLe.weaken (by repeat' first | exact .nil | refine .cons (by first | exact .refl _ | exact .any _ | exact .one (.nilInts _)) ?_) rfl
  rintro ⟨n, q, R⟩ ⟨hn, hq, hdq, hR, he⟩
  simp only at hn hq hdq hR he
  have hlR : (dig R).length ≤ 536870912 := Nat.le_trans (dig_len_le (by omega)) lb
  conv => simp (maxSteps := 2000000) (disch := omega) only [go_sem, Nat.reduceAdd, Nat.reduceSub, Nat.reduceMul, Int.reduceToNat, Nat.reduceEqDiff, Nat.reduceBEq, Nat.reduceBneDiff]
  refine condd (fun h => ?_) (fun h => ?_)
  · obtain ⟨i, rfl⟩ : ∃ i, n = i + 1 := ⟨n - 1, by omega⟩
    have ei : ((i + 1 : Nat) : Int) - 1 = (i : Nat) := by omega
    have hai := ha.getD i
    obtain ⟨S, hS⟩ : ∃ S : Nat, (S : Int) = a.getD i 0 + 1048576 * R := ⟨(a.getD i 0 + 1048576 * R).toNat, by omega⟩
    have hSl : trimL (a.getD i 0 :: dig R) = dig S := by
      have := trimL_eq' (L := a.getD i 0 :: dig R) (n := S) (digits.cons hai (dig_digits R)) (by simp only [num, num_dig]; omega)
      rwa [Int.toNat_natCast] at this
    have hlS : (dig S).length ≤ 536870913 := by
      rw [← hSl]
      refine Nat.le_trans (trimL_le _) ?_
      simp only [List.length_cons]; omega
    have hSy : (S : Int) < 1048576 * y := by omega
    conv => simp (maxSteps := 2000000) (disch := omega) only [go_sem, Nat.reduceAdd, Nat.reduceSub, Nat.reduceMul, Int.reduceToNat, Nat.reduceEqDiff, Nat.reduceBEq, Nat.reduceBneDiff, ei]
    refine callk (rTrim (a.getD i 0 :: dig R) (by simp only [List.length_cons]; omega)) ?_
    rw [hSl]
    conv => simp (maxSteps := 2000000) (disch := omega) only [go_sem, Nat.reduceAdd, Nat.reduceSub, Nat.reduceMul, Int.reduceToNat, Nat.reduceEqDiff, Nat.reduceBEq, Nat.reduceBneDiff, ei]
    refine loopo [0, 1, 6, 7, 8] (fun z : Int × Int => [(9, .one (.raw (.int .i64 z.1))), (10, .one (.raw (.int .i64 z.2)))])
      (fun z => 0 ≤ z.1 ∧ z.1 < z.2 ∧ z.2 ≤ 1048576 ∧ z.1 * y ≤ S ∧ S < z.2 * y) (fun z => (z.2 - z.1).toNat) (0, 1048576) ⟨by simp, by decide, by simp, by simp, by simp; omega⟩ ?_ ?_
    · conv => simp (maxSteps := 2000000) (disch := omega) only [go_sem, Nat.reduceAdd, Nat.reduceSub, Nat.reduceMul, Int.reduceToNat, Nat.reduceEqDiff, Nat.reduceBEq, Nat.reduceBneDiff]
      exact StLe.weaken (by repeat' first | exact .nil | refine .cons (by first | exact .refl _ | exact .any _) ?_) rfl
    rintro ⟨lo, hi⟩ ⟨h0, h1, h2, h3, h4⟩
    simp only at h0 h1 h2 h3 h4
    conv => simp (maxSteps := 2000000) (disch := omega) only [go_sem, Nat.reduceAdd, Nat.reduceSub, Nat.reduceMul, Int.reduceToNat, Nat.reduceEqDiff, Nat.reduceBEq, Nat.reduceBneDiff]
    refine condd (fun h5 => ?_) (fun h5 => ?_)
    · have hm2 : (lo + hi).tdiv 2 = (lo + hi) / 2 := Int.tdiv_eq_ediv_of_nonneg (by omega)
      conv => simp (maxSteps := 2000000) (disch := omega) only [go_sem, Nat.reduceAdd, Nat.reduceSub, Nat.reduceMul, Int.reduceToNat, Nat.reduceEqDiff, Nat.reduceBEq, Nat.reduceBneDiff, hm2]
      generalize hmid : (lo + hi) / 2 = mid at *
      obtain ⟨m, hm⟩ : ∃ m : Nat, (m : Int) = mid := ⟨mid.toNat, by omega⟩
      have hT : (num (dig y) * num [mid]).toNat = y * m := by rw [hny]; simp only [num]; rw [← hm, Int.mul_zero, Int.add_zero, ← Int.natCast_mul]; rfl
      have hlT : (dig (y * m)).length ≤ 1073741824 := by
        have := dig_len_mul y m
        have : (dig m).length ≤ 4 := dig_small (by omega)
        omega
      refine callk (rTimes (dig y) [mid] hb (digits.cons (by omega) digits.nil) (by omega) (by simp)) ?_
      rw [hT]
      conv => simp (maxSteps := 2000000) (disch := omega) only [go_sem, Nat.reduceAdd, Nat.reduceSub, Nat.reduceMul, Int.reduceToNat, Nat.reduceEqDiff, Nat.reduceBEq, Nat.reduceBneDiff]
      refine callk (rLess (dig S) (dig (y * m)) (dig_digits _) (dig_digits _) (by omega) (by omega)) ?_
      rw [num_dig, num_dig]
      have hym : ((y * m : Nat) : Int) = mid * y := by rw [Int.natCast_mul, hm, Int.mul_comm]
      rw [hym]
      conv => simp (maxSteps := 2000000) (disch := omega) only [go_sem, Nat.reduceAdd, Nat.reduceSub, Nat.reduceMul, Int.reduceToNat, Nat.reduceEqDiff, Nat.reduceBEq, Nat.reduceBneDiff]
      refine condd (fun h6 => ?_) (fun h6 => ?_)
      · conv => simp (maxSteps := 2000000) (disch := omega) only [go_sem, Nat.reduceAdd, Nat.reduceSub, Nat.reduceMul, Int.reduceToNat, Nat.reduceEqDiff, Nat.reduceBEq, Nat.reduceBneDiff]
        exact ⟨(lo, mid), ⟨h0, by dsimp only; omega, by dsimp only; omega, h3, h6⟩, by dsimp only; omega, StLe.weaken (by repeat' first | exact .nil | refine .cons (by first | exact .refl _ | exact .any _) ?_) rfl⟩
      · conv => simp (maxSteps := 2000000) (disch := omega) only [go_sem, Nat.reduceAdd, Nat.reduceSub, Nat.reduceMul, Int.reduceToNat, Nat.reduceEqDiff, Nat.reduceBEq, Nat.reduceBneDiff]
        exact ⟨(mid, hi), ⟨by dsimp only; omega, by dsimp only; omega, h2, by dsimp only; omega, h4⟩, by dsimp only; omega, StLe.weaken (by repeat' first | exact .nil | refine .cons (by first | exact .refl _ | exact .any _) ?_) rfl⟩
    · have hlo : hi = lo + 1 := by omega
      subst hlo
      obtain ⟨l, hl⟩ : ∃ l : Nat, (l : Int) = lo := ⟨lo.toNat, by omega⟩
      have hlo1 : lo.toNat = l := by omega
      have hT : (num (dig y) * num (dig l)).toNat = y * l := by rw [hny, num_dig, ← Int.natCast_mul]; rfl
      have hyl : ((y * l : Nat) : Int) = lo * y := by rw [Int.natCast_mul, hl, Int.mul_comm]
      have hll : (dig l).length ≤ 4 := dig_small (by omega)
      rw [Int.add_mul, Int.one_mul] at h4
      conv => simp (maxSteps := 2000000) (disch := omega) only [go_sem, Nat.reduceAdd, Nat.reduceSub, Nat.reduceMul, Int.reduceToNat, Nat.reduceEqDiff, Nat.reduceBEq, Nat.reduceBneDiff, ei]
      refine callk (rTrim [lo] (by simp)) ?_
      rw [trimL_one (by omega), hlo1]
      conv => simp (maxSteps := 2000000) (disch := omega) only [go_sem, Nat.reduceAdd, Nat.reduceSub, Nat.reduceMul, Int.reduceToNat, Nat.reduceEqDiff, Nat.reduceBEq, Nat.reduceBneDiff, ei]
      refine callk (rTimes (dig y) (dig l) hb (dig_digits _) (by omega) (by omega)) ?_
      rw [hT]
      conv => simp (maxSteps := 2000000) (disch := omega) only [go_sem, Nat.reduceAdd, Nat.reduceSub, Nat.reduceMul, Int.reduceToNat, Nat.reduceEqDiff, Nat.reduceBEq, Nat.reduceBneDiff, ei]
      refine callk (rMinus S (y * l) (by omega) (by omega)) ?_
      conv => simp (maxSteps := 2000000) (disch := omega) only [go_sem, Nat.reduceAdd, Nat.reduceSub, Nat.reduceMul, Int.reduceToNat, Nat.reduceEqDiff, Nat.reduceBEq, Nat.reduceBneDiff, ei]
      refine ⟨(i, q.set i lo, S - y * l), ⟨by dsimp only; omega, by simpa using hq, hdq.set _ (by omega), by dsimp only; omega, ?_⟩, by dsimp only; omega, StLe.weaken (by repeat' first | exact .nil | refine .cons (by first | exact .refl _ | exact .any _) ?_) rfl⟩
      dsimp only
      rw [drop_set_self _ (by omega), num_drop, he]
      simp only [num]
      rw [Int.natCast_sub (by omega), hyl, hS]
      grind
  · have h0 : n = 0 := by omega
    subst h0
    simp only [List.drop_zero] at he
    rw [hnx] at he
    have hq0 := num_nonneg hdq
    obtain ⟨Q, hQ⟩ : ∃ Q : Nat, (Q : Int) = num q := ⟨(num q).toNat, by omega⟩
    rw [← hQ] at he
    have hxx : x = y * Q + R := by rw [← Int.natCast_mul] at he; omega
    have e1 : x / y = Q := by rw [hxx, Nat.mul_add_div (by omega), Nat.div_eq_of_lt hR]; omega
    have e2 : x % y = R := by rw [hxx, Nat.mul_add_mod, Nat.mod_eq_of_lt hR]
    have e3 : trimL q = dig Q := by have := trimL_eq' hdq hQ.symm; rwa [Int.toNat_natCast] at this
    rw [e1, e2]
    conv => simp (maxSteps := 2000000) (disch := omega) only [go_sem, Nat.reduceAdd, Nat.reduceSub, Nat.reduceMul, Int.reduceToNat, Nat.reduceEqDiff, Nat.reduceBEq, Nat.reduceBneDiff]
    refine callk (rTrim q (by omega)) ?_
    rw [e3]
    conv => simp (maxSteps := 2000000) (disch := omega) only [go_sem, Nat.reduceAdd, Nat.reduceSub, Nat.reduceMul, Int.reduceToNat, Nat.reduceEqDiff, Nat.reduceBEq, Nat.reduceBneDiff]
    exact ⟨_, rfl, .tup (.cons (.refl _) (.cons (.refl _) .nil))⟩
end Go.Slot.T

/- Contracts of package kitbagref04: Right, Neg, Div, Gcd, Of. -/
namespace Go.Slot.T
open Go Go.RowKit Go.Slot
open Go.Proofs.Try (prog)
set_option maxRecDepth 10000
set_option maxHeartbeats 4000000

theorem rRight (s : Int) (L : List Int) (hL : L.length ≤ 1099511627776) : CallsTo prog 97 [.agg [.raw (.int .i64 s), .ints .i64 L]] (.one (.raw (.bool (decide (BigRight s L))))) := by
  obtain ⟨r, hr⟩ : ∃ r, r = decide (BigRight s L) := ⟨_, rfl⟩
  rw [← hr]
  have bad : ¬ BigRight s L → false = r := fun h => by rw [hr, decide_eq_false h]
  refine CallsTo.run [] Go.Proofs.Try.func97 rfl rfl ?_; conv => simp (maxSteps := 2000000) (disch := omega) only [go_sem, Nat.reduceAdd, Nat.reduceSub, Nat.reduceMul, Int.reduceToNat, Nat.reduceEqDiff, Nat.reduceBEq, Nat.reduceBneDiff, Go.Proofs.Try.f97, List.replicate]
  refine loopo [] (fun i : Nat => [(3, .one (.raw (.int .i64 i)))])
    (fun i => i ≤ L.length ∧ digits (L.take i)) (fun i => L.length - i) 0 ⟨Nat.zero_le _, by simp [digits]⟩ ?_ ?_
  · conv => simp (maxSteps := 2000000) (disch := omega) only [go_sem, Nat.reduceAdd, Nat.reduceSub, Nat.reduceMul, Int.reduceToNat, Nat.reduceEqDiff, Nat.reduceBEq, Nat.reduceBneDiff]
    exact StLe.weaken (by repeat' first | exact .nil | refine .cons (by first | exact .refl _ | exact .any _) ?_) rfl
  rintro i ⟨hi, hd⟩
  conv => simp (maxSteps := 2000000) (disch := omega) only [go_sem, Nat.reduceAdd, Nat.reduceSub, Nat.reduceMul, Int.reduceToNat, Nat.reduceEqDiff, Nat.reduceBEq, Nat.reduceBneDiff]
  refine condd (fun h => ?_) (fun h => ?_)
  · have hi' : i < L.length := by omega
    have hget : L.getD i 0 = L[i] := by simp [hi']
    have hmem : L[i] ∈ L := List.getElem_mem hi'
    have hbad : ¬ (0 ≤ L.getD i 0 ∧ L.getD i 0 ≤ 1048575) → false = r := fun hn => bad (fun hr => hn (by rw [hget]; exact hr.1 _ hmem))
    conv => simp (maxSteps := 2000000) (disch := omega) only [go_sem, Nat.reduceAdd, Nat.reduceSub, Nat.reduceMul, Int.reduceToNat, Nat.reduceEqDiff, Nat.reduceBEq, Nat.reduceBneDiff]
    refine guardn (fun h1 => ?_) (fun h1 => ?_)
    · conv => simp (maxSteps := 2000000) (disch := omega) only [go_sem, Nat.reduceAdd, Nat.reduceSub, Nat.reduceMul, Int.reduceToNat, Nat.reduceEqDiff, Nat.reduceBEq, Nat.reduceBneDiff, h1]
      refine condd (fun h2 => ?_) (fun h2 => ?_)
      · conv => simp (maxSteps := 2000000) (disch := omega) only [go_sem, Nat.reduceAdd, Nat.reduceSub, Nat.reduceMul, Int.reduceToNat, Nat.reduceEqDiff, Nat.reduceBEq, Nat.reduceBneDiff]
        exact ⟨_, rfl, by rw [hbad (by omega)]; exact .one (.refl _)⟩
      · conv => simp (maxSteps := 2000000) (disch := omega) only [go_sem, Nat.reduceAdd, Nat.reduceSub, Nat.reduceMul, Int.reduceToNat, Nat.reduceEqDiff, Nat.reduceBEq, Nat.reduceBneDiff]
        refine ⟨i + 1, ⟨by omega, ?_⟩, by omega, StLe.weaken (by repeat' first | exact .nil | refine .cons (by first | exact .refl _ | exact .any _) ?_) rfl⟩
        intro x hx
        rw [List.take_add_one, List.mem_append] at hx
        rcases hx with hx | hx
        · exact hd x hx
        · simp [hi'] at hx
          subst hx
          rw [← hget]; omega
    · have h1' := decide_eq_true h1
      conv => simp (maxSteps := 2000000) (disch := omega) only [go_sem, Nat.reduceAdd, Nat.reduceSub, Nat.reduceMul, Int.reduceToNat, Nat.reduceEqDiff, Nat.reduceBEq, Nat.reduceBneDiff, h1']
      exact ⟨_, rfl, by rw [hbad (by omega)]; exact .one (.refl _)⟩
  · have hi' : i = L.length := by omega
    have hdig : digits L := by rw [hi', List.take_length] at hd; exact hd
    conv => simp (maxSteps := 2000000) (disch := omega) only [go_sem, Nat.reduceAdd, Nat.reduceSub, Nat.reduceMul, Int.reduceToNat, Nat.reduceEqDiff, Nat.reduceBEq, Nat.reduceBneDiff]
    refine guardn (fun h1 => ?_) (fun h1 => ?_)
    · conv => simp (maxSteps := 2000000) (disch := omega) only [go_sem, Nat.reduceAdd, Nat.reduceSub, Nat.reduceMul, Int.reduceToNat, Nat.reduceEqDiff, Nat.reduceBEq, Nat.reduceBneDiff, h1]
      refine guardn (fun h2 => ?_) (fun h2 => ?_)
      · by_cases h3 : (L.length : Int) = 0
        · have hnil : L = [] := by have : L.length = 0 := by omega
                                   simpa using this
          have h3' := decide_eq_true h3
          by_cases h4 : s = 0
          · have h4' := decide_eq_true h4
            have e : true = r := by rw [hr, decide_eq_true (show BigRight s L from ⟨hdig, .inl ⟨hnil, h4⟩⟩)]
            conv => simp (maxSteps := 2000000) (disch := omega) only [go_sem, Nat.reduceAdd, Nat.reduceSub, Nat.reduceMul, Int.reduceToNat, Nat.reduceEqDiff, Nat.reduceBEq, Nat.reduceBneDiff, h2, h3', h4']
            exact ⟨_, rfl, by rw [e]; exact .one (.refl _)⟩
          · have h4' := decide_eq_false h4
            conv => simp (maxSteps := 2000000) (disch := omega) only [go_sem, Nat.reduceAdd, Nat.reduceSub, Nat.reduceMul, Int.reduceToNat, Nat.reduceEqDiff, Nat.reduceBEq, Nat.reduceBneDiff, h2, h3', h4']
            exact ⟨_, rfl, by rw [bad (fun hb => by rcases hb.2 with h | h; exact h4 h.2; exact h.1 hnil)]; exact .one (.refl _)⟩
        · have h3' := decide_eq_false h3
          have hne : L ≠ [] := fun e => h3 (by rw [e]; rfl)
          have hpos : 0 < L.length := List.length_pos_iff.2 hne
          by_cases h4 : s = 0
          · have h4' := decide_eq_true h4
            conv => simp (maxSteps := 2000000) (disch := omega) only [go_sem, Nat.reduceAdd, Nat.reduceSub, Nat.reduceMul, Int.reduceToNat, Nat.reduceEqDiff, Nat.reduceBEq, Nat.reduceBneDiff, h2, h3', h4']
            exact ⟨_, rfl, by rw [bad (fun hb => by rcases hb.2 with h | h; exact hne h.1; omega)]; exact .one (.refl _)⟩
          · have h4' := decide_eq_false h4
            have hlast : decide (L.getD (L.length - 1) 0 ≠ 0) = r := by
              rw [hr]
              apply decide_eq_decide.2
              simp only [BigRight]
              constructor
              · exact fun h4 => ⟨hdig, .inr ⟨hne, by omega, h4⟩⟩
              · rintro ⟨_, ⟨h4, _⟩ | ⟨_, _, h4⟩⟩
                · exact absurd h4 hne
                · exact h4
            have e : ((L.length : Int) - 1).toNat = L.length - 1 := by omega
            conv => simp (maxSteps := 2000000) (disch := omega) only [go_sem, Nat.reduceAdd, Nat.reduceSub, Nat.reduceMul, Int.reduceToNat, Nat.reduceEqDiff, Nat.reduceBEq, Nat.reduceBneDiff, h2, h3', h4', e]
            exact ⟨_, rfl, by rw [hlast]; exact .one (.refl _)⟩
      · have h2' := decide_eq_true h2
        conv => simp (maxSteps := 2000000) (disch := omega) only [go_sem, Nat.reduceAdd, Nat.reduceSub, Nat.reduceMul, Int.reduceToNat, Nat.reduceEqDiff, Nat.reduceBEq, Nat.reduceBneDiff, h2']
        exact ⟨_, rfl, by rw [bad (fun hb => by rcases hb.2 with h | h <;> omega)]; exact .one (.refl _)⟩
    · have h1' := decide_eq_true h1
      conv => simp (maxSteps := 2000000) (disch := omega) only [go_sem, Nat.reduceAdd, Nat.reduceSub, Nat.reduceMul, Int.reduceToNat, Nat.reduceEqDiff, Nat.reduceBEq, Nat.reduceBneDiff, h1']
      exact ⟨_, rfl, by rw [bad (fun hb => by rcases hb.2 with h | h <;> omega)]; exact .one (.refl _)⟩
theorem rRightZ (z : Int) (hz : okZ z) : CallsTo prog 97 [.agg [.raw (.int .i64 (sg z)), .ints .i64 (dig z.natAbs)]] (.one (.raw (.bool true))) := by
  have h := rRight (sg z) (dig z.natAbs) (by omega)
  rw [decide_eq_true (bigRight_z z)] at h
  exact h
theorem rNegZ (x : Int) (hx : okZ x) :
    CallsTo prog 98 [.agg [.raw (.int .i64 (sg x)), .ints .i64 (dig x.natAbs)]] (.agg [.raw (.int .i64 (sg (-x))), .ints .i64 (dig (-x).natAbs)]) := by
  have sx := sg_cases x
  have e : (-x).natAbs = x.natAbs := by omega
  have hs := rMadeZ (0 - sg x) (-x) (by rw [e]; omega) (by omega)
  rw [e] at hs ⊢
  refine CallsTo.run [] Go.Proofs.Try.func98 rfl rfl ?_; conv => simp (maxSteps := 2000000) (disch := omega) only [go_sem, Nat.reduceAdd, Nat.reduceSub, Nat.reduceMul, Int.reduceToNat, Nat.reduceEqDiff, Nat.reduceBEq, Nat.reduceBneDiff, Go.Proofs.Try.f98, List.replicate]
  refine callk (rRightZ x hx) ?_
  conv => simp (maxSteps := 2000000) (disch := omega) only [go_sem, Nat.reduceAdd, Nat.reduceSub, Nat.reduceMul, Int.reduceToNat, Nat.reduceEqDiff, Nat.reduceBEq, Nat.reduceBneDiff]
  refine callk hs ?_
  conv => simp (maxSteps := 2000000) (disch := omega) only [go_sem, Nat.reduceAdd, Nat.reduceSub, Nat.reduceMul, Int.reduceToNat, Nat.reduceEqDiff, Nat.reduceBEq, Nat.reduceBneDiff]
  exact ⟨_, rfl, .one (.refl _)⟩
theorem rGcdZ (x y : Int) (hx : okZ x) (hy : okZ y) :
    CallsTo prog 99 [.agg [.raw (.int .i64 (sg x)), .ints .i64 (dig x.natAbs)], .agg [.raw (.int .i64 (sg y)), .ints .i64 (dig y.natAbs)]]
      (.tup [.agg [.raw (.int .i64 (sg (Int.gcd x y : Int))), .ints .i64 (dig (Int.gcd x y : Int).natAbs)], .one (.raw (.int .i64 0))]) := by
  refine CallsTo.run [] Go.Proofs.Try.func99 rfl rfl ?_; conv => simp (maxSteps := 2000000) (disch := omega) only [go_sem, Nat.reduceAdd, Nat.reduceSub, Nat.reduceMul, Int.reduceToNat, Nat.reduceEqDiff, Nat.reduceBEq, Nat.reduceBneDiff, Go.Proofs.Try.f99, List.replicate]
  refine callk (rRightZ x hx) ?_
  conv => simp (maxSteps := 2000000) (disch := omega) only [go_sem, Nat.reduceAdd, Nat.reduceSub, Nat.reduceMul, Int.reduceToNat, Nat.reduceEqDiff, Nat.reduceBEq, Nat.reduceBneDiff]
  refine callk (rRightZ y hy) ?_
  conv => simp (maxSteps := 2000000) (disch := omega) only [go_sem, Nat.reduceAdd, Nat.reduceSub, Nat.reduceMul, Int.reduceToNat, Nat.reduceEqDiff, Nat.reduceBEq, Nat.reduceBneDiff]
  refine loopo [5] (fun p : Nat × Nat => [(6, .one (.ints .i64 (dig p.1))), (7, .one (.ints .i64 (dig p.2)))])
    (fun p => Nat.gcd p.1 p.2 = Int.gcd x y ∧ (dig p.1).length ≤ 268435456 ∧ (dig p.2).length ≤ 268435456) (fun p => p.2) (x.natAbs, y.natAbs) ⟨rfl, hx, hy⟩ ?_ ?_
  · conv => simp (maxSteps := 2000000) (disch := omega) only [go_sem, Nat.reduceAdd, Nat.reduceSub, Nat.reduceMul, Int.reduceToNat, Nat.reduceEqDiff, Nat.reduceBEq, Nat.reduceBneDiff]
    exact StLe.weaken (by repeat' first | exact .nil | refine .cons (by first | exact .refl _ | exact .any _) ?_) rfl
  rintro ⟨m, n⟩ ⟨hg, hm, hn⟩
  simp only at hg hm hn
  conv => simp (maxSteps := 2000000) (disch := omega) only [go_sem, Nat.reduceAdd, Nat.reduceSub, Nat.reduceMul, Int.reduceToNat, Nat.reduceEqDiff, Nat.reduceBEq, Nat.reduceBneDiff]
  refine condd (fun h => ?_) (fun h => ?_)
  · have hn0 : n ≠ 0 := fun e => by rw [e, dig_zero] at h; simp at h
    conv => simp (maxSteps := 2000000) (disch := omega) only [go_sem, Nat.reduceAdd, Nat.reduceSub, Nat.reduceMul, Int.reduceToNat, Nat.reduceEqDiff, Nat.reduceBEq, Nat.reduceBneDiff]
    refine callk (rOver m n hn0 (by omega) (by omega)) ?_
    conv => simp (maxSteps := 2000000) (disch := omega) only [go_sem, Nat.reduceAdd, Nat.reduceSub, Nat.reduceMul, Int.reduceToNat, Nat.reduceEqDiff, Nat.reduceBEq, Nat.reduceBneDiff]
    refine ⟨(n, m % n), ⟨?_, hn, Nat.le_trans (dig_len_le (Nat.mod_le _ _)) hm⟩, Nat.mod_lt _ (by omega), StLe.weaken (by repeat' first | exact .nil | refine .cons (by first | exact .refl _ | exact .any _) ?_) rfl⟩
    dsimp only
    rw [← hg, Nat.gcd_comm n, ← Nat.gcd_rec, Nat.gcd_comm]
  · have hn0 : n = 0 := dig_nil.1 (List.eq_nil_of_length_eq_zero (by omega))
    subst hn0
    rw [Nat.gcd_zero_right] at hg
    have e : (Int.gcd x y : Int).natAbs = m := by rw [← hg]; rfl
    have hs := rMadeZ 1 (Int.gcd x y : Int) (by rw [e]; omega) (.inl ⟨rfl, by omega⟩)
    rw [e] at hs ⊢
    conv => simp (maxSteps := 2000000) (disch := omega) only [go_sem, Nat.reduceAdd, Nat.reduceSub, Nat.reduceMul, Int.reduceToNat, Nat.reduceEqDiff, Nat.reduceBEq, Nat.reduceBneDiff]
    refine callk hs ?_
    conv => simp (maxSteps := 2000000) (disch := omega) only [go_sem, Nat.reduceAdd, Nat.reduceSub, Nat.reduceMul, Int.reduceToNat, Nat.reduceEqDiff, Nat.reduceBEq, Nat.reduceBneDiff]
    exact ⟨_, rfl, .tup (.cons (.refl _) (.cons (.refl _) .nil))⟩
theorem rDivZ (x y : Int) (hx : okZ x) (hy : okZ y) (hy0 : 0 < y) :
    CallsTo prog 100 [.agg [.raw (.int .i64 (sg x)), .ints .i64 (dig x.natAbs)], .agg [.raw (.int .i64 (sg y)), .ints .i64 (dig y.natAbs)]]
      (.tup [.agg [.raw (.int .i64 (sg (x / y))), .ints .i64 (dig (x / y).natAbs)], .agg [.raw (.int .i64 (sg (x % y))), .ints .i64 (dig (x % y).natAbs)], .one (.raw (.int .i64 0))]) := by
  have sx := sg_cases x
  have sy := sg_pos hy0
  have hn := Nat.div_add_mod x.natAbs y.natAbs
  have hr := Nat.mod_lt x.natAbs (show 0 < y.natAbs by omega)
  have hqx := Nat.div_le_self x.natAbs y.natAbs
  have hrx := Nat.mod_le x.natAbs y.natAbs
  have hlq := dig_len_le hqx
  have hlr := dig_len_le hrx
  have hcd := rOver x.natAbs y.natAbs (by omega) (by omega) (by omega)
  generalize hQ : x.natAbs / y.natAbs = Q at *
  generalize hR : x.natAbs % y.natAbs = R at *
  have hyQ : ((y.natAbs * Q : Nat) : Int) = y * Q := by rw [Int.natCast_mul]; congr 1; omega
  have eR := num_dig R
  have eQ := num_dig Q
  have ey := num_abs y
  have hlQ1 := dig_len_add Q 1
  have h1l : (dig 1).length = 1 := by rw [dig_pos (by decide), dig_zero]; rfl
  refine CallsTo.run [] Go.Proofs.Try.func100 rfl rfl ?_; conv => simp (maxSteps := 2000000) (disch := omega) only [go_sem, Nat.reduceAdd, Nat.reduceSub, Nat.reduceMul, Int.reduceToNat, Nat.reduceEqDiff, Nat.reduceBEq, Nat.reduceBneDiff, Go.Proofs.Try.f100, List.replicate]
  refine callk (rRightZ x hx) ?_
  conv => simp (maxSteps := 2000000) (disch := omega) only [go_sem, Nat.reduceAdd, Nat.reduceSub, Nat.reduceMul, Int.reduceToNat, Nat.reduceEqDiff, Nat.reduceBEq, Nat.reduceBneDiff]
  refine callk (rRightZ y hy) ?_
  conv => simp (maxSteps := 2000000) (disch := omega) only [go_sem, Nat.reduceAdd, Nat.reduceSub, Nat.reduceMul, Int.reduceToNat, Nat.reduceEqDiff, Nat.reduceBEq, Nat.reduceBneDiff]
  refine condd (fun h => absurd h (by omega)) (fun _ => ?_)
  conv => simp (maxSteps := 2000000) (disch := omega) only [go_sem, Nat.reduceAdd, Nat.reduceSub, Nat.reduceMul, Int.reduceToNat, Nat.reduceEqDiff, Nat.reduceBEq, Nat.reduceBneDiff]
  refine callk hcd ?_
  have done : ∀ (s : Int), s = sg x → (0 ≤ x ∨ R = 0) → ((s = 1 ∧ 0 ≤ x / y) ∨ (s = -1 ∧ x / y ≤ 0) ∨ x / y = 0) ∧ ((sg x = 1 ∧ 0 ≤ x % y) ∨ (sg x = -1 ∧ x % y ≤ 0) ∨ x % y = 0) ∧ (x / y).natAbs = Q ∧ (x % y).natAbs = R := fun s hs h => by
    rcases h with h | h
    · obtain ⟨k1, k2⟩ := ediv_of (x := x) (y := y) (q := (Q : Int)) (r := (R : Int)) (by omega) (by omega) (by omega)
      have hQ0 : x = 0 → Q = 0 ∧ R = 0 := fun e => by subst e; simp at hqx hrx; exact ⟨hqx, hrx⟩
      rw [k1, k2, hs]
      refine ⟨?_, ?_, by omega, by omega⟩ <;> omega
    · rcases Int.lt_or_le x 0 with h0 | h0
      · obtain ⟨k1, k2⟩ := ediv_of (x := x) (y := y) (q := -(Q : Int)) (r := 0) (by
          have : y * -(Q : Int) = -(y * Q) := by grind
          omega) (by omega) (by omega)
        rw [k1, k2, hs]
        refine ⟨?_, ?_, by omega, by omega⟩ <;> omega
      · obtain ⟨k1, k2⟩ := ediv_of (x := x) (y := y) (q := (Q : Int)) (r := (R : Int)) (by omega) (by omega) (by omega)
        have hQ0 : x = 0 → Q = 0 ∧ R = 0 := fun e => by subst e; simp at hqx hrx; exact ⟨hqx, hrx⟩
        rw [k1, k2, hs]
        refine ⟨?_, ?_, by omega, by omega⟩ <;> omega
  have plain : (0 ≤ x ∨ R = 0) → CallsTo prog 101 [.one (.raw (.int .i64 (sg x))), .one (.ints .i64 (dig Q))] (.agg [.raw (.int .i64 (sg (x / y))), .ints .i64 (dig (x / y).natAbs)]) ∧
      CallsTo prog 101 [.one (.raw (.int .i64 (sg x))), .one (.ints .i64 (dig R))] (.agg [.raw (.int .i64 (sg (x % y))), .ints .i64 (dig (x % y).natAbs)]) := fun h => by
    obtain ⟨d1, d2, m1, m2⟩ := done _ rfl h
    have hs1 := rMadeZ (sg x) (x / y) (by rw [m1]; omega) d1
    have hs2 := rMadeZ (sg x) (x % y) (by rw [m2]; omega) d2
    rw [m1] at hs1 ⊢; rw [m2] at hs2 ⊢
    exact ⟨hs1, hs2⟩
  conv => simp (maxSteps := 2000000) (disch := omega) only [go_sem, Nat.reduceAdd, Nat.reduceSub, Nat.reduceMul, Int.reduceToNat, Nat.reduceEqDiff, Nat.reduceBEq, Nat.reduceBneDiff, sy, Int.mul_one]
  refine guardn (fun h1 => ?_) (fun h1 => ?_)
  · have hx0 : x < 0 := by omega
    conv => simp (maxSteps := 2000000) (disch := omega) only [go_sem, Nat.reduceAdd, Nat.reduceSub, Nat.reduceMul, Int.reduceToNat, Nat.reduceEqDiff, Nat.reduceBEq, Nat.reduceBneDiff, h1, sy, Int.mul_one]
    refine condd (fun h2 => ?_) (fun h2 => ?_)
    · have hR0 : R = 0 := dig_nil.1 (List.eq_nil_of_length_eq_zero (by omega))
      obtain ⟨hs1, hs2⟩ := plain (.inr hR0)
      conv => simp (maxSteps := 2000000) (disch := omega) only [go_sem, Nat.reduceAdd, Nat.reduceSub, Nat.reduceMul, Int.reduceToNat, Nat.reduceEqDiff, Nat.reduceBEq, Nat.reduceBneDiff, sy, Int.mul_one]
      refine callk hs1 ?_
      conv => simp (maxSteps := 2000000) (disch := omega) only [go_sem, Nat.reduceAdd, Nat.reduceSub, Nat.reduceMul, Int.reduceToNat, Nat.reduceEqDiff, Nat.reduceBEq, Nat.reduceBneDiff]
      refine callk hs2 ?_
      conv => simp (maxSteps := 2000000) (disch := omega) only [go_sem, Nat.reduceAdd, Nat.reduceSub, Nat.reduceMul, Int.reduceToNat, Nat.reduceEqDiff, Nat.reduceBEq, Nat.reduceBneDiff]
      refine indk (by kernel_rfl) ?_
      conv => simp (maxSteps := 2000000) (disch := omega) only [go_sem, Nat.reduceAdd, Nat.reduceSub, Nat.reduceMul, Int.reduceToNat, Nat.reduceEqDiff, Nat.reduceBEq, Nat.reduceBneDiff]
      exact ⟨_, rfl, .tup (.cons (.refl _) (.cons (.refl _) (.cons (.refl _) .nil)))⟩
    · have hR0 : R ≠ 0 := fun e => by rw [e, dig_zero] at h2; simp at h2
      obtain ⟨k1, k2⟩ := ediv_of (x := x) (y := y) (q := -((Q : Int) + 1)) (r := y - R) (by
        have : y * -((Q : Int) + 1) = -(y * Q) - y := by grind
        omega) (by omega) (by omega)
      have m1 : (x / y).natAbs = Q + 1 := by rw [k1]; omega
      have m2 : (x % y).natAbs = y.natAbs - R := by rw [k2]; omega
      have m3 : (num (dig Q) + num [1]).toNat = Q + 1 := by rw [eQ]; simp [num]
      have hA := rPlus (dig Q) [1] (dig_digits _) (digits.cons (by decide) digits.nil) (by omega) (by simp)
      rw [m3, ← m1] at hA
      have hS := rMinus y.natAbs R (by omega) (by omega)
      rw [← m2] at hS
      have hs1 := rMadeZ (-1) (x / y) (by rw [m1]; omega) (by rw [k1]; omega)
      have hs2 := rMadeZ 1 (x % y) (by rw [m2]; have := dig_len_le (show y.natAbs - R ≤ y.natAbs by omega); omega) (by rw [k2]; omega)
      conv => simp (maxSteps := 2000000) (disch := omega) only [go_sem, Nat.reduceAdd, Nat.reduceSub, Nat.reduceMul, Int.reduceToNat, Nat.reduceEqDiff, Nat.reduceBEq, Nat.reduceBneDiff, sy, Int.mul_one]
      refine callk hA ?_
      conv => simp (maxSteps := 2000000) (disch := omega) only [go_sem, Nat.reduceAdd, Nat.reduceSub, Nat.reduceMul, Int.reduceToNat, Nat.reduceEqDiff, Nat.reduceBEq, Nat.reduceBneDiff]
      refine callk hs1 ?_
      conv => simp (maxSteps := 2000000) (disch := omega) only [go_sem, Nat.reduceAdd, Nat.reduceSub, Nat.reduceMul, Int.reduceToNat, Nat.reduceEqDiff, Nat.reduceBEq, Nat.reduceBneDiff, sy]
      refine callk hS ?_
      conv => simp (maxSteps := 2000000) (disch := omega) only [go_sem, Nat.reduceAdd, Nat.reduceSub, Nat.reduceMul, Int.reduceToNat, Nat.reduceEqDiff, Nat.reduceBEq, Nat.reduceBneDiff]
      refine callk hs2 ?_
      conv => simp (maxSteps := 2000000) (disch := omega) only [go_sem, Nat.reduceAdd, Nat.reduceSub, Nat.reduceMul, Int.reduceToNat, Nat.reduceEqDiff, Nat.reduceBEq, Nat.reduceBneDiff]
      refine indk (by kernel_rfl) ?_
      conv => simp (maxSteps := 2000000) (disch := omega) only [go_sem, Nat.reduceAdd, Nat.reduceSub, Nat.reduceMul, Int.reduceToNat, Nat.reduceEqDiff, Nat.reduceBEq, Nat.reduceBneDiff]
      exact ⟨_, rfl, .tup (.cons (.refl _) (.cons (.refl _) (.cons (.refl _) .nil)))⟩
  · have h1' := decide_eq_true h1
    obtain ⟨hs1, hs2⟩ := plain (.inl (by omega))
    conv => simp (maxSteps := 2000000) (disch := omega) only [go_sem, Nat.reduceAdd, Nat.reduceSub, Nat.reduceMul, Int.reduceToNat, Nat.reduceEqDiff, Nat.reduceBEq, Nat.reduceBneDiff, h1', sy, Int.mul_one]
    refine callk hs1 ?_
    conv => simp (maxSteps := 2000000) (disch := omega) only [go_sem, Nat.reduceAdd, Nat.reduceSub, Nat.reduceMul, Int.reduceToNat, Nat.reduceEqDiff, Nat.reduceBEq, Nat.reduceBneDiff]
    refine callk hs2 ?_
    conv => simp (maxSteps := 2000000) (disch := omega) only [go_sem, Nat.reduceAdd, Nat.reduceSub, Nat.reduceMul, Int.reduceToNat, Nat.reduceEqDiff, Nat.reduceBEq, Nat.reduceBneDiff]
    refine indk (by kernel_rfl) ?_
    conv => simp (maxSteps := 2000000) (disch := omega) only [go_sem, Nat.reduceAdd, Nat.reduceSub, Nat.reduceMul, Int.reduceToNat, Nat.reduceEqDiff, Nat.reduceBEq, Nat.reduceBneDiff]
    exact ⟨_, rfl, .tup (.cons (.refl _) (.cons (.refl _) (.cons (.refl _) .nil)))⟩
theorem rOf (n : Int) (hn : inI n) : CallsTo prog 82 [.one (.raw (.int .i64 n))] (.agg [.raw (.int .i64 (sg n)), .ints .i64 (dig n.natAbs)]) := by
  unfold inI at hn
  refine CallsTo.run [(6, [.join]), (11, [.join])] Go.Proofs.Try.func82 rfl rfl ?_; conv => simp (maxSteps := 2000000) (disch := omega) only [go_sem, Nat.reduceAdd, Nat.reduceSub, Nat.reduceMul, Int.reduceToNat, Nat.reduceEqDiff, Nat.reduceBEq, Nat.reduceBneDiff, Go.Proofs.Try.f82, List.replicate]
  refine condd (fun h0 => ?_) (fun h0 => ?_)
  · subst h0
    conv => simp (maxSteps := 2000000) (disch := omega) only [go_sem, Nat.reduceAdd, Nat.reduceSub, Nat.reduceMul, Int.reduceToNat, Nat.reduceEqDiff, Nat.reduceBEq, Nat.reduceBneDiff]
    exact ⟨_, rfl, by rw [show (0 : Int).natAbs = 0 from rfl, dig_zero]; exact .one (.agg (.cons (.refl _) (.cons (.zcInts _) .nil)))⟩
  conv => simp (maxSteps := 2000000) (disch := omega) only [go_sem, Nat.reduceAdd, Nat.reduceSub, Nat.reduceMul, Int.reduceToNat, Nat.reduceEqDiff, Nat.reduceBEq, Nat.reduceBneDiff]
  refine joino [0] (fun s : Int => [(3, .one (.raw (.int .i64 s)))]) (fun s => (s = 1 ∧ 0 ≤ n) ∨ (s = -1 ∧ n < 0)) ?_ ?_
  · conv => simp (maxSteps := 2000000) (disch := omega) only [go_sem, Nat.reduceAdd, Nat.reduceSub, Nat.reduceMul, Int.reduceToNat, Nat.reduceEqDiff, Nat.reduceBEq, Nat.reduceBneDiff]
    refine condd (fun h => ?_) (fun h => ?_)
    · conv => simp (maxSteps := 2000000) (disch := omega) only [go_sem, Nat.reduceAdd, Nat.reduceSub, Nat.reduceMul, Int.reduceToNat, Nat.reduceEqDiff, Nat.reduceBEq, Nat.reduceBneDiff]
      exact ⟨-1, .inr ⟨rfl, h⟩, StLe.weaken (by repeat' first | exact .nil | refine .cons (by first | exact .refl _ | exact .any _) ?_) rfl⟩
    · conv => simp (maxSteps := 2000000) (disch := omega) only [go_sem, Nat.reduceAdd, Nat.reduceSub, Nat.reduceMul, Int.reduceToNat, Nat.reduceEqDiff, Nat.reduceBEq, Nat.reduceBneDiff]
      exact ⟨1, .inl ⟨rfl, by omega⟩, StLe.weaken (by repeat' first | exact .nil | refine .cons (by first | exact .refl _ | exact .any _) ?_) rfl⟩
  rintro s hs
  have hsN : n = s * (n.natAbs : Int) := by rcases hs with ⟨rfl, h⟩ | ⟨rfl, h⟩ <;> omega
  have hN : (n.natAbs : Int) ≤ 9223372036854775808 := by omega
  have hss : s = 1 ∨ s = -1 := by rcases hs with h | h; exact .inl h.1; exact .inr h.1
  have hmod : ∀ u : Int, 0 ≤ u → (s * u).tmod 1048576 = s * (u % 1048576) ∧ (s * u).tdiv 1048576 = s * (u / 1048576) := fun u hu => by
    rcases hss with rfl | rfl
    · rw [Int.one_mul, Int.one_mul, Int.one_mul]
      exact ⟨Int.tmod_eq_emod_of_nonneg hu, Int.tdiv_eq_ediv_of_nonneg hu⟩
    · rw [Int.neg_mul, Int.neg_mul, Int.neg_mul, Int.one_mul, Int.one_mul, Int.one_mul, Int.neg_tmod, Int.neg_tdiv]
      exact ⟨by rw [Int.tmod_eq_emod_of_nonneg hu], by rw [Int.tdiv_eq_ediv_of_nonneg hu]⟩
  conv => simp (maxSteps := 2000000) (disch := omega) only [go_sem, Nat.reduceAdd, Nat.reduceSub, Nat.reduceMul, Int.reduceToNat, Nat.reduceEqDiff, Nat.reduceBEq, Nat.reduceBneDiff]
  refine loopo [3] (fun x : Nat × List Int × Int => [(0, .one (.raw (.int .i64 (s * x.2.2)))), (4, .one (.tok 22 (.ints .i64 x.2.1)))])
    (fun x => x.2.1.length = x.1 ∧ x.1 ≤ 4 ∧ digits x.2.1 ∧ 0 ≤ x.2.2 ∧ num x.2.1 + 1048576 ^ x.1 * x.2.2 = n.natAbs) (fun x => x.2.2.toNat) (0, [], n.natAbs)
    ⟨rfl, Nat.zero_le _, digits.nil, by simp, by simp [num]⟩ ?_ ?_
  · refine StLe.trans (StLe.tokI 4 22 (.ints .i64 []) rfl rfl rfl) ?_
    conv => simp (maxSteps := 2000000) (disch := omega) only [go_sem, Nat.reduceAdd, Nat.reduceSub, Nat.reduceMul, Int.reduceToNat, Nat.reduceEqDiff, Nat.reduceBEq, Nat.reduceBneDiff]
    rw [← hsN]
    exact StLe.weaken (by repeat' first | exact .nil | refine .cons (by first | exact .refl _ | exact .any _) ?_) rfl
  rintro ⟨k, l, u⟩ ⟨hl, hk, hd, hu, he⟩
  simp only at hl hk hd hu he
  have hl0 := num_nonneg hd
  have hp := pow_pos' k
  have huN : u ≤ n.natAbs := by
    have := Int.mul_le_mul_of_nonneg_right (show (1 : Int) ≤ 1048576 ^ k by omega) hu
    omega
  conv => simp (maxSteps := 2000000) (disch := omega) only [go_sem, Nat.reduceAdd, Nat.reduceSub, Nat.reduceMul, Int.reduceToNat, Nat.reduceEqDiff, Nat.reduceBEq, Nat.reduceBneDiff]
  refine condd (fun h => ?_) (fun h => ?_)
  · have hu0 : u ≠ 0 := fun e => h (by rw [e, Int.mul_zero])
    have hk3 : k ≤ 3 := by
      rcases Nat.lt_or_ge k 4 with h4 | h4
      · omega
      · have h1 := pow_mono' h4
        have h2 := Int.mul_le_mul_of_nonneg_left (show (1 : Int) ≤ u by omega) (Int.le_of_lt hp)
        have h3 : (1048576 : Int) ^ 4 = 1208925819614629174706176 := by decide
        omega
    obtain ⟨e1, e2⟩ := hmod u hu
    have hm : 0 ≤ u % 1048576 ∧ u % 1048576 ≤ 1048575 := by omega
    have hq : 0 ≤ u / 1048576 ∧ u / 1048576 ≤ 9223372036854775807 := by omega
    have hsm : -9223372036854775808 ≤ s * (u / 1048576) ∧ s * (u / 1048576) ≤ 9223372036854775807 := by rcases hss with rfl | rfl <;> omega
    have hsr : -1048575 ≤ s * (u % 1048576) ∧ s * (u % 1048576) ≤ 1048575 := by rcases hss with rfl | rfl <;> omega
    conv => simp (maxSteps := 2000000) (disch := omega) only [go_sem, Nat.reduceAdd, Nat.reduceSub, Nat.reduceMul, Int.reduceToNat, Nat.reduceEqDiff, Nat.reduceBEq, Nat.reduceBneDiff, e1]
    refine joino [0, 3, 4] (fun _ : Unit => [(5, .one (.raw (.int .i64 (u % 1048576))))]) (fun _ => True) ?_ ?_
    · conv => simp (maxSteps := 2000000) (disch := omega) only [go_sem, Nat.reduceAdd, Nat.reduceSub, Nat.reduceMul, Int.reduceToNat, Nat.reduceEqDiff, Nat.reduceBEq, Nat.reduceBneDiff]
      refine condd (fun h2 => ?_) (fun h2 => ?_)
      · conv => simp (maxSteps := 2000000) (disch := omega) only [go_sem, Nat.reduceAdd, Nat.reduceSub, Nat.reduceMul, Int.reduceToNat, Nat.reduceEqDiff, Nat.reduceBEq, Nat.reduceBneDiff]
        rw [show 0 - s * (u % 1048576) = u % 1048576 by rcases hss with rfl | rfl <;> omega]
        exact ⟨(), StLe.weaken (by repeat' first | exact .nil | refine .cons (by first | exact .refl _ | exact .any _) ?_) rfl⟩
      · conv => simp (maxSteps := 2000000) (disch := omega) only [go_sem, Nat.reduceAdd, Nat.reduceSub, Nat.reduceMul, Int.reduceToNat, Nat.reduceEqDiff, Nat.reduceBEq, Nat.reduceBneDiff]
        rw [show s * (u % 1048576) = u % 1048576 by rcases hss with rfl | rfl <;> omega]
        exact ⟨(), StLe.weaken (by repeat' first | exact .nil | refine .cons (by first | exact .refl _ | exact .any _) ?_) rfl⟩
    rintro _ _
    conv => simp (maxSteps := 2000000) (disch := omega) only [go_sem, Nat.reduceAdd, Nat.reduceSub, Nat.reduceMul, Int.reduceToNat, Nat.reduceEqDiff, Nat.reduceBEq, Nat.reduceBneDiff, e2]
    refine ⟨(k + 1, l ++ [u % 1048576], u / 1048576), ⟨by simp [hl], by dsimp only; omega, hd.append (digits.cons (by omega) digits.nil), by dsimp only; omega, ?_⟩, by dsimp only; omega, StLe.weaken (by repeat' first | exact .nil | refine .cons (by first | exact .refl _ | exact .any _) ?_) rfl⟩
    dsimp only
    rw [num_snoc, hl, Int.pow_succ]
    have h := Int.emod_add_mul_ediv u 1048576
    generalize (1048576 : Int) ^ k = P at *
    generalize u % 1048576 = r at *
    generalize u / 1048576 = q at *
    grind
  · have hu0 : u = 0 := by rcases hss with rfl | rfl <;> omega
    rw [hu0, Int.mul_zero, Int.add_zero] at he
    have e := trimL_eq' hd he
    rw [Int.toNat_natCast] at e
    have hsg := rMade s l (by omega)
    unfold bigC at hsg
    rw [e, ← trimL_dig, zC_of (by omega)] at hsg
    unfold zC at hsg
    conv => simp (maxSteps := 2000000) (disch := omega) only [go_sem, Nat.reduceAdd, Nat.reduceSub, Nat.reduceMul, Int.reduceToNat, Nat.reduceEqDiff, Nat.reduceBEq, Nat.reduceBneDiff]
    refine callk hsg ?_
    conv => simp (maxSteps := 2000000) (disch := omega) only [go_sem, Nat.reduceAdd, Nat.reduceSub, Nat.reduceMul, Int.reduceToNat, Nat.reduceEqDiff, Nat.reduceBEq, Nat.reduceBneDiff]
    exact ⟨_, rfl, .one (.refl _)⟩
end Go.Slot.T

/- Contracts of the small references: kitbagref05 (New, Int, Same, Few), kitbagref10, kitbagref46 (Few, Same). -/
namespace Go.Slot.T
open Go Go.RowKit Go.Slot
open Go.Proofs.Try (prog)
set_option maxRecDepth 10000
set_option maxHeartbeats 4000000

theorem rNewQ (z : Int) (d : Nat) (hz : okZ z) (hd : d ≠ 0) (hl : (dig d).length ≤ 268435456) :
    CallsTo prog 81 [.agg [.raw (.int .i64 (sg z)), .ints .i64 (dig z.natAbs)], .agg [.raw (.int .i64 1), .ints .i64 (dig d)]]
      (.tup [.agg (Fc.of (mkRat z d)).C, .one (.raw (.int .i64 0))]) := by
  obtain ⟨p1, p2, p3⟩ := mkRat_parts z hd
  have hden := sg_den (mkRat z d)
  rw [p2] at hden
  have hden2 : (mkRat z d).den = ((d : Int) / (Int.gcd z d : Int)).natAbs := by omega
  have hgl : okZ (Int.gcd z d : Int) := by
    have : (Int.gcd z d : Int).natAbs ≤ d := by
      have : Int.gcd z d ∣ d := by have := Int.gcd_dvd_natAbs_right z d; simpa using this
      exact Nat.le_of_dvd (Nat.pos_of_ne_zero hd) this
    exact Nat.le_trans (dig_len_le this) hl
  have hr := rRightZ (d : Int) hl
  have hg := rGcdZ z d hz hl
  have hd1 := rDivZ z (Int.gcd z d : Int) hz hgl p3
  have hd2 := rDivZ d (Int.gcd z d : Int) hl hgl p3
  rw [sg_nat hd] at hr hg hd2
  rw [hden] at hd2
  rw [show ((d : Nat) : Int).natAbs = d from rfl] at hr hg hd2
  have hfin : (Fc.of (mkRat z d)).C = [.raw (.int .i64 (sg (z / (Int.gcd z d : Int)))), .ints .i64 (dig (z / (Int.gcd z d : Int)).natAbs), .raw (.int .i64 1), .ints .i64 (dig ((d : Int) / (Int.gcd z d : Int)).natAbs)] := by
    rw [← p1, ← hden2]; rfl
  rw [hfin]
  generalize (Int.gcd z d : Int) = g at *
  refine CallsTo.run [] Go.Proofs.Try.func81 rfl rfl ?_; conv => simp (maxSteps := 2000000) (disch := omega) only [go_sem, Nat.reduceAdd, Nat.reduceSub, Nat.reduceMul, Int.reduceToNat, Nat.reduceEqDiff, Nat.reduceBEq, Nat.reduceBneDiff, Go.Proofs.Try.f81, List.replicate]
  refine callk (rRightZ z hz) ?_
  conv => simp (maxSteps := 2000000) (disch := omega) only [go_sem, Nat.reduceAdd, Nat.reduceSub, Nat.reduceMul, Int.reduceToNat, Nat.reduceEqDiff, Nat.reduceBEq, Nat.reduceBneDiff]
  refine callk hr ?_
  conv => simp (maxSteps := 2000000) (disch := omega) only [go_sem, Nat.reduceAdd, Nat.reduceSub, Nat.reduceMul, Int.reduceToNat, Nat.reduceEqDiff, Nat.reduceBEq, Nat.reduceBneDiff]
  refine condd (fun h => absurd h (by decide)) (fun _ => ?_)
  conv => simp (maxSteps := 2000000) (disch := omega) only [go_sem, Nat.reduceAdd, Nat.reduceSub, Nat.reduceMul, Int.reduceToNat, Nat.reduceEqDiff, Nat.reduceBEq, Nat.reduceBneDiff]
  refine condd (fun h => absurd h (by decide)) (fun _ => ?_)
  conv => simp (maxSteps := 2000000) (disch := omega) only [go_sem, Nat.reduceAdd, Nat.reduceSub, Nat.reduceMul, Int.reduceToNat, Nat.reduceEqDiff, Nat.reduceBEq, Nat.reduceBneDiff]
  refine callk hg ?_
  conv => simp (maxSteps := 2000000) (disch := omega) only [go_sem, Nat.reduceAdd, Nat.reduceSub, Nat.reduceMul, Int.reduceToNat, Nat.reduceEqDiff, Nat.reduceBEq, Nat.reduceBneDiff]
  refine callk hd1 ?_
  conv => simp (maxSteps := 2000000) (disch := omega) only [go_sem, Nat.reduceAdd, Nat.reduceSub, Nat.reduceMul, Int.reduceToNat, Nat.reduceEqDiff, Nat.reduceBEq, Nat.reduceBneDiff]
  refine callk hd2 ?_
  conv => simp (maxSteps := 2000000) (disch := omega) only [go_sem, Nat.reduceAdd, Nat.reduceSub, Nat.reduceMul, Int.reduceToNat, Nat.reduceEqDiff, Nat.reduceBEq, Nat.reduceBneDiff]
  exact ⟨_, rfl, .tup (.cons (.refl _) (.cons (.refl _) .nil))⟩
theorem mkRat_one (n : Int) : mkRat n 1 = (n : Rat) := by
  refine Rat.ext ?_ ?_
  · rw [Rat.num_mkRat, if_neg (by decide)]; simp
  · rw [Rat.den_mkRat, if_neg (by decide)]; simp
theorem inI_ok {n : Int} (h : inI n) : okZ n := by
  have : (dig n.natAbs).length ≤ 4 := dig_small (by unfold inI at h; omega)
  unfold okZ; omega
theorem rIntF (n : Int) (hn : inI n) : CallsTo prog 16 [.one (.raw (.int .i64 n))] (.agg (Fc.of (n : Rat)).C) := by
  have h1 := rOf 1 (by decide)
  rw [show sg 1 = 1 from rfl] at h1
  have hN := rNewQ n 1 (inI_ok hn) (by decide) (by have := dig_small (n := 1) (by decide); omega)
  rw [mkRat_one] at hN
  have hof : CallsTo prog 51 [.one (.raw (.int .i64 n)), .one (.raw (.int .i64 1))] (.tup [.agg (Fc.of (n : Rat)).C, .one (.raw (.int .i64 0))]) := by
    refine CallsTo.run [] Go.Proofs.Try.func51 rfl rfl ?_; conv => simp (maxSteps := 2000000) (disch := omega) only [go_sem, Nat.reduceAdd, Nat.reduceSub, Nat.reduceMul, Int.reduceToNat, Nat.reduceEqDiff, Nat.reduceBEq, Nat.reduceBneDiff, Go.Proofs.Try.f51, List.replicate]
    refine callk (rOf n hn) ?_
    conv => simp (maxSteps := 2000000) (disch := omega) only [go_sem, Nat.reduceAdd, Nat.reduceSub, Nat.reduceMul, Int.reduceToNat, Nat.reduceEqDiff, Nat.reduceBEq, Nat.reduceBneDiff]
    refine callk h1 ?_
    conv => simp (maxSteps := 2000000) (disch := omega) only [go_sem, Nat.reduceAdd, Nat.reduceSub, Nat.reduceMul, Int.reduceToNat, Nat.reduceEqDiff, Nat.reduceBEq, Nat.reduceBneDiff]
    refine callk hN ?_
    conv => simp (maxSteps := 2000000) (disch := omega) only [go_sem, Nat.reduceAdd, Nat.reduceSub, Nat.reduceMul, Int.reduceToNat, Nat.reduceEqDiff, Nat.reduceBEq, Nat.reduceBneDiff]
    exact ⟨_, rfl, .tup (.cons (.refl _) (.cons (.refl _) .nil))⟩
  refine CallsTo.run [] Go.Proofs.Try.func16 rfl rfl ?_; conv => simp (maxSteps := 2000000) (disch := omega) only [go_sem, Nat.reduceAdd, Nat.reduceSub, Nat.reduceMul, Int.reduceToNat, Nat.reduceEqDiff, Nat.reduceBEq, Nat.reduceBneDiff, Go.Proofs.Try.f16, List.replicate]
  refine callk hof ?_
  conv => simp (maxSteps := 2000000) (disch := omega) only [go_sem, Nat.reduceAdd, Nat.reduceSub, Nat.reduceMul, Int.reduceToNat, Nat.reduceEqDiff, Nat.reduceBEq, Nat.reduceBneDiff]
  exact ⟨_, rfl, .one (.refl _)⟩
theorem rFew (f : Fc) (n : Int) (_h1 : f.L.length ≤ 1099511627776) (_h2 : f.M.length ≤ 1099511627776) :
    CallsTo prog 9 [.agg f.C, .one (.raw (.int .i64 n))] (.one (.raw (.bool (decide ((f.sz : Int) ≤ n))))) := by
  have e : ((f.sz : Nat) : Int) = max (f.L.length : Int) f.M.length := by unfold Fc.sz; omega
  refine CallsTo.run [] Go.Proofs.Try.func9 rfl rfl ?_; conv => simp (maxSteps := 2000000) (disch := omega) only [go_sem, Nat.reduceAdd, Nat.reduceSub, Nat.reduceMul, Int.reduceToNat, Nat.reduceEqDiff, Nat.reduceBEq, Nat.reduceBneDiff, Go.Proofs.Try.f9, List.replicate]
  refine guardd (fun h => ?_) (fun h => ?_)
  · have h' := decide_eq_true h
    conv => simp (maxSteps := 2000000) (disch := omega) only [go_sem, Nat.reduceAdd, Nat.reduceSub, Nat.reduceMul, Int.reduceToNat, Nat.reduceEqDiff, Nat.reduceBEq, Nat.reduceBneDiff, h']
    exact ⟨_, rfl, by rw [show decide ((f.sz : Int) ≤ n) = decide ((f.M.length : Int) ≤ n) from decide_eq_decide.2 (by omega)]; exact .one (.refl _)⟩
  · have h' := decide_eq_false h
    conv => simp (maxSteps := 2000000) (disch := omega) only [go_sem, Nat.reduceAdd, Nat.reduceSub, Nat.reduceMul, Int.reduceToNat, Nat.reduceEqDiff, Nat.reduceBEq, Nat.reduceBneDiff, h']
    exact ⟨_, rfl, by rw [decide_eq_false (by omega)]; exact .one (.refl _)⟩
theorem rFew4 (f : Fc) (h1 : f.L.length ≤ 1099511627776) (h2 : f.M.length ≤ 1099511627776) :
    CallsTo prog 9 [.agg f.C, .one (.raw (.int .i64 4))] (.one (.raw (.bool (decide (f.sz ≤ 4))))) := by
  have := rFew f 4 h1 h2
  rwa [decide_eq_decide.2 (show (f.sz : Int) ≤ 4 ↔ f.sz ≤ 4 by omega)] at this
theorem rSameBig (s : Int) (L : List Int) (s' : Int) (M : List Int) (lL : L.length ≤ 1073741824) (_lM : M.length ≤ 1073741824) :
    CallsTo prog 56 [.agg [.raw (.int .i64 s), .ints .i64 L], .agg [.raw (.int .i64 s'), .ints .i64 M]] (.one (.raw (.bool (decide (s = s' ∧ L = M))))) := by
  obtain ⟨r, hr⟩ : ∃ r, r = decide (s = s' ∧ L = M) := ⟨_, rfl⟩
  rw [← hr]
  have bad : ¬ (s = s' ∧ L = M) → false = r := fun h => by rw [hr, decide_eq_false h]
  by_cases h1 : s = s'
  · subst h1
    by_cases h2 : (L.length : Int) = M.length
    · have hl : L.length = M.length := by omega
      have h2' : ¬ ((L.length : Int) ≠ M.length) := fun h => h h2
      refine CallsTo.run [] Go.Proofs.Try.func56 rfl rfl ?_; conv => simp (maxSteps := 2000000) (disch := omega) only [go_sem, Nat.reduceAdd, Nat.reduceSub, Nat.reduceMul, Int.reduceToNat, Nat.reduceEqDiff, Nat.reduceBEq, Nat.reduceBneDiff, Go.Proofs.Try.f56, List.replicate]
      refine condd (fun h => absurd h h2') (fun _ => ?_)
      conv => simp (maxSteps := 2000000) (disch := omega) only [go_sem, Nat.reduceAdd, Nat.reduceSub, Nat.reduceMul, Int.reduceToNat, Nat.reduceEqDiff, Nat.reduceBEq, Nat.reduceBneDiff]
      refine loopo [] (fun i : Nat => [(5, .one (.raw (.int .i64 i)))]) (fun i => i ≤ L.length ∧ L.take i = M.take i) (fun i => L.length - i) 0 ⟨Nat.zero_le _, rfl⟩ ?_ ?_
      · conv => simp (maxSteps := 2000000) (disch := omega) only [go_sem, Nat.reduceAdd, Nat.reduceSub, Nat.reduceMul, Int.reduceToNat, Nat.reduceEqDiff, Nat.reduceBEq, Nat.reduceBneDiff]
        exact StLe.weaken (by repeat' first | exact .nil | refine .cons (by first | exact .refl _ | exact .any _) ?_) rfl
      rintro i ⟨hi, he⟩
      conv => simp (maxSteps := 2000000) (disch := omega) only [go_sem, Nat.reduceAdd, Nat.reduceSub, Nat.reduceMul, Int.reduceToNat, Nat.reduceEqDiff, Nat.reduceBEq, Nat.reduceBneDiff]
      refine condd (fun h1 => ?_) (fun h1 => ?_)
      · have hg : ∀ (l : List Int), i < l.length → l.take (i + 1) = l.take i ++ [l.getD i 0] := fun l h => take_snoc 0 h
        conv => simp (maxSteps := 2000000) (disch := omega) only [go_sem, Nat.reduceAdd, Nat.reduceSub, Nat.reduceMul, Int.reduceToNat, Nat.reduceEqDiff, Nat.reduceBEq, Nat.reduceBneDiff]
        refine indk (by kernel_rfl) ?_
        conv => simp (maxSteps := 2000000) (disch := omega) only [go_sem, Nat.reduceAdd, Nat.reduceSub, Nat.reduceMul, Int.reduceToNat, Nat.reduceEqDiff, Nat.reduceBEq, Nat.reduceBneDiff]
        refine condd (fun h2 => ?_) (fun h2 => ?_)
        · conv => simp (maxSteps := 2000000) (disch := omega) only [go_sem, Nat.reduceAdd, Nat.reduceSub, Nat.reduceMul, Int.reduceToNat, Nat.reduceEqDiff, Nat.reduceBEq, Nat.reduceBneDiff]
          exact ⟨_, rfl, by rw [bad (fun e => h2 (by rw [e.2]))]; exact .one (.refl _)⟩
        · have h2 : L.getD i 0 = M.getD i 0 := by omega
          conv => simp (maxSteps := 2000000) (disch := omega) only [go_sem, Nat.reduceAdd, Nat.reduceSub, Nat.reduceMul, Int.reduceToNat, Nat.reduceEqDiff, Nat.reduceBEq, Nat.reduceBneDiff]
          refine ⟨i + 1, ⟨by omega, ?_⟩, by omega, StLe.weaken (by repeat' first | exact .nil | refine .cons (by first | exact .refl _ | exact .any _) ?_) rfl⟩
          rw [hg L (by omega), hg M (by omega), he, h2]
      · have hi : i = L.length := by omega
        subst hi
        rw [List.take_length, hl, List.take_length] at he
        have e : true = r := by rw [hr, decide_eq_true ⟨rfl, he⟩]
        conv => simp (maxSteps := 2000000) (disch := omega) only [go_sem, Nat.reduceAdd, Nat.reduceSub, Nat.reduceMul, Int.reduceToNat, Nat.reduceEqDiff, Nat.reduceBEq, Nat.reduceBneDiff]
        exact ⟨_, rfl, by rw [e]; exact .one (.refl _)⟩
    · have h2 : (L.length : Int) ≠ M.length := h2
      refine CallsTo.run [] Go.Proofs.Try.func56 rfl rfl ?_; conv => simp (maxSteps := 2000000) (disch := omega) only [go_sem, Nat.reduceAdd, Nat.reduceSub, Nat.reduceMul, Int.reduceToNat, Nat.reduceEqDiff, Nat.reduceBEq, Nat.reduceBneDiff, Go.Proofs.Try.f56, List.replicate]
      refine condd (fun _ => ?_) (fun h => absurd h2 h)
      conv => simp (maxSteps := 2000000) (disch := omega) only [go_sem, Nat.reduceAdd, Nat.reduceSub, Nat.reduceMul, Int.reduceToNat, Nat.reduceEqDiff, Nat.reduceBEq, Nat.reduceBneDiff]
      exact ⟨_, rfl, by rw [bad (fun e => h2 (by rw [e.2]))]; exact .one (.refl _)⟩
  · have h1' := decide_eq_true (show s ≠ s' from h1)
    refine CallsTo.run [] Go.Proofs.Try.func56 rfl rfl ?_; conv => simp (maxSteps := 2000000) (disch := omega) only [go_sem, Nat.reduceAdd, Nat.reduceSub, Nat.reduceMul, Int.reduceToNat, Nat.reduceEqDiff, Nat.reduceBEq, Nat.reduceBneDiff, Go.Proofs.Try.f56, List.replicate]
    refine guardn (fun h => absurd h1 h) (fun h => ?_)
    conv => simp (maxSteps := 2000000) (disch := omega) only [go_sem, Nat.reduceAdd, Nat.reduceSub, Nat.reduceMul, Int.reduceToNat, Nat.reduceEqDiff, Nat.reduceBEq, Nat.reduceBneDiff, h1']
    exact ⟨_, rfl, by rw [bad (fun e => h1 e.1)]; exact .one (.refl _)⟩
theorem rSameF (a b : Fc) (ha : a.sz ≤ 67108864) (hb : b.sz ≤ 67108864) : CallsTo prog 22 [.agg a.C, .agg b.C] (.one (.raw (.bool (decide (a = b))))) := by
  have la := szL ha
  have lb := szL hb
  obtain ⟨r, hr⟩ : ∃ r, r = decide (a = b) := ⟨_, rfl⟩
  rw [← hr]
  by_cases h : a.s = b.s ∧ a.L = b.L
  · have h1 := rSameBig a.s a.L b.s b.L (by omega) (by omega)
    rw [decide_eq_true h] at h1
    have h2 := rSameBig a.t a.M b.t b.M (by omega) (by omega)
    have e : decide (a.t = b.t ∧ a.M = b.M) = r := by
      rw [hr]
      apply decide_eq_decide.2
      constructor
      · intro h'; cases a; cases b; simp at h h'; simp [h, h']
      · intro h'; rw [h']; exact ⟨rfl, rfl⟩
    rw [e] at h2
    refine CallsTo.run [] Go.Proofs.Try.func22 rfl rfl ?_; conv => simp (maxSteps := 2000000) (disch := omega) only [go_sem, Nat.reduceAdd, Nat.reduceSub, Nat.reduceMul, Int.reduceToNat, Nat.reduceEqDiff, Nat.reduceBEq, Nat.reduceBneDiff, Go.Proofs.Try.f22, List.replicate]
    refine callk h1 ?_
    conv => simp (maxSteps := 2000000) (disch := omega) only [go_sem, Nat.reduceAdd, Nat.reduceSub, Nat.reduceMul, Int.reduceToNat, Nat.reduceEqDiff, Nat.reduceBEq, Nat.reduceBneDiff]
    refine callk h2 ?_
    conv => simp (maxSteps := 2000000) (disch := omega) only [go_sem, Nat.reduceAdd, Nat.reduceSub, Nat.reduceMul, Int.reduceToNat, Nat.reduceEqDiff, Nat.reduceBEq, Nat.reduceBneDiff]
    exact ⟨_, rfl, .one (.refl _)⟩
  · have h1 := rSameBig a.s a.L b.s b.L (by omega) (by omega)
    rw [decide_eq_false h] at h1
    have e : r = false := by rw [hr, decide_eq_false (fun e => h (by rw [e]; exact ⟨rfl, rfl⟩))]
    subst e
    refine CallsTo.run [] Go.Proofs.Try.func22 rfl rfl ?_; conv => simp (maxSteps := 2000000) (disch := omega) only [go_sem, Nat.reduceAdd, Nat.reduceSub, Nat.reduceMul, Int.reduceToNat, Nat.reduceEqDiff, Nat.reduceBEq, Nat.reduceBneDiff, Go.Proofs.Try.f22, List.replicate]
    refine callk h1 ?_
    conv => simp (maxSteps := 2000000) (disch := omega) only [go_sem, Nat.reduceAdd, Nat.reduceSub, Nat.reduceMul, Int.reduceToNat, Nat.reduceEqDiff, Nat.reduceBEq, Nat.reduceBneDiff]
    exact ⟨_, rfl, .one (.refl _)⟩
theorem r10Same (a b : Sc) (ha : a.sz ≤ 67108864) (hb : b.sz ≤ 67108864) : CallsTo prog 24 [.agg a.C, .agg b.C] (.one (.raw (.bool (decide (a = b))))) := by
  have ⟨h1, h2⟩ := Sc.low_sz ha
  have ⟨h3, h4⟩ := Sc.low_sz hb
  have c1 := rSameF a.low b.low h1 h3
  have c2 := rSameF a.high b.high h2 h4
  by_cases h : a.low = b.low
  · rw [decide_eq_true h] at c1
    rw [show decide (a = b) = decide (a.high = b.high) from decide_eq_decide.2 ⟨fun e => by rw [e], fun e => by cases a; cases b; simp at h e; rw [h, e]⟩]
    refine CallsTo.run [] Go.Proofs.Try.func24 rfl rfl ?_; conv => simp (maxSteps := 2000000) (disch := omega) only [go_sem, Nat.reduceAdd, Nat.reduceSub, Nat.reduceMul, Int.reduceToNat, Nat.reduceEqDiff, Nat.reduceBEq, Nat.reduceBneDiff, Go.Proofs.Try.f24, List.replicate]
    refine callk c1 ?_
    conv => simp (maxSteps := 2000000) (disch := omega) only [go_sem, Nat.reduceAdd, Nat.reduceSub, Nat.reduceMul, Int.reduceToNat, Nat.reduceEqDiff, Nat.reduceBEq, Nat.reduceBneDiff]
    refine callk c2 ?_
    conv => simp (maxSteps := 2000000) (disch := omega) only [go_sem, Nat.reduceAdd, Nat.reduceSub, Nat.reduceMul, Int.reduceToNat, Nat.reduceEqDiff, Nat.reduceBEq, Nat.reduceBneDiff]
    exact ⟨_, rfl, .one (.refl _)⟩
  · rw [decide_eq_false h] at c1
    rw [decide_eq_false (fun e => h (by rw [e]))]
    refine CallsTo.run [] Go.Proofs.Try.func24 rfl rfl ?_; conv => simp (maxSteps := 2000000) (disch := omega) only [go_sem, Nat.reduceAdd, Nat.reduceSub, Nat.reduceMul, Int.reduceToNat, Nat.reduceEqDiff, Nat.reduceBEq, Nat.reduceBneDiff, Go.Proofs.Try.f24, List.replicate]
    refine callk c1 ?_
    conv => simp (maxSteps := 2000000) (disch := omega) only [go_sem, Nat.reduceAdd, Nat.reduceSub, Nat.reduceMul, Int.reduceToNat, Nat.reduceEqDiff, Nat.reduceBEq, Nat.reduceBneDiff]
    exact ⟨_, rfl, .one (.refl _)⟩
theorem r10Few (s : Sc) (h : s.sz ≤ 67108864) : CallsTo prog 37 [.agg s.C, .one (.raw (.int .i64 4))] (.one (.raw (.bool (decide (s.sz ≤ 4))))) := by
  have ⟨h1, h2⟩ := Sc.low_sz h
  have l1 := szL h1
  have l2 := szL h2
  have c1 := rFew4 s.low (by omega) (by omega)
  have c2 := rFew4 s.high (by omega) (by omega)
  have e : s.sz = max s.low.sz s.high.sz := rfl
  by_cases h : s.low.sz ≤ 4
  · rw [decide_eq_true h] at c1
    rw [show decide (s.sz ≤ 4) = decide (s.high.sz ≤ 4) from decide_eq_decide.2 (by omega)]
    refine CallsTo.run [] Go.Proofs.Try.func37 rfl rfl ?_; conv => simp (maxSteps := 2000000) (disch := omega) only [go_sem, Nat.reduceAdd, Nat.reduceSub, Nat.reduceMul, Int.reduceToNat, Nat.reduceEqDiff, Nat.reduceBEq, Nat.reduceBneDiff, Go.Proofs.Try.f37, List.replicate]
    refine callk c1 ?_
    conv => simp (maxSteps := 2000000) (disch := omega) only [go_sem, Nat.reduceAdd, Nat.reduceSub, Nat.reduceMul, Int.reduceToNat, Nat.reduceEqDiff, Nat.reduceBEq, Nat.reduceBneDiff]
    refine callk c2 ?_
    conv => simp (maxSteps := 2000000) (disch := omega) only [go_sem, Nat.reduceAdd, Nat.reduceSub, Nat.reduceMul, Int.reduceToNat, Nat.reduceEqDiff, Nat.reduceBEq, Nat.reduceBneDiff]
    exact ⟨_, rfl, .one (.refl _)⟩
  · rw [decide_eq_false h] at c1
    rw [decide_eq_false (show ¬ s.sz ≤ 4 by omega)]
    refine CallsTo.run [] Go.Proofs.Try.func37 rfl rfl ?_; conv => simp (maxSteps := 2000000) (disch := omega) only [go_sem, Nat.reduceAdd, Nat.reduceSub, Nat.reduceMul, Int.reduceToNat, Nat.reduceEqDiff, Nat.reduceBEq, Nat.reduceBneDiff, Go.Proofs.Try.f37, List.replicate]
    refine callk c1 ?_
    conv => simp (maxSteps := 2000000) (disch := omega) only [go_sem, Nat.reduceAdd, Nat.reduceSub, Nat.reduceMul, Int.reduceToNat, Nat.reduceEqDiff, Nat.reduceBEq, Nat.reduceBneDiff]
    exact ⟨_, rfl, .one (.refl _)⟩
/-- at most n fractions, and small ones -/
def fewF (l : List Fc) (n : Nat) : Prop := l.length ≤ n ∧ ∀ f ∈ l, f.sz ≤ 4
instance (l : List Fc) (n : Nat) : Decidable (fewF l n) := inferInstanceAs (Decidable (_ ∧ _))
def fewC (f : Af) (l : List Sc) : Prop := l.length ≤ 8 ∧ (∀ s ∈ l, s.sz ≤ 4) ∧ f.c.sz ≤ 4 ∧ fewF f.l 8
instance (f : Af) (l : List Sc) : Decidable (fewC f l) := inferInstanceAs (Decidable (_ ∧ _ ∧ _ ∧ _))
theorem all_take {α : Type} {p : α → Prop} {l : List α} {i : Nat} (d : α) (h : ∀ x ∈ l.take i, p x) (hi : i < l.length) (hx : p (l.getD i d)) : ∀ x ∈ l.take (i + 1), p x := by
  rw [take_snoc d hi]
  intro x hx'
  rcases List.mem_append.1 hx' with h' | h'
  · exact h x h'
  · simp at h'; subst h'; simpa using hx
theorem r46FewFracs (l : List Fc) (n : Nat) (hn : n ≤ 1048576) (_hl : l.length ≤ 1048576) (hs : ∀ f ∈ l, f.sz ≤ 67108864) :
    CallsTo prog 10 [.one (.sl 4 (l.map Fc.C)), .one (.raw (.int .i64 n))] (.one (.raw (.bool (decide (fewF l n))))) := by
  obtain ⟨r, hr⟩ : ∃ r, r = decide (fewF l n) := ⟨_, rfl⟩
  rw [← hr]
  have bad : ¬ fewF l n → false = r := fun h => by rw [hr, decide_eq_false h]
  refine CallsTo.run [] Go.Proofs.Try.func10 rfl rfl ?_; conv => simp (maxSteps := 2000000) (disch := omega) only [go_sem, Nat.reduceAdd, Nat.reduceSub, Nat.reduceMul, Int.reduceToNat, Nat.reduceEqDiff, Nat.reduceBEq, Nat.reduceBneDiff, Go.Proofs.Try.f10, List.replicate]
  refine loopo [0, 1] (fun i : Nat => [(5, .one (.raw (.int .i64 i)))]) (fun i => i ≤ l.length ∧ ∀ f ∈ l.take i, f.sz ≤ 4) (fun i => l.length - i) 0 ⟨Nat.zero_le _, by simp⟩ ?_ ?_
  · conv => simp (maxSteps := 2000000) (disch := omega) only [go_sem, Nat.reduceAdd, Nat.reduceSub, Nat.reduceMul, Int.reduceToNat, Nat.reduceEqDiff, Nat.reduceBEq, Nat.reduceBneDiff]
    exact StLe.weaken (by repeat' first | exact .nil | refine .cons (by first | exact .refl _ | exact .any _) ?_) rfl
  rintro i ⟨hi, he⟩
  conv => simp (maxSteps := 2000000) (disch := omega) only [go_sem, Nat.reduceAdd, Nat.reduceSub, Nat.reduceMul, Int.reduceToNat, Nat.reduceEqDiff, Nat.reduceBEq, Nat.reduceBneDiff]
  refine guardd (fun h1 => ?_) (fun h1 => ?_)
  · have h1' := decide_eq_true h1
    conv => simp (maxSteps := 2000000) (disch := omega) only [go_sem, Nat.reduceAdd, Nat.reduceSub, Nat.reduceMul, Int.reduceToNat, Nat.reduceEqDiff, Nat.reduceBEq, Nat.reduceBneDiff, h1']
    refine condd (fun h2 => ?_) (fun h2 => ?_)
    · have hb := getD_sz hs (show i < l.length by omega)
      have hbl := szL hb
      conv => simp (maxSteps := 2000000) (disch := omega) only [go_sem, Nat.reduceAdd, Nat.reduceSub, Nat.reduceMul, Int.reduceToNat, Nat.reduceEqDiff, Nat.reduceBEq, Nat.reduceBneDiff]
      refine callk (rFew4 (l.getD i Fc.zero) (by omega) (by omega)) ?_
      conv => simp (maxSteps := 2000000) (disch := omega) only [go_sem, Nat.reduceAdd, Nat.reduceSub, Nat.reduceMul, Int.reduceToNat, Nat.reduceEqDiff, Nat.reduceBEq, Nat.reduceBneDiff]
      refine condk (fun h3 => ?_) (fun h3 => ?_)
      · have h3 : ¬ (l.getD i Fc.zero).sz ≤ 4 := by simpa using h3
        conv => simp (maxSteps := 2000000) (disch := omega) only [go_sem, Nat.reduceAdd, Nat.reduceSub, Nat.reduceMul, Int.reduceToNat, Nat.reduceEqDiff, Nat.reduceBEq, Nat.reduceBneDiff]
        exact ⟨_, rfl, by rw [bad (fun h => h3 (getD_sz h.2 (by omega)))]; exact .one (.refl _)⟩
      · have h3 : (l.getD i Fc.zero).sz ≤ 4 := by simpa using h3
        conv => simp (maxSteps := 2000000) (disch := omega) only [go_sem, Nat.reduceAdd, Nat.reduceSub, Nat.reduceMul, Int.reduceToNat, Nat.reduceEqDiff, Nat.reduceBEq, Nat.reduceBneDiff]
        exact ⟨i + 1, ⟨by omega, all_take Fc.zero he (by omega) h3⟩, by omega, StLe.weaken (by repeat' first | exact .nil | refine .cons (by first | exact .refl _ | exact .any _) ?_) rfl⟩
    · conv => simp (maxSteps := 2000000) (disch := omega) only [go_sem, Nat.reduceAdd, Nat.reduceSub, Nat.reduceMul, Int.reduceToNat, Nat.reduceEqDiff, Nat.reduceBEq, Nat.reduceBneDiff]
      exact ⟨_, rfl, by rw [decide_eq_false (by omega), bad (fun h => by have := h.1; omega)]; exact .one (.refl _)⟩
  · have h1' := decide_eq_false h1
    have hi' : i = l.length := by omega
    rw [hi', List.take_length] at he
    conv => simp (maxSteps := 2000000) (disch := omega) only [go_sem, Nat.reduceAdd, Nat.reduceSub, Nat.reduceMul, Int.reduceToNat, Nat.reduceEqDiff, Nat.reduceBEq, Nat.reduceBneDiff, h1']
    exact ⟨_, rfl, by rw [hr, show decide ((l.length : Int) ≤ n) = decide (fewF l n) from decide_eq_decide.2 ⟨fun h => ⟨by omega, he⟩, fun h => by have := h.1; omega⟩]; exact .one (.refl _)⟩
theorem r46Few (f : Af) (l : List Sc) (h1 : f.l.length ≤ 1048576) (h2 : l.length ≤ 1048576) (h3 : f.le 67108864) (h4 : ∀ s ∈ l, s.sz ≤ 67108864) :
    CallsTo prog 8 [.agg f.C, .one (.sl 8 (l.map Sc.C))] (.one (.raw (.bool (decide (fewC f l))))) := by
  obtain ⟨r, hr⟩ : ∃ r, r = decide (fewC f l) := ⟨_, rfl⟩
  rw [← hr]
  have bad : ¬ fewC f l → false = r := fun h => by rw [hr, decide_eq_false h]
  have lc := szL h3.1
  refine CallsTo.run [] Go.Proofs.Try.func8 rfl rfl ?_; conv => simp (maxSteps := 2000000) (disch := omega) only [go_sem, Nat.reduceAdd, Nat.reduceSub, Nat.reduceMul, Int.reduceToNat, Nat.reduceEqDiff, Nat.reduceBEq, Nat.reduceBneDiff, Go.Proofs.Try.f8, List.replicate]
  refine loopo [1] (fun i : Nat => [(5, .one (.raw (.int .i64 i)))]) (fun i => i ≤ l.length ∧ ∀ s ∈ l.take i, s.sz ≤ 4) (fun i => l.length - i) 0 ⟨Nat.zero_le _, by simp⟩ ?_ ?_
  · conv => simp (maxSteps := 2000000) (disch := omega) only [go_sem, Nat.reduceAdd, Nat.reduceSub, Nat.reduceMul, Int.reduceToNat, Nat.reduceEqDiff, Nat.reduceBEq, Nat.reduceBneDiff]
    exact StLe.weaken (by repeat' first | exact .nil | refine .cons (by first | exact .refl _ | exact .any _) ?_) rfl
  rintro i ⟨hi, he⟩
  conv => simp (maxSteps := 2000000) (disch := omega) only [go_sem, Nat.reduceAdd, Nat.reduceSub, Nat.reduceMul, Int.reduceToNat, Nat.reduceEqDiff, Nat.reduceBEq, Nat.reduceBneDiff]
  refine guardd (fun h1 => ?_) (fun h1 => ?_)
  · have h1' := decide_eq_true h1
    conv => simp (maxSteps := 2000000) (disch := omega) only [go_sem, Nat.reduceAdd, Nat.reduceSub, Nat.reduceMul, Int.reduceToNat, Nat.reduceEqDiff, Nat.reduceBEq, Nat.reduceBneDiff, h1']
    refine condd (fun h2 => ?_) (fun h2 => ?_)
    · have hb := getS_sz h4 (show i < l.length by omega)
      conv => simp (maxSteps := 2000000) (disch := omega) only [go_sem, Nat.reduceAdd, Nat.reduceSub, Nat.reduceMul, Int.reduceToNat, Nat.reduceEqDiff, Nat.reduceBEq, Nat.reduceBneDiff]
      refine callk (r10Few (l.getD i Sc.zero) hb) ?_
      conv => simp (maxSteps := 2000000) (disch := omega) only [go_sem, Nat.reduceAdd, Nat.reduceSub, Nat.reduceMul, Int.reduceToNat, Nat.reduceEqDiff, Nat.reduceBEq, Nat.reduceBneDiff]
      refine condk (fun h3 => ?_) (fun h3 => ?_)
      · have h3 : ¬ (l.getD i Sc.zero).sz ≤ 4 := by simpa using h3
        conv => simp (maxSteps := 2000000) (disch := omega) only [go_sem, Nat.reduceAdd, Nat.reduceSub, Nat.reduceMul, Int.reduceToNat, Nat.reduceEqDiff, Nat.reduceBEq, Nat.reduceBneDiff]
        exact ⟨_, rfl, by rw [bad (fun h => h3 (getS_sz h.2.1 (by omega)))]; exact .one (.refl _)⟩
      · have h3 : (l.getD i Sc.zero).sz ≤ 4 := by simpa using h3
        conv => simp (maxSteps := 2000000) (disch := omega) only [go_sem, Nat.reduceAdd, Nat.reduceSub, Nat.reduceMul, Int.reduceToNat, Nat.reduceEqDiff, Nat.reduceBEq, Nat.reduceBneDiff]
        exact ⟨i + 1, ⟨by omega, all_take Sc.zero he (by omega) h3⟩, by omega, StLe.weaken (by repeat' first | exact .nil | refine .cons (by first | exact .refl _ | exact .any _) ?_) rfl⟩
    · have h5 : ¬ (l.length : Int) ≤ 8 := by omega
      conv => simp (maxSteps := 2000000) (disch := omega) only [go_sem, Nat.reduceAdd, Nat.reduceSub, Nat.reduceMul, Int.reduceToNat, Nat.reduceEqDiff, Nat.reduceBEq, Nat.reduceBneDiff]
      refine guardd (fun h => absurd h h5) (fun _ => ?_)
      have h5' := decide_eq_false h5
      conv => simp (maxSteps := 2000000) (disch := omega) only [go_sem, Nat.reduceAdd, Nat.reduceSub, Nat.reduceMul, Int.reduceToNat, Nat.reduceEqDiff, Nat.reduceBEq, Nat.reduceBneDiff, h5']
      exact ⟨_, rfl, by rw [bad (fun h => by have := h.1; omega)]; exact .one (.refl _)⟩
  · have h1' := decide_eq_false h1
    have hi' : i = l.length := by omega
    rw [hi', List.take_length] at he
    conv => simp (maxSteps := 2000000) (disch := omega) only [go_sem, Nat.reduceAdd, Nat.reduceSub, Nat.reduceMul, Int.reduceToNat, Nat.reduceEqDiff, Nat.reduceBEq, Nat.reduceBneDiff, h1']
    refine guardd (fun h5 => ?_) (fun h5 => ?_)
    · have h5' := decide_eq_true h5
      conv => simp (maxSteps := 2000000) (disch := omega) only [go_sem, Nat.reduceAdd, Nat.reduceSub, Nat.reduceMul, Int.reduceToNat, Nat.reduceEqDiff, Nat.reduceBEq, Nat.reduceBneDiff, h5']
      refine callk (rFew4 f.c (by omega) (by omega)) ?_
      conv => simp (maxSteps := 2000000) (disch := omega) only [go_sem, Nat.reduceAdd, Nat.reduceSub, Nat.reduceMul, Int.reduceToNat, Nat.reduceEqDiff, Nat.reduceBEq, Nat.reduceBneDiff]
      by_cases h6 : f.c.sz ≤ 4
      · refine guardk (fun _ => ?_) (fun h => by rw [decide_eq_true h6] at h; cases h)
        have h6' := decide_eq_true h6
        conv => simp (maxSteps := 2000000) (disch := omega) only [go_sem, Nat.reduceAdd, Nat.reduceSub, Nat.reduceMul, Int.reduceToNat, Nat.reduceEqDiff, Nat.reduceBEq, Nat.reduceBneDiff, h6']
        refine callk (r46FewFracs f.l 8 (by decide) (by omega) h3.2) ?_
        conv => simp (maxSteps := 2000000) (disch := omega) only [go_sem, Nat.reduceAdd, Nat.reduceSub, Nat.reduceMul, Int.reduceToNat, Nat.reduceEqDiff, Nat.reduceBEq, Nat.reduceBneDiff]
        exact ⟨_, rfl, by rw [hr, show decide (fewC f l) = decide (fewF f.l 8) from decide_eq_decide.2 ⟨fun h => h.2.2.2, fun h => ⟨by omega, he, h6, h⟩⟩]; exact .one (.refl _)⟩
      · refine guardk (fun h => by rw [decide_eq_false h6] at h; cases h) (fun _ => ?_)
        have h6' := decide_eq_false h6
        conv => simp (maxSteps := 2000000) (disch := omega) only [go_sem, Nat.reduceAdd, Nat.reduceSub, Nat.reduceMul, Int.reduceToNat, Nat.reduceEqDiff, Nat.reduceBEq, Nat.reduceBneDiff, h6']
        exact ⟨_, rfl, by rw [bad (fun h => h6 h.2.2.1)]; exact .one (.refl _)⟩
    · have h5' := decide_eq_false h5
      conv => simp (maxSteps := 2000000) (disch := omega) only [go_sem, Nat.reduceAdd, Nat.reduceSub, Nat.reduceMul, Int.reduceToNat, Nat.reduceEqDiff, Nat.reduceBEq, Nat.reduceBneDiff, h5']
      exact ⟨_, rfl, by rw [bad (fun h => by have := h.1; omega)]; exact .one (.refl _)⟩
theorem r46SameFracs (a b : List Fc) (la : a.length ≤ 1048576) (_lb : b.length ≤ 1048576) (ha : ∀ f ∈ a, f.sz ≤ 67108864) (hb : ∀ f ∈ b, f.sz ≤ 67108864) :
    CallsTo prog 36 [.one (.sl 4 (a.map Fc.C)), .one (.sl 4 (b.map Fc.C))] (.one (.raw (.bool (decide (a = b))))) := by
  obtain ⟨r, hr⟩ : ∃ r, r = decide (a = b) := ⟨_, rfl⟩
  rw [← hr]
  have bad : ¬ a = b → false = r := fun h => by rw [hr, decide_eq_false h]
  refine CallsTo.run [] Go.Proofs.Try.func36 rfl rfl ?_; conv => simp (maxSteps := 2000000) (disch := omega) only [go_sem, Nat.reduceAdd, Nat.reduceSub, Nat.reduceMul, Int.reduceToNat, Nat.reduceEqDiff, Nat.reduceBEq, Nat.reduceBneDiff, Go.Proofs.Try.f36, List.replicate]
  refine condd (fun h => ?_) (fun h => ?_)
  · conv => simp (maxSteps := 2000000) (disch := omega) only [go_sem, Nat.reduceAdd, Nat.reduceSub, Nat.reduceMul, Int.reduceToNat, Nat.reduceEqDiff, Nat.reduceBEq, Nat.reduceBneDiff]
    exact ⟨_, rfl, by rw [bad (fun e => h (by rw [e]))]; exact .one (.refl _)⟩
  have hl : a.length = b.length := by omega
  conv => simp (maxSteps := 2000000) (disch := omega) only [go_sem, Nat.reduceAdd, Nat.reduceSub, Nat.reduceMul, Int.reduceToNat, Nat.reduceEqDiff, Nat.reduceBEq, Nat.reduceBneDiff]
  refine loopo [0, 1] (fun i : Nat => [(5, .one (.raw (.int .i64 i)))]) (fun i => i ≤ a.length ∧ a.take i = b.take i) (fun i => a.length - i) 0 ⟨Nat.zero_le _, rfl⟩ ?_ ?_
  · conv => simp (maxSteps := 2000000) (disch := omega) only [go_sem, Nat.reduceAdd, Nat.reduceSub, Nat.reduceMul, Int.reduceToNat, Nat.reduceEqDiff, Nat.reduceBEq, Nat.reduceBneDiff]
    exact StLe.weaken (by repeat' first | exact .nil | refine .cons (by first | exact .refl _ | exact .any _) ?_) rfl
  rintro i ⟨hi, he⟩
  conv => simp (maxSteps := 2000000) (disch := omega) only [go_sem, Nat.reduceAdd, Nat.reduceSub, Nat.reduceMul, Int.reduceToNat, Nat.reduceEqDiff, Nat.reduceBEq, Nat.reduceBneDiff]
  refine condd (fun h1 => ?_) (fun h1 => ?_)
  · have hi1 : i < a.length := by omega
    have hi2 : i < b.length := by omega
    conv => simp (maxSteps := 2000000) (disch := omega) only [go_sem, Nat.reduceAdd, Nat.reduceSub, Nat.reduceMul, Int.reduceToNat, Nat.reduceEqDiff, Nat.reduceBEq, Nat.reduceBneDiff]
    refine callk (rSameF (a.getD i Fc.zero) (b.getD i Fc.zero) (getD_sz ha hi1) (getD_sz hb hi2)) ?_
    conv => simp (maxSteps := 2000000) (disch := omega) only [go_sem, Nat.reduceAdd, Nat.reduceSub, Nat.reduceMul, Int.reduceToNat, Nat.reduceEqDiff, Nat.reduceBEq, Nat.reduceBneDiff]
    refine indk (by kernel_rfl) ?_
    conv => simp (maxSteps := 2000000) (disch := omega) only [go_sem, Nat.reduceAdd, Nat.reduceSub, Nat.reduceMul, Int.reduceToNat, Nat.reduceEqDiff, Nat.reduceBEq, Nat.reduceBneDiff]
    by_cases h2 : a.getD i Fc.zero = b.getD i Fc.zero
    · refine condk (fun h => by rw [decide_eq_true h2] at h; cases h) (fun _ => ?_)
      conv => simp (maxSteps := 2000000) (disch := omega) only [go_sem, Nat.reduceAdd, Nat.reduceSub, Nat.reduceMul, Int.reduceToNat, Nat.reduceEqDiff, Nat.reduceBEq, Nat.reduceBneDiff]
      refine ⟨i + 1, ⟨by omega, ?_⟩, by omega, StLe.weaken (by repeat' first | exact .nil | refine .cons (by first | exact .refl _ | exact .any _) ?_) rfl⟩
      rw [take_snoc Fc.zero hi1, take_snoc Fc.zero hi2, he, h2]
    · refine condk (fun _ => ?_) (fun h => by rw [decide_eq_false h2] at h; cases h)
      conv => simp (maxSteps := 2000000) (disch := omega) only [go_sem, Nat.reduceAdd, Nat.reduceSub, Nat.reduceMul, Int.reduceToNat, Nat.reduceEqDiff, Nat.reduceBEq, Nat.reduceBneDiff]
      exact ⟨_, rfl, by rw [bad (fun e => h2 (by rw [e]))]; exact .one (.refl _)⟩
  · have hi' : i = a.length := by omega
    rw [hi', List.take_length, hl, List.take_length] at he
    have e : true = r := by rw [hr, decide_eq_true he]
    conv => simp (maxSteps := 2000000) (disch := omega) only [go_sem, Nat.reduceAdd, Nat.reduceSub, Nat.reduceMul, Int.reduceToNat, Nat.reduceEqDiff, Nat.reduceBEq, Nat.reduceBneDiff]
    exact ⟨_, rfl, by rw [e]; exact .one (.refl _)⟩
end Go.Slot.T

/- Plain laws: package back over the rational numbers. -/
namespace Go.Slot
open Go Go.RowKit Go.Slot.T
namespace Sc
def of (p : Rat × Rat) : Sc := ⟨Fc.of p.1, Fc.of p.2⟩
end Sc
theorem sg_neg_iff (r : Rat) : sg r.num < 0 ↔ r < 0 := by
  rw [Rat.lt_iff]
  simp only [Rat.zero_num, Rat.zero_den]
  rcases sg_cases r.num with ⟨h, e⟩ | ⟨h, e⟩ | ⟨h, e⟩ <;> rw [e] <;> omega
theorem sg_nonneg_iff (r : Rat) : 0 ≤ sg r.num ↔ 0 ≤ r := by
  have := sg_neg_iff r
  rw [← Rat.not_lt, ← this]; omega
theorem ordQ_le (x y : Rat) : Fc.ordQ x y ≤ 0 ↔ x ≤ y := by
  rcases Fc.ordQ_cases x y with ⟨h, e⟩ | ⟨h, e⟩ | ⟨h, e⟩ <;> rw [e]
  · exact ⟨fun _ => Rat.le_of_lt h, fun _ => by decide⟩
  · exact ⟨fun _ => by rw [h]; exact Rat.le_refl, fun _ => by decide⟩
  · exact ⟨fun h' => absurd h' (by decide), fun h' => absurd h (Rat.not_lt.2 h')⟩
theorem ordQ_gt (x y : Rat) : 0 < Fc.ordQ x y ↔ y < x := by
  have := ordQ_le x y
  rw [← Rat.not_le, ← this]; omega
theorem ordQ_ge (x y : Rat) : 0 ≤ Fc.ordQ x y ↔ y ≤ x := by
  rcases Fc.ordQ_cases x y with ⟨h, e⟩ | ⟨h, e⟩ | ⟨h, e⟩ <;> rw [e]
  · exact ⟨fun h' => absurd h' (by decide), fun h' => absurd h (Rat.not_lt.2 h')⟩
  · exact ⟨fun _ => by rw [h]; exact Rat.le_refl, fun _ => by decide⟩
  · exact ⟨fun _ => Rat.le_of_lt h, fun _ => by decide⟩
theorem Sc.of_ok (p : Rat × Rat) : (Sc.of p).ok ↔ p.1 ≤ p.2 := by
  unfold Sc.ok Sc.of
  rw [Fc.cmp_of, ordQ_le]
  exact ⟨fun h => h.2.2, fun h => ⟨Fc.of_ok _, Fc.of_ok _, h⟩⟩
theorem Sc.ok_ex {s : Sc} (h : s.ok) : ∃ p : Rat × Rat, s = Sc.of p ∧ p.1 ≤ p.2 := by
  obtain ⟨x, hx⟩ := Fc.ok_ex h.1
  obtain ⟨y, hy⟩ := Fc.ok_ex h.2.1
  have e : s = Sc.of (x, y) := by cases s; simp only at hx hy; rw [hx, hy]; rfl
  exact ⟨(x, y), e, (Sc.of_ok _).1 (e ▸ h)⟩
theorem oks_map (qs : List Rat) : oks (qs.map Fc.of) := fun f hf => by
  obtain ⟨r, _, rfl⟩ := List.mem_map.1 hf
  exact Fc.of_ok r
theorem oks_ex : ∀ {l : List Fc}, oks l → ∃ qs : List Rat, l = qs.map Fc.of
  | [], _ => ⟨[], rfl⟩
  | f :: l, h => by
    obtain ⟨r, hr⟩ := Fc.ok_ex (h f (by simp))
    obtain ⟨qs, hq⟩ := oks_ex (fun g hg => h g (by simp [hg]) : oks l)
    exact ⟨r :: qs, by rw [hr, hq]; rfl⟩
def okP (ps : List (Rat × Rat)) : Prop := ∀ p ∈ ps, p.1 ≤ p.2
theorem okS_map (ps : List (Rat × Rat)) : okS (ps.map Sc.of) ↔ okP ps := by
  constructor
  · intro h p hp
    exact (Sc.of_ok p).1 (h _ (List.mem_map.2 ⟨p, hp, rfl⟩))
  · intro h s hs
    obtain ⟨p, hp, rfl⟩ := List.mem_map.1 hs
    exact (Sc.of_ok p).2 (h p hp)
theorem okS_ex : ∀ {l : List Sc}, okS l → ∃ ps : List (Rat × Rat), l = ps.map Sc.of ∧ okP ps
  | [], _ => ⟨[], rfl, fun p hp => by cases hp⟩
  | s :: l, h => by
    obtain ⟨p, hp, hp'⟩ := Sc.ok_ex (h s (by simp))
    obtain ⟨ps, hq, hq'⟩ := okS_ex (fun g hg => h g (by simp [hg]) : okS l)
    exact ⟨p :: ps, by rw [hp, hq]; rfl, fun p' h' => by
      rcases List.mem_cons.1 h' with rfl | h'
      · exact hp'
      · exact hq' p' h'⟩
def Af.of (k : Rat) (cs : List Rat) : Af := ⟨Fc.of k, cs.map Fc.of⟩
theorem Af.of_ok (k : Rat) (cs : List Rat) (n : Nat) : (Af.of k cs).ok n ↔ cs.length = n := by
  unfold Af.ok Af.of
  simp only [List.length_map]
  exact ⟨fun h => h.1, fun h => ⟨h, Fc.of_ok k, oks_map cs⟩⟩
theorem Af.ok_ex {f : Af} {n : Nat} (h : f.ok n) : ∃ k cs, f = Af.of k cs ∧ cs.length = n := by
  obtain ⟨k, hk⟩ := Fc.ok_ex h.2.1
  obtain ⟨cs, hc⟩ := oks_ex h.2.2
  have e : f = Af.of k cs := by cases f; simp only at hk hc; rw [hk, hc]; rfl
  exact ⟨k, cs, e, by rw [e] at h; exact (Af.of_ok k cs n).1 h⟩
theorem Bk.ok_of (k : Rat) (cs : List Rat) (ps : List (Rat × Rat)) : Bk.ok (Af.of k cs) (ps.map Sc.of) ↔ (cs.length = ps.length ∧ okP ps) := by
  unfold Bk.ok
  rw [Af.of_ok, okS_map, List.length_map]
theorem Bk.ok_ex {f : Af} {l : List Sc} (h : Bk.ok f l) : ∃ k cs ps, f = Af.of k cs ∧ l = ps.map Sc.of ∧ cs.length = ps.length ∧ okP ps := by
  obtain ⟨k, cs, hf, hc⟩ := Af.ok_ex h.1
  obtain ⟨ps, hl, hp⟩ := okS_ex h.2
  exact ⟨k, cs, ps, hf, hl, by rw [hc, hl, List.length_map], hp⟩

def sumQ : Rat → List Rat → List Rat → Rat
  | s, c :: cs, v :: vs => sumQ (s + c * v) cs vs
  | s, _, _ => s
theorem Af.copy_of (r : Rat) : Af.copy (Fc.of r) = Fc.of r := by unfold Af.copy; rw [Fc.add_of, Rat.add_zero]
theorem Af.sum_of : ∀ (cs vs : List Rat) (s : Rat), Af.sum (Fc.of s) (cs.map Fc.of) (vs.map Fc.of) = Fc.of (sumQ s cs vs)
  | [], vs, s => by cases vs <;> rfl
  | c :: cs, [], s => rfl
  | c :: cs, v :: vs, s => by
    show Af.sum (Fc.add (Fc.of s) (Fc.mul (Fc.of c) (Fc.of v))) (cs.map Fc.of) (vs.map Fc.of) = _
    rw [Fc.mul_of, Fc.add_of, Af.sum_of cs vs]; rfl
theorem Af.at_of (k : Rat) (cs vs : List Rat) (h : cs.length = vs.length) : (Af.of k cs).at' (vs.map Fc.of) = Fc.of (sumQ k cs vs) := by
  unfold Af.at'
  rw [if_pos ⟨(Af.of_ok k cs _).2 (by rw [List.length_map, h]), oks_map vs⟩]
  show Af.sum (Af.copy (Fc.of k)) (cs.map Fc.of) (vs.map Fc.of) = _
  rw [Af.copy_of, Af.sum_of]
theorem sumQ_shift : ∀ (cs vs : List Rat) (s t : Rat), sumQ (s + t) cs vs = s + sumQ t cs vs
  | [], vs, s, t => by cases vs <;> rfl
  | c :: cs, [], s, t => rfl
  | c :: cs, v :: vs, s, t => by
    show sumQ (s + t + c * v) cs vs = s + sumQ (t + c * v) cs vs
    rw [Rat.add_assoc, sumQ_shift cs vs]
/-- the sum without its constant -/
def dot (cs vs : List Rat) : Rat := sumQ 0 cs vs
theorem sumQ_dot (s : Rat) (cs vs : List Rat) : sumQ s cs vs = s + dot cs vs := by
  have := sumQ_shift cs vs s 0
  rwa [Rat.add_zero] at this
theorem dot_nil (vs : List Rat) : dot [] vs = 0 := by cases vs <;> rfl
theorem dot_cons (c v : Rat) (cs vs : List Rat) : dot (c :: cs) (v :: vs) = c * v + dot cs vs := by
  show sumQ (0 + c * v) cs vs = _
  rw [sumQ_dot, Rat.zero_add]
def loQ (c : Rat) (p : Rat × Rat) : Rat := if c < 0 then p.2 else p.1
def hiQ (c : Rat) (p : Rat × Rat) : Rat := if c < 0 then p.1 else p.2
theorem lo_of (c : Rat) (p : Rat × Rat) : Bk.lo (Fc.of c) (Sc.of p) = Fc.of (loQ c p) := by
  unfold Bk.lo loQ
  rw [Fc.sign_of]
  by_cases h : c < 0
  · rw [if_pos ((sg_neg_iff c).2 h), if_pos h]; exact Af.copy_of _
  · rw [if_neg (fun h' => h ((sg_neg_iff c).1 h')), if_neg h]; exact Af.copy_of _
theorem hi_of (c : Rat) (p : Rat × Rat) : Bk.hi (Fc.of c) (Sc.of p) = Fc.of (hiQ c p) := by
  unfold Bk.hi hiQ
  rw [Fc.sign_of]
  by_cases h : c < 0
  · rw [if_pos ((sg_neg_iff c).2 h), if_pos h]; exact Af.copy_of _
  · rw [if_neg (fun h' => h ((sg_neg_iff c).1 h')), if_neg h]; exact Af.copy_of _
theorem zip_of {op : Fc → Sc → Fc} {g : Rat → Rat × Rat → Rat} (h : ∀ c p, op (Fc.of c) (Sc.of p) = Fc.of (g c p)) : ∀ (cs : List Rat) (ps : List (Rat × Rat)), List.zipWith op (cs.map Fc.of) (ps.map Sc.of) = (List.zipWith g cs ps).map Fc.of
  | [], _ => rfl
  | _ :: _, [] => rfl
  | c :: cs, p :: ps => by
    simp only [List.map_cons, List.zipWith_cons_cons, h, zip_of h cs ps]
def lowsQ (cs : List Rat) (ps : List (Rat × Rat)) : List Rat := List.zipWith loQ cs ps
def highsQ (cs : List Rat) (ps : List (Rat × Rat)) : List Rat := List.zipWith hiQ cs ps
theorem lows_of (k : Rat) (cs : List Rat) (ps : List (Rat × Rat)) : Bk.lows (Af.of k cs) (ps.map Sc.of) = (lowsQ cs ps).map Fc.of := zip_of lo_of cs ps
theorem highs_of (k : Rat) (cs : List Rat) (ps : List (Rat × Rat)) : Bk.highs (Af.of k cs) (ps.map Sc.of) = (highsQ cs ps).map Fc.of := zip_of hi_of cs ps
theorem lowsQ_len {cs : List Rat} {ps : List (Rat × Rat)} (h : cs.length = ps.length) : cs.length = (lowsQ cs ps).length := by unfold lowsQ; simp; omega
theorem highsQ_len {cs : List Rat} {ps : List (Rat × Rat)} (h : cs.length = ps.length) : cs.length = (highsQ cs ps).length := by unfold highsQ; simp; omega
/-- the range of a function -/
def rangeQ (k : Rat) (cs : List Rat) (ps : List (Rat × Rat)) : Rat × Rat := (sumQ k cs (lowsQ cs ps), sumQ k cs (highsQ cs ps))
theorem bounds_of (k : Rat) (cs : List Rat) (ps : List (Rat × Rat)) (h : cs.length = ps.length) (hp : okP ps) : Bk.bounds (Af.of k cs) (ps.map Sc.of) = Sc.of (rangeQ k cs ps) := by
  unfold Bk.bounds
  rw [if_pos ((Bk.ok_of k cs ps).2 ⟨h, hp⟩), lows_of, highs_of, Af.at_of _ _ _ (lowsQ_len h), Af.at_of _ _ _ (highsQ_len h)]
  rfl
theorem least_of (k : Rat) (cs : List Rat) (ps : List (Rat × Rat)) (h : cs.length = ps.length) : (Af.of k cs).at' (Bk.lows (Af.of k cs) (ps.map Sc.of)) = Fc.of (rangeQ k cs ps).1 := by
  rw [lows_of, Af.at_of _ _ _ (lowsQ_len h)]; rfl
/-- a point of the spans -/
def inP : List Rat → List (Rat × Rat) → Prop
  | [], [] => True
  | v :: vs, p :: ps => (p.1 ≤ v ∧ v ≤ p.2) ∧ inP vs ps
  | _, _ => False
theorem inP_len : ∀ {vs : List Rat} {ps : List (Rat × Rat)}, inP vs ps → vs.length = ps.length
  | [], [], _ => rfl
  | _ :: _, _ :: _, h => by simp [inP_len h.2]
theorem term_lo (c : Rat) (p : Rat × Rat) (v : Rat) (h : p.1 ≤ v ∧ v ≤ p.2) : c * loQ c p ≤ c * v := by
  unfold loQ
  split
  · rename_i hc
    have h1 := Rat.mul_le_mul_of_nonneg_left h.2 (show (0 : Rat) ≤ -c by grind)
    grind
  · rename_i hc
    exact Rat.mul_le_mul_of_nonneg_left h.1 (Rat.not_lt.1 hc)
theorem term_hi (c : Rat) (p : Rat × Rat) (v : Rat) (h : p.1 ≤ v ∧ v ≤ p.2) : c * v ≤ c * hiQ c p := by
  unfold hiQ
  split
  · rename_i hc
    have h1 := Rat.mul_le_mul_of_nonneg_left h.1 (show (0 : Rat) ≤ -c by grind)
    grind
  · rename_i hc
    exact Rat.mul_le_mul_of_nonneg_left h.2 (Rat.not_lt.1 hc)
theorem dot_lo : ∀ (cs vs : List Rat) (ps : List (Rat × Rat)), cs.length = ps.length → inP vs ps → dot cs (lowsQ cs ps) ≤ dot cs vs
  | [], vs, ps, _, _ => by rw [dot_nil, dot_nil]; exact Rat.le_refl
  | _ :: _, [], ps, h, hi => by cases ps with
    | nil => simp at h
    | cons p ps => exact hi.elim
  | c :: cs, v :: vs, p :: ps, h, hi => by
    show dot (c :: cs) (loQ c p :: lowsQ cs ps) ≤ _
    rw [dot_cons, dot_cons]
    have h1 := dot_lo cs vs ps (by simpa using h) hi.2
    have h2 := term_lo c p v hi.1
    grind
theorem dot_hi : ∀ (cs vs : List Rat) (ps : List (Rat × Rat)), cs.length = ps.length → inP vs ps → dot cs vs ≤ dot cs (highsQ cs ps)
  | [], vs, ps, _, _ => by rw [dot_nil, dot_nil]; exact Rat.le_refl
  | _ :: _, [], ps, h, hi => by cases ps with
    | nil => simp at h
    | cons p ps => exact hi.elim
  | c :: cs, v :: vs, p :: ps, h, hi => by
    show _ ≤ dot (c :: cs) (hiQ c p :: highsQ cs ps)
    rw [dot_cons, dot_cons]
    have h1 := dot_hi cs vs ps (by simpa using h) hi.2
    have h2 := term_hi c p v hi.1
    grind
theorem range_has (k : Rat) (cs vs : List Rat) (ps : List (Rat × Rat)) (h : cs.length = ps.length) (hi : inP vs ps) : (rangeQ k cs ps).1 ≤ sumQ k cs vs ∧ sumQ k cs vs ≤ (rangeQ k cs ps).2 := by
  unfold rangeQ
  simp only [sumQ_dot]
  have h1 := dot_lo cs vs ps h hi
  have h2 := dot_hi cs vs ps h hi
  grind
theorem inP_lo : ∀ (cs : List Rat) (ps : List (Rat × Rat)), cs.length = ps.length → okP ps → inP (lowsQ cs ps) ps
  | [], [], _, _ => trivial
  | [], p :: ps, h, _ => by simp at h
  | c :: cs, [], h, _ => by simp at h
  | c :: cs, p :: ps, h, hp => by
    refine ⟨?_, inP_lo cs ps (by simpa using h) (fun q hq => hp q (by simp [hq]))⟩
    have := hp p (by simp)
    unfold loQ
    split
    · exact ⟨this, Rat.le_refl⟩
    · exact ⟨Rat.le_refl, this⟩
theorem inP_hi : ∀ (cs : List Rat) (ps : List (Rat × Rat)), cs.length = ps.length → okP ps → inP (highsQ cs ps) ps
  | [], [], _, _ => trivial
  | [], p :: ps, h, _ => by simp at h
  | c :: cs, [], h, _ => by simp at h
  | c :: cs, p :: ps, h, hp => by
    refine ⟨?_, inP_hi cs ps (by simpa using h) (fun q hq => hp q (by simp [hq]))⟩
    have := hp p (by simp)
    unfold hiQ
    split
    · exact ⟨Rat.le_refl, this⟩
    · exact ⟨this, Rat.le_refl⟩
theorem range_ok (k : Rat) (cs : List Rat) (ps : List (Rat × Rat)) (h : cs.length = ps.length) (hp : okP ps) : (rangeQ k cs ps).1 ≤ (rangeQ k cs ps).2 :=
  (range_has k cs _ ps h (inP_hi cs ps h hp)).1
theorem has_of (p : Rat × Rat) (v : Rat) : (Sc.of p).has (Fc.of v) ↔ (p.1 ≤ v ∧ v ≤ p.2) := by
  unfold Sc.has
  rw [Sc.of_ok]
  show (p.1 ≤ p.2 ∧ (Fc.of v).ok ∧ Fc.cmp (Fc.of p.1) (Fc.of v) ≤ 0 ∧ Fc.cmp (Fc.of v) (Fc.of p.2) ≤ 0) ↔ _
  rw [Fc.cmp_of, Fc.cmp_of, ordQ_le, ordQ_le]
  exact ⟨fun h => h.2.2, fun h => ⟨Rat.le_trans h.1 h.2, Fc.of_ok v, h⟩⟩
theorem inside_of (p q : Rat × Rat) : (Sc.of p).inside (Sc.of q) ↔ (p.1 ≤ p.2 ∧ q.1 ≤ p.1 ∧ p.2 ≤ q.2) := by
  unfold Sc.inside
  rw [Sc.of_ok, Sc.of_ok]
  show (p.1 ≤ p.2 ∧ q.1 ≤ q.2 ∧ Fc.cmp (Fc.of q.1) (Fc.of p.1) ≤ 0 ∧ Fc.cmp (Fc.of p.2) (Fc.of q.2) ≤ 0) ↔ _
  rw [Fc.cmp_of, Fc.cmp_of, ordQ_le, ordQ_le]
  exact ⟨fun h => ⟨h.1, h.2.2⟩, fun h => ⟨h.1, Rat.le_trans h.2.1 (Rat.le_trans h.1 h.2.2), h.2⟩⟩
theorem width_of (p : Rat × Rat) (h : p.1 ≤ p.2) : Sc.width (Sc.of p) = Fc.of (p.2 - p.1) := by
  unfold Sc.width
  rw [if_pos ((Sc.of_ok p).2 h)]
  exact Fc.sub_of _ _
end Go.Slot

/- Plain laws: what the statements of layer 46 need. -/
namespace Go.Slot
open Go Go.RowKit Go.Slot.T
/-! ### Floor -/
def floQ : Rat → List Rat → List Rat → List (Rat × Rat) → Option Rat
  | s, u :: d :: ms, c :: cs, p :: ps => if u - d = c then floQ (s + (u * p.1 - d * p.2)) ms cs ps else none
  | s, _, _, _ => some s
theorem flo_of : ∀ (ms cs : List Rat) (ps : List (Rat × Rat)) (s : Rat), Bk.flo (Fc.of s) (ms.map Fc.of) (cs.map Fc.of) (ps.map Sc.of) = (floQ s ms cs ps).map Fc.of
  | [], _, _, s => rfl
  | [_], _, _, s => rfl
  | _ :: _ :: _, [], _, s => rfl
  | _ :: _ :: _, _ :: _, [], s => rfl
  | u :: d :: ms, c :: cs, p :: ps, s => by
    show (if Fc.sub (Fc.of u) (Fc.of d) = Fc.of c then Bk.flo (Fc.add (Fc.of s) (Fc.sub (Fc.mul (Fc.of u) (Fc.of p.1)) (Fc.mul (Fc.of d) (Fc.of p.2)))) (ms.map Fc.of) (cs.map Fc.of) (ps.map Sc.of) else none) = _
    rw [Fc.sub_of, Fc.mul_of, Fc.mul_of, Fc.sub_of, Fc.add_of, flo_of ms cs ps]
    by_cases h : u - d = c
    · rw [if_pos (by rw [h])]
      show _ = (if u - d = c then floQ (s + (u * p.1 - d * p.2)) ms cs ps else none).map Fc.of
      rw [if_pos h]
    · rw [if_neg (fun h' => h (Fc.of_inj h'))]
      show _ = (if u - d = c then floQ (s + (u * p.1 - d * p.2)) ms cs ps else none).map Fc.of
      rw [if_neg h]; rfl
theorem okM_of (ms : List Rat) : Bk.okM (ms.map Fc.of) ↔ ∀ m ∈ ms, 0 ≤ m := by
  constructor
  · intro h m hm
    have := (h _ (List.mem_map.2 ⟨m, hm, rfl⟩)).2
    rw [Fc.sign_of] at this
    exact (sg_nonneg_iff m).1 this
  · intro h f hf
    obtain ⟨m, hm, rfl⟩ := List.mem_map.1 hf
    exact ⟨Fc.of_ok m, by rw [Fc.sign_of]; exact (sg_nonneg_iff m).2 (h m hm)⟩
theorem okM_ex {l : List Fc} (h : Bk.okM l) : ∃ ms : List Rat, l = ms.map Fc.of ∧ ∀ m ∈ ms, 0 ≤ m := by
  obtain ⟨ms, hms⟩ := oks_ex (fun f hf => (h f hf).1 : oks l)
  subst hms
  exact ⟨ms, rfl, (okM_of ms).1 h⟩
/-- is the value below what was found? -/
def verQ (v : Rat) : Option Rat → Bool
  | some s => decide (v ≤ s)
  | none => false
theorem floor_of (k : Rat) (cs : List Rat) (ps : List (Rat × Rat)) (v : Rat) (ms : List Rat) (h : cs.length = ps.length) (hp : okP ps) (hl : ms.length = 2 * ps.length) (hm : ∀ m ∈ ms, 0 ≤ m) :
    Bk.floor (Af.of k cs) (ps.map Sc.of) (Fc.of v) (ms.map Fc.of) = verQ v (floQ k ms cs ps) := by
  unfold Bk.floor
  rw [if_pos ⟨(Bk.ok_of k cs ps).2 ⟨h, hp⟩, Fc.of_ok v, by simpa using hl, (okM_of ms).2 hm⟩]
  show Bk.verdict (Fc.of v) (Bk.flo (Fc.of k) (ms.map Fc.of) (cs.map Fc.of) (ps.map Sc.of)) = _
  rw [flo_of]
  cases floQ k ms cs ps with
  | none => rfl
  | some s =>
    show decide (0 ≤ Fc.cmp (Fc.of s) (Fc.of v)) = decide (v ≤ s)
    rw [Fc.cmp_of]
    exact decide_eq_decide.2 (ordQ_ge s v)
theorem floQ_le : ∀ (ms cs : List Rat) (ps : List (Rat × Rat)) (s t : Rat), cs.length = ps.length → okP ps → ms.length = 2 * ps.length → (∀ m ∈ ms, 0 ≤ m) → floQ s ms cs ps = some t → t ≤ s + dot cs (lowsQ cs ps)
  | [], [], [], s, t, _, _, hl, _, hf => by
    have hf : some s = some t := hf
    cases hf
    rw [dot_nil]; grind
  | _ :: _, [], [], _, _, _, _, hl, _, _ => by simp at hl
  | _, [], _ :: _, _, _, h, _, _, _, _ => by simp at h
  | _, _ :: _, [], _, _, h, _, _, _, _ => by simp at h
  | [], _ :: _, _ :: _, _, _, _, _, hl, _, _ => by simp at hl
  | [_], _ :: _, _ :: _, _, _, _, _, hl, _, _ => by simp at hl; omega
  | u :: d :: ms, c :: cs, p :: ps, s, t, h, hp, hl, hm, hf => by
    have hf : (if u - d = c then floQ (s + (u * p.1 - d * p.2)) ms cs ps else none) = some t := hf
    split at hf
    case isFalse => cases hf
    rename_i huc
    have ih := floQ_le ms cs ps _ t (by simpa using h) (fun q hq => hp q (by simp [hq])) (by simp at hl; omega) (fun m hm' => hm m (by simp [hm'])) hf
    have hu := hm u (by simp)
    have hd := hm d (by simp)
    have hpp := hp p (by simp)
    have h1 : u * p.1 - d * p.2 ≤ c * loQ c p := by
      rw [← huc]
      unfold loQ
      split
      · have := Rat.mul_le_mul_of_nonneg_left hpp hu
        grind
      · have := Rat.mul_le_mul_of_nonneg_left hpp hd
        grind
    show t ≤ s + dot (c :: cs) (loQ c p :: lowsQ cs ps)
    rw [dot_cons]
    grind
/-- a function's own multipliers -/
def ownQ : List Rat → List Rat
  | [] => []
  | c :: cs => max c 0 :: max (-c) 0 :: ownQ cs
def ownM : List Fc → List Fc
  | [] => []
  | c :: cs => Fc.maxf c (Fc.of 0) :: Fc.maxf (Fc.neg c) (Fc.of 0) :: ownM cs
theorem ownM_of : ∀ cs : List Rat, ownM (cs.map Fc.of) = (ownQ cs).map Fc.of
  | [] => rfl
  | c :: cs => by
    show Fc.maxf (Fc.of c) (Fc.of 0) :: Fc.maxf (Fc.neg (Fc.of c)) (Fc.of 0) :: ownM (cs.map Fc.of) = Fc.of (max c 0) :: Fc.of (max (-c) 0) :: (ownQ cs).map Fc.of
    rw [Fc.neg_of, Fc.maxf_of, Fc.maxf_of, ownM_of cs]
theorem ownQ_len : ∀ cs : List Rat, (ownQ cs).length = 2 * cs.length
  | [] => rfl
  | c :: cs => by simp [ownQ, ownQ_len cs]; omega
theorem ownM_len : ∀ cs : List Fc, (ownM cs).length = 2 * cs.length
  | [] => rfl
  | c :: cs => by simp [ownM, ownM_len cs]; omega
theorem max_le_r (a b : Rat) : b ≤ max a b := by rw [Rat.max_def]; split <;> grind
theorem ownQ_pos : ∀ cs : List Rat, ∀ m ∈ ownQ cs, 0 ≤ m
  | [], m, h => by cases h
  | c :: cs, m, h => by
    simp only [ownQ, List.mem_cons] at h
    rcases h with rfl | rfl | h
    · exact max_le_r _ _
    · exact max_le_r _ _
    · exact ownQ_pos cs m h
theorem floQ_own : ∀ (cs : List Rat) (ps : List (Rat × Rat)) (s : Rat), cs.length = ps.length → floQ s (ownQ cs) cs ps = some (s + dot cs (lowsQ cs ps))
  | [], [], s, _ => by rw [dot_nil]; show some s = _; congr 1; grind
  | [], _ :: _, _, h => by simp at h
  | _ :: _, [], _, h => by simp at h
  | c :: cs, p :: ps, s, h => by
    show (if max c 0 - max (-c) 0 = c then floQ (s + (max c 0 * p.1 - max (-c) 0 * p.2)) (ownQ cs) cs ps else none) = some (s + dot (c :: cs) (loQ c p :: lowsQ cs ps))
    have h1 : max c 0 - max (-c) 0 = c ∧ max c 0 * p.1 - max (-c) 0 * p.2 = c * loQ c p := by
      unfold loQ
      rw [Rat.max_def, Rat.max_def]
      split <;> split <;> split <;> grind
    rw [if_pos h1.1, floQ_own cs ps _ (by simpa using h), h1.2, dot_cons]
    congr 1; grind
/-- the statement's heart -/
theorem floors (k : Rat) (cs : List Rat) (ps : List (Rat × Rat)) (v : Rat) (ms : List Fc) (h : cs.length = ps.length) (hp : okP ps) :
    (Bk.floor (Af.of k cs) (ps.map Sc.of) (Fc.of v) ms = true → v ≤ (rangeQ k cs ps).1) ∧ Bk.floor (Af.of k cs) (ps.map Sc.of) (Fc.of v) (ownM (cs.map Fc.of)) = decide (v ≤ (rangeQ k cs ps).1) := by
  constructor
  · intro hf
    have hc : Bk.ok (Af.of k cs) (ps.map Sc.of) ∧ (Fc.of v).ok ∧ ms.length = 2 * (ps.map Sc.of).length ∧ Bk.okM ms := by
      rcases Decidable.em (Bk.ok (Af.of k cs) (ps.map Sc.of) ∧ (Fc.of v).ok ∧ ms.length = 2 * (ps.map Sc.of).length ∧ Bk.okM ms) with hc | hc
      · exact hc
      · unfold Bk.floor at hf
        rw [if_neg hc] at hf; cases hf
    obtain ⟨qs, rfl, hq⟩ := okM_ex hc.2.2.2
    have hl : qs.length = 2 * ps.length := by simpa using hc.2.2.1
    rw [floor_of k cs ps v qs h hp hl hq] at hf
    cases hfl : floQ k qs cs ps with
    | none => rw [hfl] at hf; cases hf
    | some s =>
      rw [hfl] at hf
      have h1 : v ≤ s := of_decide_eq_true hf
      have h2 := floQ_le qs cs ps k s h hp hl hq hfl
      unfold rangeQ
      rw [sumQ_dot]
      exact Rat.le_trans h1 h2
  · rw [ownM_of, floor_of k cs ps v (ownQ cs) h hp (by rw [ownQ_len, h]) (ownQ_pos cs), floQ_own cs ps k h]
    unfold rangeQ
    rw [sumQ_dot]
    rfl
/-! ### the negated function -/
theorem each_of {op : Fc → Fc → Fc} {g : Rat → Rat → Rat} (hop : ∀ x y, op (Fc.of x) (Fc.of y) = Fc.of (g x y)) (k m : Rat) (cs ds : List Rat) : Af.each op (Af.of k cs) (Af.of m ds) = Af.of (g k m) (List.zipWith g cs ds) := by
  have : ∀ (cs ds : List Rat), List.zipWith op (cs.map Fc.of) (ds.map Fc.of) = (List.zipWith g cs ds).map Fc.of := by
    intro cs
    induction cs with
    | nil => intro ds; rfl
    | cons c cs ih => intro ds; cases ds with
      | nil => rfl
      | cons d ds => simp only [List.map_cons, List.zipWith_cons_cons, hop, ih]
  unfold Af.each Af.of
  simp only [hop, this]
theorem plus_of (k m : Rat) (cs ds : List Rat) (h : cs.length = ds.length) : Af.plus (Af.of k cs) (Af.of m ds) = Af.of (k + m) (List.zipWith (· + ·) cs ds) := by
  unfold Af.plus
  have e : (Af.of k cs).l.length = cs.length := by simp [Af.of]
  rw [if_pos ⟨(Af.of_ok k cs _).2 e.symm, (Af.of_ok m ds _).2 (by rw [e, h])⟩]
  exact each_of Fc.add_of k m cs ds
theorem zip_self {g : Rat → Rat → Rat} {f : Rat → Rat} (h : ∀ x, g x x = f x) : ∀ cs : List Rat, List.zipWith g cs cs = cs.map f
  | [] => rfl
  | c :: cs => by simp only [List.zipWith_cons_cons, h, zip_self h cs, List.map_cons]
theorem times_of (k q : Rat) (cs : List Rat) : Af.times (Af.of k cs) (Fc.of q) = Af.of (k * q) (cs.map (· * q)) := by
  unfold Af.times
  have e : (Af.of k cs).l.length = cs.length := by simp [Af.of]
  rw [if_pos ⟨(Af.of_ok k cs _).2 e.symm, Fc.of_ok q⟩]
  rw [each_of (g := fun x _ => x * q) (fun x y => Fc.mul_of x q) k k cs cs, zip_self (f := (· * q)) (fun x => rfl)]
theorem term_times (c q : Rat) (p : Rat × Rat) : (c * q) * loQ (c * q) p = q * (if 0 ≤ q then c * loQ c p else c * hiQ c p) ∧ (c * q) * hiQ (c * q) p = q * (if 0 ≤ q then c * hiQ c p else c * loQ c p) := by
  have pos : ∀ {a b : Rat}, 0 < a → 0 < b → 0 < a * b := fun ha hb => Rat.mul_pos ha hb
  by_cases hq : 0 ≤ q
  · rw [if_pos hq, if_pos hq]
    by_cases hq0 : q = 0
    · subst hq0; constructor <;> grind
    · have hqp : 0 < q := by grind
      unfold loQ hiQ
      by_cases hc : c < 0
      · have : c * q < 0 := by have := pos (show 0 < -c by grind) hqp; grind
        rw [if_pos this, if_pos hc, if_pos this, if_pos hc]; constructor <;> grind
      · by_cases hc0 : c = 0
        · subst hc0; constructor <;> grind
        · have : ¬ c * q < 0 := by have := pos (show 0 < c by grind) hqp; grind
          rw [if_neg this, if_neg hc, if_neg this, if_neg hc]; constructor <;> grind
  · rw [if_neg hq, if_neg hq]
    have hqn : 0 < -q := by grind
    unfold loQ hiQ
    by_cases hc0 : c = 0
    · subst hc0; constructor <;> grind
    · by_cases hc : c < 0
      · have : ¬ c * q < 0 := by have := pos (show 0 < -c by grind) hqn; grind
        rw [if_neg this, if_pos hc, if_neg this, if_pos hc]; constructor <;> grind
      · have : c * q < 0 := by have := pos (show 0 < c by grind) hqn; grind
        rw [if_pos this, if_neg hc, if_pos this, if_neg hc]; constructor <;> grind
theorem dot_times (q : Rat) : ∀ (cs : List Rat) (ps : List (Rat × Rat)), cs.length = ps.length →
    dot (cs.map (· * q)) (lowsQ (cs.map (· * q)) ps) = q * (if 0 ≤ q then dot cs (lowsQ cs ps) else dot cs (highsQ cs ps)) ∧ dot (cs.map (· * q)) (highsQ (cs.map (· * q)) ps) = q * (if 0 ≤ q then dot cs (highsQ cs ps) else dot cs (lowsQ cs ps))
  | [], [], _ => by simp only [List.map_nil, dot_nil]; constructor <;> split <;> grind
  | [], _ :: _, h => by simp at h
  | _ :: _, [], h => by simp at h
  | c :: cs, p :: ps, h => by
    have ⟨h1, h2⟩ := dot_times q cs ps (by simpa using h)
    have ⟨h3, h4⟩ := term_times c q p
    show dot (c * q :: cs.map (· * q)) (loQ (c * q) p :: lowsQ (cs.map (· * q)) ps) = q * (if 0 ≤ q then dot (c :: cs) (loQ c p :: lowsQ cs ps) else dot (c :: cs) (hiQ c p :: highsQ cs ps)) ∧
      dot (c * q :: cs.map (· * q)) (hiQ (c * q) p :: highsQ (cs.map (· * q)) ps) = q * (if 0 ≤ q then dot (c :: cs) (hiQ c p :: highsQ cs ps) else dot (c :: cs) (loQ c p :: lowsQ cs ps))
    rw [dot_cons, dot_cons, dot_cons, dot_cons, h1, h2, h3, h4]
    constructor <;> split <;> grind
theorem range_times (k q : Rat) (cs : List Rat) (ps : List (Rat × Rat)) (h : cs.length = ps.length) :
    rangeQ (k * q) (cs.map (· * q)) ps = if 0 ≤ q then ((rangeQ k cs ps).1 * q, (rangeQ k cs ps).2 * q) else ((rangeQ k cs ps).2 * q, (rangeQ k cs ps).1 * q) := by
  have ⟨h1, h2⟩ := dot_times q cs ps h
  unfold rangeQ
  simp only [sumQ_dot]
  rw [h1, h2]
  split <;> (congr 1 <;> grind)
/-- the point where the negated function is least -/
theorem top_value (k : Rat) : ∀ (cs : List Rat) (ps : List (Rat × Rat)), cs.length = ps.length → sumQ k cs (lowsQ (cs.map (· * -1)) ps) = (rangeQ k cs ps).2 := by
  have key : ∀ (cs : List Rat) (ps : List (Rat × Rat)), cs.length = ps.length → dot cs (lowsQ (cs.map (· * -1)) ps) = dot cs (highsQ cs ps) := by
    intro cs
    induction cs with
    | nil => intro ps _; rw [dot_nil, dot_nil]
    | cons c cs ih => intro ps h; cases ps with
      | nil => simp at h
      | cons p ps =>
        show dot (c :: cs) (loQ (c * -1) p :: lowsQ (cs.map (· * -1)) ps) = dot (c :: cs) (hiQ c p :: highsQ cs ps)
        rw [dot_cons, dot_cons, ih ps (by simpa using h)]
        have : c * loQ (c * -1) p = c * hiQ c p := by
          have h1 := (term_times c (-1) p).1
          rw [if_neg (by decide)] at h1
          grind
        rw [this]
  intro cs ps h
  show _ = sumQ k cs (highsQ cs ps)
  rw [sumQ_dot, sumQ_dot, key cs ps h]
/-! ### sums -/
theorem term_plus (c d : Rat) (p : Rat × Rat) (hp : p.1 ≤ p.2) : c * loQ c p + d * loQ d p ≤ (c + d) * loQ (c + d) p ∧ (c + d) * hiQ (c + d) p ≤ c * hiQ c p + d * hiQ d p := by
  have hl : p.1 ≤ loQ (c + d) p ∧ loQ (c + d) p ≤ p.2 := by unfold loQ; split <;> grind
  have hh : p.1 ≤ hiQ (c + d) p ∧ hiQ (c + d) p ≤ p.2 := by unfold hiQ; split <;> grind
  have h1 := term_lo c p _ hl
  have h2 := term_lo d p _ hl
  have h3 := term_hi c p _ hh
  have h4 := term_hi d p _ hh
  constructor <;> grind
theorem dot_plus : ∀ (cs ds : List Rat) (ps : List (Rat × Rat)), cs.length = ps.length → ds.length = ps.length → okP ps →
    dot cs (lowsQ cs ps) + dot ds (lowsQ ds ps) ≤ dot (List.zipWith (· + ·) cs ds) (lowsQ (List.zipWith (· + ·) cs ds) ps) ∧ dot (List.zipWith (· + ·) cs ds) (highsQ (List.zipWith (· + ·) cs ds) ps) ≤ dot cs (highsQ cs ps) + dot ds (highsQ ds ps)
  | [], [], [], _, _, _ => by simp only [List.zipWith_nil_left, dot_nil]; constructor <;> grind
  | c :: cs, d :: ds, p :: ps, h1, h2, hp => by
    have ⟨i1, i2⟩ := dot_plus cs ds ps (by simpa using h1) (by simpa using h2) (fun q hq => hp q (by simp [hq]))
    have ⟨t1, t2⟩ := term_plus c d p (hp p (by simp))
    show dot (c :: cs) (loQ c p :: lowsQ cs ps) + dot (d :: ds) (loQ d p :: lowsQ ds ps) ≤ dot ((c + d) :: List.zipWith (· + ·) cs ds) (loQ (c + d) p :: lowsQ (List.zipWith (· + ·) cs ds) ps) ∧
      dot ((c + d) :: List.zipWith (· + ·) cs ds) (hiQ (c + d) p :: highsQ (List.zipWith (· + ·) cs ds) ps) ≤ dot (c :: cs) (hiQ c p :: highsQ cs ps) + dot (d :: ds) (hiQ d p :: highsQ ds ps)
    simp only [dot_cons]
    constructor <;> grind
  | [], [], _ :: _, h, _, _ => by simp at h
  | [], _ :: _, [], _, h, _ => by simp at h
  | [], _ :: _, _ :: _, h, _, _ => by simp at h
  | _ :: _, [], [], h, _, _ => by simp at h
  | _ :: _, [], _ :: _, _, h, _ => by simp at h
  | _ :: _, _ :: _, [], h, _, _ => by simp at h
theorem range_plus (k m : Rat) (cs ds : List Rat) (ps : List (Rat × Rat)) (h1 : cs.length = ps.length) (h2 : ds.length = ps.length) (hp : okP ps) :
    (rangeQ k cs ps).1 + (rangeQ m ds ps).1 ≤ (rangeQ (k + m) (List.zipWith (· + ·) cs ds) ps).1 ∧ (rangeQ (k + m) (List.zipWith (· + ·) cs ds) ps).2 ≤ (rangeQ k cs ps).2 + (rangeQ m ds ps).2 := by
  have ⟨i1, i2⟩ := dot_plus cs ds ps h1 h2 hp
  unfold rangeQ
  simp only [sumQ_dot]
  constructor <;> grind
theorem cmpQ_lt (x y : Rat) : Fc.cmp (Fc.of x) (Fc.of y) < 0 ↔ x < y := by
  rw [Fc.cmp_of]
  rcases Fc.ordQ_cases x y with ⟨h, e⟩ | ⟨h, e⟩ | ⟨h, e⟩ <;> rw [e]
  · exact ⟨fun _ => h, fun _ => by decide⟩
  · exact ⟨fun h' => absurd h' (by decide), fun h' => by rw [h] at h'; exact absurd h' Rat.lt_irrefl⟩
  · exact ⟨fun h' => absurd h' (by decide), fun h' => absurd (Rat.le_of_lt h) (Rat.not_le.2 h')⟩
theorem cmpQ_gt (x y : Rat) : Fc.cmp (Fc.of x) (Fc.of y) > 0 ↔ y < x := by rw [Fc.cmp_of]; exact ordQ_gt x y
theorem mul_point (p : Rat × Rat) (q : Rat) (hp : p.1 ≤ p.2) : Sc.mul (Sc.of p) (Sc.point (Fc.of q)) = Sc.of (if 0 ≤ q then (p.1 * q, p.2 * q) else (p.2 * q, p.1 * q)) := by
  have hpt : Sc.point (Fc.of q) = Sc.of (q, q) := by unfold Sc.point; rw [if_pos (Fc.of_ok q)]; rfl
  rw [hpt]
  unfold Sc.mul
  rw [if_pos ⟨(Sc.of_ok p).2 hp, (Sc.of_ok (q, q)).2 Rat.le_refl⟩]
  show Sc.around [Fc.mul (Fc.of p.1) (Fc.of q), Fc.mul (Fc.of p.1) (Fc.of q), Fc.mul (Fc.of p.2) (Fc.of q), Fc.mul (Fc.of p.2) (Fc.of q)] = _
  rw [Fc.mul_of, Fc.mul_of]
  unfold Sc.around
  simp only [List.getD_cons_zero, List.drop_succ_cons, List.drop_zero, Sc.least, Sc.great]
  have hirr : ∀ x : Rat, ¬ x < x := fun x => Rat.lt_irrefl
  have step : ∀ a b : Rat, (if Fc.cmp (Fc.of b) (Fc.of a) < 0 then Fc.of b else Fc.of a) = Fc.of (if b < a then b else a) := fun a b => by
    by_cases h : b < a
    · rw [if_pos ((cmpQ_lt b a).2 h), if_pos h]
    · rw [if_neg (fun h' => h ((cmpQ_lt b a).1 h')), if_neg h]
  have step2 : ∀ a b : Rat, (if Fc.cmp (Fc.of b) (Fc.of a) > 0 then Fc.of b else Fc.of a) = Fc.of (if a < b then b else a) := fun a b => by
    by_cases h : a < b
    · rw [if_pos ((cmpQ_gt b a).2 h), if_pos h]
    · rw [if_neg (fun h' => h ((cmpQ_gt b a).1 h')), if_neg h]
  simp only [step, step2, if_neg (hirr _)]
  by_cases hq : 0 ≤ q
  · rw [if_pos hq]
    have := Rat.mul_le_mul_of_nonneg_right hp hq
    unfold Sc.of
    congr 2
    · split
      · rename_i h; exact absurd h (Rat.not_lt.2 this)
      · rfl
    · by_cases h : p.1 * q < p.2 * q
      · rw [if_pos h, if_neg (hirr _)]
      · rw [if_neg h, if_neg h]
        exact Rat.le_antisymm this (Rat.not_lt.1 h)
  · rw [if_neg hq]
    have h0 := Rat.mul_le_mul_of_nonneg_right hp (show (0 : Rat) ≤ -q by grind)
    have : p.2 * q ≤ p.1 * q := by grind
    unfold Sc.of
    congr 2
    · by_cases h : p.2 * q < p.1 * q
      · rw [if_pos h, if_neg (hirr _)]
      · rw [if_neg h, if_neg h]
        exact (Rat.le_antisymm this (Rat.not_lt.1 h)).symm
    · split
      · rename_i h; exact absurd h (Rat.not_lt.2 this)
      · rfl
end Go.Slot

/- Plain laws: Narrow over the rational numbers; the small example. -/
namespace Go.Slot
open Go Go.RowKit Go.Slot.T
def swQ (c : Rat) (p : Rat × Rat) : Rat := max (c * (p.2 - p.1)) (-(c * (p.2 - p.1)))
theorem swing_of (c : Rat) (p : Rat × Rat) (hp : p.1 ≤ p.2) : Bk.swing (Fc.of c) (Sc.of p) = Fc.of (swQ c p) := by
  unfold Bk.swing swQ
  rw [width_of p hp, Fc.mul_of, Fc.neg_of, Fc.maxf_of]
def narQ : Nat → Int × Rat → List Rat → List (Rat × Rat) → Int × Rat
  | i, st, c :: cs, p :: ps => narQ (i + 1) (if st.2 < swQ c p then ((i : Int), swQ c p) else st) cs ps
  | _, st, _, _ => st
theorem nar_of : ∀ (cs : List Rat) (ps : List (Rat × Rat)) (i : Nat) (a : Int) (b : Rat), okP ps → Bk.nar i (a, Fc.of b) (cs.map Fc.of) (ps.map Sc.of) = ((narQ i (a, b) cs ps).1, Fc.of (narQ i (a, b) cs ps).2)
  | [], ps, i, a, b, _ => by cases ps <;> rfl
  | c :: cs, [], i, a, b, _ => rfl
  | c :: cs, p :: ps, i, a, b, hp => by
    show Bk.nar (i + 1) (if Fc.cmp (Bk.swing (Fc.of c) (Sc.of p)) (Fc.of b) > 0 then ((i : Int), Bk.swing (Fc.of c) (Sc.of p)) else (a, Fc.of b)) (cs.map Fc.of) (ps.map Sc.of) = ((narQ (i + 1) (if b < swQ c p then ((i : Int), swQ c p) else (a, b)) cs ps).1, Fc.of (narQ (i + 1) (if b < swQ c p then ((i : Int), swQ c p) else (a, b)) cs ps).2)
    rw [swing_of c p (hp p (by simp))]
    have hp' : okP ps := fun q hq => hp q (by simp [hq])
    by_cases h : b < swQ c p
    · rw [if_pos ((cmpQ_gt _ _).2 h), if_pos h]; exact nar_of cs ps (i + 1) i (swQ c p) hp'
    · rw [if_neg (fun h' => h ((cmpQ_gt _ _).1 h')), if_neg h]; exact nar_of cs ps (i + 1) a b hp'
theorem swQ_pos (c : Rat) (p : Rat × Rat) : 0 ≤ swQ c p := by unfold swQ; rw [Rat.max_def]; split <;> grind
theorem narQ_spec : ∀ (cs : List Rat) (ps : List (Rat × Rat)) (i : Nat) (st : Int × Rat), cs.length = ps.length →
    (narQ i st cs ps = st ∨ ∃ j, j < cs.length ∧ (narQ i st cs ps).1 = ((i + j : Nat) : Int) ∧ (narQ i st cs ps).2 = swQ (cs.getD j 0) (ps.getD j (0, 0))) ∧ st.2 ≤ (narQ i st cs ps).2 ∧
      ∀ j, j < cs.length → swQ (cs.getD j 0) (ps.getD j (0, 0)) ≤ (narQ i st cs ps).2
  | [], ps, i, st, _ => by
    have : narQ i st [] ps = st := by cases ps <;> rfl
    rw [this]
    exact ⟨.inl rfl, Rat.le_refl, fun j hj => by simp at hj⟩
  | _ :: _, [], _, _, h => by simp at h
  | c :: cs, p :: ps, i, st, h => by
    have ⟨h1, h2, h3⟩ := narQ_spec cs ps (i + 1) (if st.2 < swQ c p then ((i : Int), swQ c p) else st) (by simpa using h)
    have e : narQ i st (c :: cs) (p :: ps) = narQ (i + 1) (if st.2 < swQ c p then ((i : Int), swQ c p) else st) cs ps := rfl
    rw [e]
    have hst : st.2 ≤ (if st.2 < swQ c p then ((i : Int), swQ c p) else st).2 ∧ swQ c p ≤ (if st.2 < swQ c p then ((i : Int), swQ c p) else st).2 := by
      split
      · exact ⟨Rat.le_of_lt (by assumption), Rat.le_refl⟩
      · exact ⟨Rat.le_refl, Rat.not_lt.1 (by assumption)⟩
    refine ⟨?_, Rat.le_trans hst.1 h2, fun j hj => ?_⟩
    · rcases h1 with h1 | ⟨j, hj, hj1, hj2⟩
      · rw [h1]
        by_cases hc : st.2 < swQ c p
        · rw [if_pos hc]
          exact .inr ⟨0, by simp, by simp, rfl⟩
        · rw [if_neg hc]; exact .inl rfl
      · refine .inr ⟨j + 1, by simp; omega, by rw [hj1]; congr 1; omega, by rw [hj2]; simp⟩
    · cases j with
      | zero => exact Rat.le_trans hst.2 h2
      | succ j => simpa using h3 j (by simpa using hj)
/-- what Narrow finds -/
theorem narQ_found (cs : List Rat) (ps : List (Rat × Rat)) (h : cs.length = ps.length) (h0 : 0 < ps.length) :
    ∃ j, j < ps.length ∧ (narQ 0 (0, 0) cs ps).1 = (j : Int) ∧ (narQ 0 (0, 0) cs ps).2 = swQ (cs.getD j 0) (ps.getD j (0, 0)) ∧ ∀ i, i < ps.length → swQ (cs.getD i 0) (ps.getD i (0, 0)) ≤ (narQ 0 (0, 0) cs ps).2 := by
  obtain ⟨h1, h2, h3⟩ := narQ_spec cs ps 0 (0, 0) h
  rcases h1 with h1 | ⟨j, hj, hj1, hj2⟩
  · refine ⟨0, h0, by rw [h1]; rfl, ?_, fun i hi => h3 i (by omega)⟩
    have a1 := h3 0 (by omega)
    have a2 := swQ_pos (cs.getD 0 0) (ps.getD 0 (0, 0))
    rw [h1] at a1 ⊢
    exact Rat.le_antisymm a2 a1
  · exact ⟨j, by omega, by rw [hj1]; congr 1; omega, hj2, fun i hi => h3 i (by omega)⟩
/-- the sum of all swings -/
def totQ : List Rat → List (Rat × Rat) → Rat
  | c :: cs, p :: ps => swQ c p + totQ cs ps
  | _, _ => 0
theorem term_sw (c : Rat) (p : Rat × Rat) (hp : p.1 ≤ p.2) : c * hiQ c p - c * loQ c p = swQ c p := by
  unfold hiQ loQ swQ
  by_cases hc : c < 0
  · have := Rat.mul_le_mul_of_nonneg_left hp (show (0 : Rat) ≤ -c by grind)
    rw [if_pos hc, if_pos hc, Rat.max_def]
    split <;> grind
  · have := Rat.mul_le_mul_of_nonneg_left hp (Rat.not_lt.1 hc)
    rw [if_neg hc, if_neg hc, Rat.max_def]
    split <;> grind
theorem dot_width : ∀ (cs : List Rat) (ps : List (Rat × Rat)), cs.length = ps.length → okP ps → dot cs (highsQ cs ps) - dot cs (lowsQ cs ps) = totQ cs ps
  | [], ps, _, _ => by rw [dot_nil, dot_nil]; cases ps <;> exact Rat.sub_self
  | _ :: _, [], h, _ => by simp at h
  | c :: cs, p :: ps, h, hp => by
    show dot (c :: cs) (hiQ c p :: highsQ cs ps) - dot (c :: cs) (loQ c p :: lowsQ cs ps) = swQ c p + totQ cs ps
    rw [dot_cons, dot_cons]
    have h1 := dot_width cs ps (by simpa using h) (fun q hq => hp q (by simp [hq]))
    have h2 := term_sw c p (hp p (by simp))
    grind
theorem range_width (k : Rat) (cs : List Rat) (ps : List (Rat × Rat)) (h : cs.length = ps.length) (hp : okP ps) : (rangeQ k cs ps).2 - (rangeQ k cs ps).1 = totQ cs ps := by
  have := dot_width cs ps h hp
  unfold rangeQ
  simp only [sumQ_dot]
  grind
theorem swQ_point (c v : Rat) : swQ c (v, v) = 0 := by unfold swQ; rw [Rat.max_def]; split <;> grind
theorem totQ_set (v : Rat) : ∀ (cs : List Rat) (ps : List (Rat × Rat)) (i : Nat), cs.length = ps.length → i < ps.length → totQ cs (ps.set i (v, v)) = totQ cs ps - swQ (cs.getD i 0) (ps.getD i (0, 0))
  | [], ps, i, h, hi => by simp at h; omega
  | _ :: _, [], _, h, _ => by simp at h
  | c :: cs, p :: ps, 0, _, _ => by
    show swQ c (v, v) + totQ cs ps = swQ c p + totQ cs ps - swQ c p
    rw [swQ_point]; grind
  | c :: cs, p :: ps, i + 1, h, hi => by
    show swQ c p + totQ cs (ps.set i (v, v)) = swQ c p + totQ cs ps - swQ (cs.getD i 0) (ps.getD i (0, 0))
    rw [totQ_set v cs ps i (by simpa using h) (by simpa using hi)]; grind
theorem okP_set {ps : List (Rat × Rat)} (hp : okP ps) (i : Nat) (v : Rat) : okP (ps.set i (v, v)) := fun p h => by
  rcases List.mem_or_eq_of_mem_set h with h | rfl
  · exact hp p h
  · exact Rat.le_refl
theorem narrow_of (k : Rat) (cs : List Rat) (ps : List (Rat × Rat)) (h : cs.length = ps.length) (hp : okP ps) (h0 : 0 < ps.length) :
    Bk.narrow (Af.of k cs) (ps.map Sc.of) = ((narQ 0 (0, 0) cs ps).1, Fc.of (narQ 0 (0, 0) cs ps).2, 0) := by
  unfold Bk.narrow
  rw [if_pos ((Bk.ok_of k cs ps).2 ⟨h, hp⟩), if_neg (by simp; intro e; subst e; simp at h0)]
  show ((Bk.nar 0 (0, Fc.of 0) (cs.map Fc.of) (ps.map Sc.of)).1, (Bk.nar 0 (0, Fc.of 0) (cs.map Fc.of) (ps.map Sc.of)).2, 0) = _
  rw [nar_of cs ps 0 0 0 hp]

/-! ### the small example -/
def saneF : Af := Af.of 10 [2, -3]
def saneL : List Sc := [(1, 4), (0, 5)].map Sc.of
theorem sane_okP : okP [((1 : Rat), (4 : Rat)), (0, 5)] := by unfold okP; decide +kernel
theorem sane_ok : Bk.ok saneF saneL := (Bk.ok_of 10 [2, -3] [(1, 4), (0, 5)]).2 ⟨rfl, sane_okP⟩
theorem sane_bounds : Bk.bounds saneF saneL = Sc.of (-3, 18) := by
  unfold saneF saneL
  rw [bounds_of 10 [2, -3] [(1, 4), (0, 5)] rfl sane_okP, show rangeQ 10 [2, -3] [((1 : Rat), (4 : Rat)), (0, 5)] = (-3, 18) by decide +kernel]
theorem sane_narrow : Bk.narrow saneF saneL = (1, Fc.of 15, 0) := by
  unfold saneF saneL
  rw [narrow_of 10 [2, -3] [(1, 4), (0, 5)] rfl sane_okP (by decide)]
  rw [show narQ 0 (0, 0) [2, -3] [((1 : Rat), (4 : Rat)), (0, 5)] = (1, 15) by decide +kernel]
theorem sane_lows : Bk.lows saneF saneL = [1, 5].map Fc.of := by
  unfold saneF saneL
  rw [lows_of, show lowsQ [2, -3] [((1 : Rat), (4 : Rat)), (0, 5)] = [1, 5] by decide +kernel]
theorem sane_least : saneF.at' (Bk.lows saneF saneL) = Fc.of (-3) := by
  unfold saneF saneL
  rw [least_of 10 [2, -3] [(1, 4), (0, 5)] rfl, show rangeQ 10 [2, -3] [((1 : Rat), (4 : Rat)), (0, 5)] = (-3, 18) by decide +kernel]
theorem sane_floor (v : Rat) (ms : List Rat) (b : Bool) (hl : ms.length = 4) (hm : ∀ m ∈ ms, 0 ≤ m) (h : verQ v (floQ 10 ms [2, -3] [((1 : Rat), (4 : Rat)), (0, 5)]) = b) :
    Bk.floor saneF saneL (Fc.of v) (ms.map Fc.of) = b := by
  unfold saneF saneL
  rw [floor_of 10 [2, -3] [(1, 4), (0, 5)] v ms rfl sane_okP hl hm, h]
theorem sane_floor1 : Bk.floor saneF saneL (Fc.of (-3)) ([2, 0, 0, 3].map Fc.of) = true := sane_floor _ _ _ rfl (by decide +kernel) (by decide +kernel)
theorem sane_floor2 : Bk.floor saneF saneL (Fc.of (-2)) ([2, 0, 0, 3].map Fc.of) = false := sane_floor _ _ _ rfl (by decide +kernel) (by decide +kernel)
theorem sane_floor3 : Bk.floor saneF saneL (Fc.of (-3)) ([3, 1, 0, 3].map Fc.of) = false := sane_floor _ _ _ rfl (by decide +kernel) (by decide +kernel)
end Go.Slot

/- Contracts of the small functions of the statements of layer 46. -/
namespace Go.Slot.T
open Go Go.RowKit Go.Slot
open Go.Proofs.Try (prog)
set_option maxRecDepth 10000
set_option maxHeartbeats 4000000

theorem wList (L : List Int) (hl : L.length ≤ 1048576) (hL : ∀ n ∈ L, inI n) :
    CallsTo prog 34 [.one (.ints .i64 L)] (.one (.sl 4 ((L.map fun (n : Int) => Fc.of (n : Rat)).map Fc.C))) := by
  refine CallsTo.run [] Go.Proofs.Try.func34 rfl rfl ?_; conv => simp (maxSteps := 2000000) (disch := omega) only [go_sem, Nat.reduceAdd, Nat.reduceSub, Nat.reduceMul, Int.reduceToNat, Nat.reduceEqDiff, Nat.reduceBEq, Nat.reduceBneDiff, Go.Proofs.Try.f34, List.replicate]
  refine loopo [0] (fun i : Nat => [(3, .one (.tok 19 (.sl 4 (((L.take i).map fun (n : Int) => Fc.of (n : Rat)).map Fc.C)))), (4, .one (.raw (.int .i64 i)))]) (fun i => i ≤ L.length) (fun i => L.length - i) 0 (Nat.zero_le _) ?_ ?_
  · refine StLe.trans (StLe.tokI 3 19 (.sl 4 []) rfl rfl rfl) ?_
    conv => simp (maxSteps := 2000000) (disch := omega) only [go_sem, Nat.reduceAdd, Nat.reduceSub, Nat.reduceMul, Int.reduceToNat, Nat.reduceEqDiff, Nat.reduceBEq, Nat.reduceBneDiff]
    exact StLe.weaken (by repeat' first | exact .nil | refine .cons (by first | exact .refl _ | exact .any _) ?_) rfl
  rintro i hi
  have hz : ((L.take i).map fun (n : Int) => Fc.of (n : Rat)).length = i := by simp; omega
  conv => simp (maxSteps := 2000000) (disch := omega) only [go_sem, Nat.reduceAdd, Nat.reduceSub, Nat.reduceMul, Int.reduceToNat, Nat.reduceEqDiff, Nat.reduceBEq, Nat.reduceBneDiff]
  refine condd (fun h => ?_) (fun h => ?_)
  · have hi1 : i < L.length := by omega
    have e := take_snoc (0 : Int) hi1
    have hin : inI (L.getD i 0) := hL _ (by simp [hi1])
    conv => simp (maxSteps := 2000000) (disch := omega) only [go_sem, Nat.reduceAdd, Nat.reduceSub, Nat.reduceMul, Int.reduceToNat, Nat.reduceEqDiff, Nat.reduceBEq, Nat.reduceBneDiff]
    refine callk (rIntF (L.getD i 0) hin) ?_
    conv => simp (maxSteps := 2000000) (disch := omega) only [go_sem, Nat.reduceAdd, Nat.reduceSub, Nat.reduceMul, Int.reduceToNat, Nat.reduceEqDiff, Nat.reduceBEq, Nat.reduceBneDiff, hz]
    refine ⟨i + 1, by omega, by omega, ?_⟩
    rw [e, List.map_append, List.map_append]
    exact StLe.weaken (by repeat' first | exact .nil | refine .cons (by first | exact .refl _ | exact .any _) ?_) rfl
  · have hi' : i = L.length := by omega
    rw [hi', List.take_length]
    conv => simp (maxSteps := 2000000) (disch := omega) only [go_sem, Nat.reduceAdd, Nat.reduceSub, Nat.reduceMul, Int.reduceToNat, Nat.reduceEqDiff, Nat.reduceBEq, Nat.reduceBneDiff]
    exact ⟨_, rfl, .one (.refl _)⟩
theorem wOf (a b : Int) (ha : inI a) (hb : inI b) : CallsTo prog 35 [.one (.raw (.int .i64 a)), .one (.raw (.int .i64 b))] (.agg (Sc.of ((a : Rat), (b : Rat))).C) := by
  refine CallsTo.run [] Go.Proofs.Try.func35 rfl rfl ?_; conv => simp (maxSteps := 2000000) (disch := omega) only [go_sem, Nat.reduceAdd, Nat.reduceSub, Nat.reduceMul, Int.reduceToNat, Nat.reduceEqDiff, Nat.reduceBEq, Nat.reduceBneDiff, Go.Proofs.Try.f35, List.replicate]
  refine callk (rIntF a ha) ?_
  conv => simp (maxSteps := 2000000) (disch := omega) only [go_sem, Nat.reduceAdd, Nat.reduceSub, Nat.reduceMul, Int.reduceToNat, Nat.reduceEqDiff, Nat.reduceBEq, Nat.reduceBneDiff]
  refine callk (rIntF b hb) ?_
  conv => simp (maxSteps := 2000000) (disch := omega) only [go_sem, Nat.reduceAdd, Nat.reduceSub, Nat.reduceMul, Int.reduceToNat, Nat.reduceEqDiff, Nat.reduceBEq, Nat.reduceBneDiff]
  exact ⟨_, rfl, .one (.refl _)⟩
theorem sz_lit (q : Rat) (h1 : q.num.natAbs ≤ 18446744073709551615) (h2 : q.den ≤ 18446744073709551615) : (Fc.of q).sz ≤ 4 := by
  have a := dig_small h1
  have b := dig_small h2
  rw [Fc.sz_of]; omega
theorem szs_lit (L : List Rat) (h : ∀ q ∈ L, q.num.natAbs ≤ 18446744073709551615 ∧ q.den ≤ 18446744073709551615) : ∀ m ∈ L.map Fc.of, m.sz ≤ 4 := fun m hm => by
  obtain ⟨q, hq, rfl⟩ := List.mem_map.1 hm
  exact sz_lit q (h q hq).1 (h q hq).2
theorem sane_small : small saneF saneL := by
  have h1 := szs_lit [2, -3] (by decide)
  have h2 := szs_lit [1, 4, 0, 5] (by decide)
  refine ⟨by decide, by decide, ⟨Nat.le_trans (sz_lit 10 (by decide) (by decide)) (by decide), fun f hf => Nat.le_trans (h1 f hf) (by decide)⟩, fun s hs => ?_⟩
  have e : saneL = [Sc.of (1, 4), Sc.of (0, 5)] := rfl
  rw [e] at hs
  simp only [List.mem_cons, List.not_mem_nil, or_false] at hs
  have a1 := h2 (Fc.of 1) (by simp)
  have a2 := h2 (Fc.of 4) (by simp)
  have a3 := h2 (Fc.of 0) (by simp)
  have a4 := h2 (Fc.of 5) (by simp)
  rcases hs with rfl | rfl
  · show max (Fc.of 1).sz (Fc.of 4).sz ≤ 4096; omega
  · show max (Fc.of 0).sz (Fc.of 5).sz ≤ 4096; omega
theorem wSane : CallsTo prog 7 [] (.one (.raw (.bool true))) := by
  have s3 : (Fc.of (-3)).sz ≤ 4 := sz_lit _ (by decide) (by decide)
  have s2 : (Fc.of (-2)).sz ≤ 4 := sz_lit _ (by decide) (by decide)
  have s15 : (Fc.of 15).sz ≤ 4 := sz_lit _ (by decide) (by decide)
  have s18 : (Fc.of 18).sz ≤ 4 := sz_lit _ (by decide) (by decide)
  have i10 := rIntF 10 (by decide)
  have i15 := rIntF 15 (by decide)
  have i3 := rIntF (-3) (by decide)
  have i2 := rIntF (-2) (by decide)
  have l1 := wList [2, -3] (by decide) (by decide)
  have l2 := wList [1, 5] (by decide) (by decide)
  have l3 := wList [2, 0, 0, 3] (by decide) (by decide)
  have l4 := wList [3, 1, 0, 3] (by decide) (by decide)
  have o1 := wOf 1 4 (by decide) (by decide)
  have o2 := wOf 0 5 (by decide) (by decide)
  have o3 := wOf (-3) 18 (by decide) (by decide)
  have hB := cBounds saneF saneL sane_small
  rw [sane_bounds, Fc.er_of sane_ok] at hB
  have hN := cNarrow saneF saneL sane_small
  rw [sane_narrow] at hN
  have hL := cLeast saneF saneL sane_small
  rw [if_pos sane_ok, if_pos sane_ok, Fc.er_of sane_ok, sane_least, sane_lows] at hL
  have m3 := szs_lit [2, 0, 0, 3] (by decide)
  have m4 := szs_lit [3, 1, 0, 3] (by decide)
  have m2 := szs_lit [1, 5] (by decide)
  have f1 := cFloor saneF saneL (Fc.of (-3)) ([2, 0, 0, 3].map Fc.of) sane_small (by omega) (fun m hm => by have := m3 m hm; omega) (by decide)
  rw [sane_floor1] at f1
  have f2 := cFloor saneF saneL (Fc.of (-2)) ([2, 0, 0, 3].map Fc.of) sane_small (by omega) (fun m hm => by have := m3 m hm; omega) (by decide)
  rw [sane_floor2] at f2
  have f3 := cFloor saneF saneL (Fc.of (-3)) ([3, 1, 0, 3].map Fc.of) sane_small (by omega) (fun m hm => by have := m4 m hm; omega) (by decide)
  rw [sane_floor3] at f3
  have q1 := r10Same (Sc.of (-3, 18)) (Sc.of (-3, 18)) (by show max _ _ ≤ _; simp only [Sc.of]; omega) (by show max _ _ ≤ _; simp only [Sc.of]; omega)
  rw [decide_eq_true rfl] at q1
  have q2 := rSameF (Fc.of 15) (Fc.of 15) (by omega) (by omega)
  rw [decide_eq_true rfl] at q2
  have q3 := rSameF (Fc.of (-3)) (Fc.of (-3)) (by omega) (by omega)
  rw [decide_eq_true rfl] at q3
  have q4 := r46SameFracs ([1, 5].map Fc.of) ([1, 5].map Fc.of) (by decide) (by decide) (fun m hm => by have := m2 m hm; omega) (fun m hm => by have := m2 m hm; omega)
  rw [decide_eq_true rfl] at q4
  refine CallsTo.run [] Go.Proofs.Try.func7 rfl rfl ?_; conv => simp (maxSteps := 2000000) (disch := omega) only [go_sem, Nat.reduceAdd, Nat.reduceSub, Nat.reduceMul, Int.reduceToNat, Nat.reduceEqDiff, Nat.reduceBEq, Nat.reduceBneDiff, Go.Proofs.Try.f7, List.replicate]
  refine callk i10 ?_
  conv => simp (maxSteps := 2000000) (disch := omega) only [go_sem, Nat.reduceAdd, Nat.reduceSub, Nat.reduceMul, Int.reduceToNat, Nat.reduceEqDiff, Nat.reduceBEq, Nat.reduceBneDiff]
  refine callk l1 ?_
  conv => simp (maxSteps := 2000000) (disch := omega) only [go_sem, Nat.reduceAdd, Nat.reduceSub, Nat.reduceMul, Int.reduceToNat, Nat.reduceEqDiff, Nat.reduceBEq, Nat.reduceBneDiff]
  refine callk o1 ?_
  conv => simp (maxSteps := 2000000) (disch := omega) only [go_sem, Nat.reduceAdd, Nat.reduceSub, Nat.reduceMul, Int.reduceToNat, Nat.reduceEqDiff, Nat.reduceBEq, Nat.reduceBneDiff]
  refine callk o2 ?_
  conv => simp (maxSteps := 2000000) (disch := omega) only [go_sem, Nat.reduceAdd, Nat.reduceSub, Nat.reduceMul, Int.reduceToNat, Nat.reduceEqDiff, Nat.reduceBEq, Nat.reduceBneDiff]
  refine callk hB ?_
  conv => simp (maxSteps := 2000000) (disch := omega) only [go_sem, Nat.reduceAdd, Nat.reduceSub, Nat.reduceMul, Int.reduceToNat, Nat.reduceEqDiff, Nat.reduceBEq, Nat.reduceBneDiff]
  refine callk hN ?_
  conv => simp (maxSteps := 2000000) (disch := omega) only [go_sem, Nat.reduceAdd, Nat.reduceSub, Nat.reduceMul, Int.reduceToNat, Nat.reduceEqDiff, Nat.reduceBEq, Nat.reduceBneDiff]
  refine callk hL ?_
  conv => simp (maxSteps := 2000000) (disch := omega) only [go_sem, Nat.reduceAdd, Nat.reduceSub, Nat.reduceMul, Int.reduceToNat, Nat.reduceEqDiff, Nat.reduceBEq, Nat.reduceBneDiff]
  refine callk o3 ?_
  conv => simp (maxSteps := 2000000) (disch := omega) only [go_sem, Nat.reduceAdd, Nat.reduceSub, Nat.reduceMul, Int.reduceToNat, Nat.reduceEqDiff, Nat.reduceBEq, Nat.reduceBneDiff]
  refine callk q1 ?_
  conv => simp (maxSteps := 2000000) (disch := omega) only [go_sem, Nat.reduceAdd, Nat.reduceSub, Nat.reduceMul, Int.reduceToNat, Nat.reduceEqDiff, Nat.reduceBEq, Nat.reduceBneDiff]
  refine callk i15 ?_
  conv => simp (maxSteps := 2000000) (disch := omega) only [go_sem, Nat.reduceAdd, Nat.reduceSub, Nat.reduceMul, Int.reduceToNat, Nat.reduceEqDiff, Nat.reduceBEq, Nat.reduceBneDiff]
  refine callk q2 ?_
  conv => simp (maxSteps := 2000000) (disch := omega) only [go_sem, Nat.reduceAdd, Nat.reduceSub, Nat.reduceMul, Int.reduceToNat, Nat.reduceEqDiff, Nat.reduceBEq, Nat.reduceBneDiff]
  refine callk l2 ?_
  conv => simp (maxSteps := 2000000) (disch := omega) only [go_sem, Nat.reduceAdd, Nat.reduceSub, Nat.reduceMul, Int.reduceToNat, Nat.reduceEqDiff, Nat.reduceBEq, Nat.reduceBneDiff]
  refine callk q4 ?_
  conv => simp (maxSteps := 2000000) (disch := omega) only [go_sem, Nat.reduceAdd, Nat.reduceSub, Nat.reduceMul, Int.reduceToNat, Nat.reduceEqDiff, Nat.reduceBEq, Nat.reduceBneDiff]
  refine callk i3 ?_
  conv => simp (maxSteps := 2000000) (disch := omega) only [go_sem, Nat.reduceAdd, Nat.reduceSub, Nat.reduceMul, Int.reduceToNat, Nat.reduceEqDiff, Nat.reduceBEq, Nat.reduceBneDiff]
  refine callk q3 ?_
  conv => simp (maxSteps := 2000000) (disch := omega) only [go_sem, Nat.reduceAdd, Nat.reduceSub, Nat.reduceMul, Int.reduceToNat, Nat.reduceEqDiff, Nat.reduceBEq, Nat.reduceBneDiff]
  refine indk (by kernel_rfl) ?_
  conv => simp (maxSteps := 2000000) (disch := omega) only [go_sem, Nat.reduceAdd, Nat.reduceSub, Nat.reduceMul, Int.reduceToNat, Nat.reduceEqDiff, Nat.reduceBEq, Nat.reduceBneDiff]
  refine callk l3 ?_
  conv => simp (maxSteps := 2000000) (disch := omega) only [go_sem, Nat.reduceAdd, Nat.reduceSub, Nat.reduceMul, Int.reduceToNat, Nat.reduceEqDiff, Nat.reduceBEq, Nat.reduceBneDiff]
  refine callk i3 ?_
  conv => simp (maxSteps := 2000000) (disch := omega) only [go_sem, Nat.reduceAdd, Nat.reduceSub, Nat.reduceMul, Int.reduceToNat, Nat.reduceEqDiff, Nat.reduceBEq, Nat.reduceBneDiff]
  refine callk f1 ?_
  conv => simp (maxSteps := 2000000) (disch := omega) only [go_sem, Nat.reduceAdd, Nat.reduceSub, Nat.reduceMul, Int.reduceToNat, Nat.reduceEqDiff, Nat.reduceBEq, Nat.reduceBneDiff]
  refine callk i2 ?_
  conv => simp (maxSteps := 2000000) (disch := omega) only [go_sem, Nat.reduceAdd, Nat.reduceSub, Nat.reduceMul, Int.reduceToNat, Nat.reduceEqDiff, Nat.reduceBEq, Nat.reduceBneDiff]
  refine callk f2 ?_
  conv => simp (maxSteps := 2000000) (disch := omega) only [go_sem, Nat.reduceAdd, Nat.reduceSub, Nat.reduceMul, Int.reduceToNat, Nat.reduceEqDiff, Nat.reduceBEq, Nat.reduceBneDiff]
  refine callk i3 ?_
  conv => simp (maxSteps := 2000000) (disch := omega) only [go_sem, Nat.reduceAdd, Nat.reduceSub, Nat.reduceMul, Int.reduceToNat, Nat.reduceEqDiff, Nat.reduceBEq, Nat.reduceBneDiff]
  refine callk l4 ?_
  conv => simp (maxSteps := 2000000) (disch := omega) only [go_sem, Nat.reduceAdd, Nat.reduceSub, Nat.reduceMul, Int.reduceToNat, Nat.reduceEqDiff, Nat.reduceBEq, Nat.reduceBneDiff]
  refine callk f3 ?_
  conv => simp (maxSteps := 2000000) (disch := omega) only [go_sem, Nat.reduceAdd, Nat.reduceSub, Nat.reduceMul, Int.reduceToNat, Nat.reduceEqDiff, Nat.reduceBEq, Nat.reduceBneDiff]
  refine indk (by kernel_rfl) ?_
  conv => simp (maxSteps := 2000000) (disch := omega) only [go_sem, Nat.reduceAdd, Nat.reduceSub, Nat.reduceMul, Int.reduceToNat, Nat.reduceEqDiff, Nat.reduceBEq, Nat.reduceBneDiff]
  exact ⟨_, rfl, .one (.refl _)⟩
/-- do the numbers lie in the spans? -/
def insB : List Fc → List Sc → Bool
  | [], [] => true
  | v :: vs, s :: ss => decide (s.has v) && insB vs ss
  | _, _ => false
theorem insB_len : ∀ {vs : List Fc} {ss : List Sc}, insB vs ss = true → vs.length = ss.length
  | [], [], _ => rfl
  | v :: vs, s :: ss, h => by
    simp only [insB, Bool.and_eq_true] at h
    simp [insB_len h.2]
  | [], _ :: _, h => by cases h
  | _ :: _, [], h => by cases h
theorem wInside (v : List Fc) (l : List Sc) (lv : v.length ≤ 1048576) (_ll : l.length ≤ 1048576) (hv : ∀ f ∈ v, f.sz ≤ 67108864) (hs : ∀ s ∈ l, s.sz ≤ 67108864) :
    CallsTo prog 19 [.one (.sl 4 (v.map Fc.C)), .one (.sl 8 (l.map Sc.C))] (.one (.raw (.bool (insB v l)))) := by
  obtain ⟨r, hr⟩ : ∃ r, r = insB v l := ⟨_, rfl⟩
  rw [← hr]
  refine CallsTo.run [] Go.Proofs.Try.func19 rfl rfl ?_; conv => simp (maxSteps := 2000000) (disch := omega) only [go_sem, Nat.reduceAdd, Nat.reduceSub, Nat.reduceMul, Int.reduceToNat, Nat.reduceEqDiff, Nat.reduceBEq, Nat.reduceBneDiff, Go.Proofs.Try.f19, List.replicate]
  refine condd (fun h => ?_) (fun h => ?_)
  · conv => simp (maxSteps := 2000000) (disch := omega) only [go_sem, Nat.reduceAdd, Nat.reduceSub, Nat.reduceMul, Int.reduceToNat, Nat.reduceEqDiff, Nat.reduceBEq, Nat.reduceBneDiff]
    have e : false = r := by
      rw [hr]
      cases hb : insB v l with
      | false => rfl
      | true => exact absurd (by rw [insB_len hb]) h
    exact ⟨_, rfl, by rw [e]; exact .one (.refl _)⟩
  have hl : v.length = l.length := by omega
  conv => simp (maxSteps := 2000000) (disch := omega) only [go_sem, Nat.reduceAdd, Nat.reduceSub, Nat.reduceMul, Int.reduceToNat, Nat.reduceEqDiff, Nat.reduceBEq, Nat.reduceBneDiff]
  refine loopo [0, 1] (fun i : Nat => [(5, .one (.raw (.int .i64 i)))]) (fun i => i ≤ v.length ∧ insB v l = insB (v.drop i) (l.drop i)) (fun i => v.length - i) 0 ⟨Nat.zero_le _, rfl⟩ ?_ ?_
  · conv => simp (maxSteps := 2000000) (disch := omega) only [go_sem, Nat.reduceAdd, Nat.reduceSub, Nat.reduceMul, Int.reduceToNat, Nat.reduceEqDiff, Nat.reduceBEq, Nat.reduceBneDiff]
    exact StLe.weaken (by repeat' first | exact .nil | refine .cons (by first | exact .refl _ | exact .any _) ?_) rfl
  rintro i ⟨hi, he⟩
  conv => simp (maxSteps := 2000000) (disch := omega) only [go_sem, Nat.reduceAdd, Nat.reduceSub, Nat.reduceMul, Int.reduceToNat, Nat.reduceEqDiff, Nat.reduceBEq, Nat.reduceBneDiff]
  refine condd (fun h1 => ?_) (fun h1 => ?_)
  · have hi1 : i < v.length := by omega
    have hi2 : i < l.length := by omega
    rw [drop_cons Fc.zero hi1, drop_cons Sc.zero hi2] at he
    have he : insB v l = (decide ((l.getD i Sc.zero).has (v.getD i Fc.zero)) && insB (v.drop (i + 1)) (l.drop (i + 1))) := he
    conv => simp (maxSteps := 2000000) (disch := omega) only [go_sem, Nat.reduceAdd, Nat.reduceSub, Nat.reduceMul, Int.reduceToNat, Nat.reduceEqDiff, Nat.reduceBEq, Nat.reduceBneDiff]
    refine callk (cSpanHas (l.getD i Sc.zero) (v.getD i Fc.zero) (getS_sz hs hi2) (getD_sz hv hi1)) ?_
    conv => simp (maxSteps := 2000000) (disch := omega) only [go_sem, Nat.reduceAdd, Nat.reduceSub, Nat.reduceMul, Int.reduceToNat, Nat.reduceEqDiff, Nat.reduceBEq, Nat.reduceBneDiff]
    refine indk (by kernel_rfl) ?_
    conv => simp (maxSteps := 2000000) (disch := omega) only [go_sem, Nat.reduceAdd, Nat.reduceSub, Nat.reduceMul, Int.reduceToNat, Nat.reduceEqDiff, Nat.reduceBEq, Nat.reduceBneDiff]
    by_cases h2 : (l.getD i Sc.zero).has (v.getD i Fc.zero)
    · rw [decide_eq_true h2, Bool.true_and] at he
      refine condk (fun h => by rw [decide_eq_true h2] at h; cases h) (fun _ => ?_)
      conv => simp (maxSteps := 2000000) (disch := omega) only [go_sem, Nat.reduceAdd, Nat.reduceSub, Nat.reduceMul, Int.reduceToNat, Nat.reduceEqDiff, Nat.reduceBEq, Nat.reduceBneDiff]
      exact ⟨i + 1, ⟨by omega, he⟩, by omega, StLe.weaken (by repeat' first | exact .nil | refine .cons (by first | exact .refl _ | exact .any _) ?_) rfl⟩
    · rw [decide_eq_false h2, Bool.false_and] at he
      refine condk (fun _ => ?_) (fun h => by rw [decide_eq_false h2] at h; cases h)
      conv => simp (maxSteps := 2000000) (disch := omega) only [go_sem, Nat.reduceAdd, Nat.reduceSub, Nat.reduceMul, Int.reduceToNat, Nat.reduceEqDiff, Nat.reduceBEq, Nat.reduceBneDiff]
      exact ⟨_, rfl, by rw [hr, he]; exact .one (.refl _)⟩
  · have hi' : i = v.length := by omega
    rw [hi', List.drop_length, hl, List.drop_length] at he
    conv => simp (maxSteps := 2000000) (disch := omega) only [go_sem, Nat.reduceAdd, Nat.reduceSub, Nat.reduceMul, Int.reduceToNat, Nat.reduceEqDiff, Nat.reduceBEq, Nat.reduceBneDiff]
    exact ⟨_, rfl, by rw [hr, he]; exact .one (.refl _)⟩
end Go.Slot.T
