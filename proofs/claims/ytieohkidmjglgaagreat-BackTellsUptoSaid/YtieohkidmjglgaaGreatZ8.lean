import Derived.Test.YtieohkidmjglgaaGreatZ7
import Derived.JoinedCond
import Derived.ProofKit
/- Plain laws: what the statements of layer 46 need. -/
namespace Go.Slot
open Go Go.RowKit Go.Slot.T
/-! ### Floor -/
def floQ : Rat → List Rat → List Rat → List (Rat × Rat) → Option Rat
  | s, u :: d :: ms, c :: cs, p :: ps => if u - d = c then floQ (s + (u * p.1 - d * p.2)) ms cs ps else none
  | s, _, _, _ => some s
theorem flo_of : ∀ (ms cs : List Rat) (ps : List (Rat × Rat)) (s : Rat), Bk.flo (Fc.of s) (ms.map Fc.of) (cs.map Fc.of) (ps.map Sc.of) = (floQ s ms cs ps).map Fc.of
  | [], _, _, s => rfl
  | [_], _, _, s => rfl
  | _ :: _ :: _, [], _, s => rfl
  | _ :: _ :: _, _ :: _, [], s => rfl
  | u :: d :: ms, c :: cs, p :: ps, s => by
    show (if Fc.sub (Fc.of u) (Fc.of d) = Fc.of c then Bk.flo (Fc.add (Fc.of s) (Fc.sub (Fc.mul (Fc.of u) (Fc.of p.1)) (Fc.mul (Fc.of d) (Fc.of p.2)))) (ms.map Fc.of) (cs.map Fc.of) (ps.map Sc.of) else none) = _
    rw [Fc.sub_of, Fc.mul_of, Fc.mul_of, Fc.sub_of, Fc.add_of, flo_of ms cs ps]
    by_cases h : u - d = c
    · rw [if_pos (by rw [h])]
      show _ = (if u - d = c then floQ (s + (u * p.1 - d * p.2)) ms cs ps else none).map Fc.of
      rw [if_pos h]
    · rw [if_neg (fun h' => h (Fc.of_inj h'))]
      show _ = (if u - d = c then floQ (s + (u * p.1 - d * p.2)) ms cs ps else none).map Fc.of
      rw [if_neg h]; rfl
theorem okM_of (ms : List Rat) : Bk.okM (ms.map Fc.of) ↔ ∀ m ∈ ms, 0 ≤ m := by
  constructor
  · intro h m hm
    have := (h _ (List.mem_map.2 ⟨m, hm, rfl⟩)).2
    rw [Fc.sign_of] at this
    exact (sg_nonneg_iff m).1 this
  · intro h f hf
    obtain ⟨m, hm, rfl⟩ := List.mem_map.1 hf
    exact ⟨Fc.of_ok m, by rw [Fc.sign_of]; exact (sg_nonneg_iff m).2 (h m hm)⟩
theorem okM_ex {l : List Fc} (h : Bk.okM l) : ∃ ms : List Rat, l = ms.map Fc.of ∧ ∀ m ∈ ms, 0 ≤ m := by
  obtain ⟨ms, hms⟩ := oks_ex (fun f hf => (h f hf).1 : oks l)
  subst hms
  exact ⟨ms, rfl, (okM_of ms).1 h⟩
/-- is the value below what was found? -/
def verQ (v : Rat) : Option Rat → Bool
  | some s => decide (v ≤ s)
  | none => false
theorem floor_of (k : Rat) (cs : List Rat) (ps : List (Rat × Rat)) (v : Rat) (ms : List Rat) (h : cs.length = ps.length) (hp : okP ps) (hl : ms.length = 2 * ps.length) (hm : ∀ m ∈ ms, 0 ≤ m) :
    Bk.floor (Af.of k cs) (ps.map Sc.of) (Fc.of v) (ms.map Fc.of) = verQ v (floQ k ms cs ps) := by
  unfold Bk.floor
  rw [if_pos ⟨(Bk.ok_of k cs ps).2 ⟨h, hp⟩, Fc.of_ok v, by simpa using hl, (okM_of ms).2 hm⟩]
  show Bk.verdict (Fc.of v) (Bk.flo (Fc.of k) (ms.map Fc.of) (cs.map Fc.of) (ps.map Sc.of)) = _
  rw [flo_of]
  cases floQ k ms cs ps with
  | none => rfl
  | some s =>
    show decide (0 ≤ Fc.cmp (Fc.of s) (Fc.of v)) = decide (v ≤ s)
    rw [Fc.cmp_of]
    exact decide_eq_decide.2 (ordQ_ge s v)
theorem floQ_le : ∀ (ms cs : List Rat) (ps : List (Rat × Rat)) (s t : Rat), cs.length = ps.length → okP ps → ms.length = 2 * ps.length → (∀ m ∈ ms, 0 ≤ m) → floQ s ms cs ps = some t → t ≤ s + dot cs (lowsQ cs ps)
  | [], [], [], s, t, _, _, hl, _, hf => by
    have hf : some s = some t := hf
    cases hf
    rw [dot_nil]; grind
  | _ :: _, [], [], _, _, _, _, hl, _, _ => by simp at hl
  | _, [], _ :: _, _, _, h, _, _, _, _ => by simp at h
  | _, _ :: _, [], _, _, h, _, _, _, _ => by simp at h
  | [], _ :: _, _ :: _, _, _, _, _, hl, _, _ => by simp at hl
  | [_], _ :: _, _ :: _, _, _, _, _, hl, _, _ => by simp at hl; omega
  | u :: d :: ms, c :: cs, p :: ps, s, t, h, hp, hl, hm, hf => by
    have hf : (if u - d = c then floQ (s + (u * p.1 - d * p.2)) ms cs ps else none) = some t := hf
    split at hf
    case isFalse => cases hf
    rename_i huc
    have ih := floQ_le ms cs ps _ t (by simpa using h) (fun q hq => hp q (by simp [hq])) (by simp at hl; omega) (fun m hm' => hm m (by simp [hm'])) hf
    have hu := hm u (by simp)
    have hd := hm d (by simp)
    have hpp := hp p (by simp)
    have h1 : u * p.1 - d * p.2 ≤ c * loQ c p := by
      rw [← huc]
      unfold loQ
      split
      · have := Rat.mul_le_mul_of_nonneg_left hpp hu
        grind
      · have := Rat.mul_le_mul_of_nonneg_left hpp hd
        grind
    show t ≤ s + dot (c :: cs) (loQ c p :: lowsQ cs ps)
    rw [dot_cons]
    grind
/-- a function's own multipliers -/
def ownQ : List Rat → List Rat
  | [] => []
  | c :: cs => max c 0 :: max (-c) 0 :: ownQ cs
def ownM : List Fc → List Fc
  | [] => []
  | c :: cs => Fc.maxf c (Fc.of 0) :: Fc.maxf (Fc.neg c) (Fc.of 0) :: ownM cs
theorem ownM_of : ∀ cs : List Rat, ownM (cs.map Fc.of) = (ownQ cs).map Fc.of
  | [] => rfl
  | c :: cs => by
    show Fc.maxf (Fc.of c) (Fc.of 0) :: Fc.maxf (Fc.neg (Fc.of c)) (Fc.of 0) :: ownM (cs.map Fc.of) = Fc.of (max c 0) :: Fc.of (max (-c) 0) :: (ownQ cs).map Fc.of
    rw [Fc.neg_of, Fc.maxf_of, Fc.maxf_of, ownM_of cs]
theorem ownQ_len : ∀ cs : List Rat, (ownQ cs).length = 2 * cs.length
  | [] => rfl
  | c :: cs => by simp [ownQ, ownQ_len cs]; omega
theorem ownM_len : ∀ cs : List Fc, (ownM cs).length = 2 * cs.length
  | [] => rfl
  | c :: cs => by simp [ownM, ownM_len cs]; omega
theorem max_le_r (a b : Rat) : b ≤ max a b := by rw [Rat.max_def]; split <;> grind
theorem ownQ_pos : ∀ cs : List Rat, ∀ m ∈ ownQ cs, 0 ≤ m
  | [], m, h => by cases h
  | c :: cs, m, h => by
    simp only [ownQ, List.mem_cons] at h
    rcases h with rfl | rfl | h
    · exact max_le_r _ _
    · exact max_le_r _ _
    · exact ownQ_pos cs m h
theorem floQ_own : ∀ (cs : List Rat) (ps : List (Rat × Rat)) (s : Rat), cs.length = ps.length → floQ s (ownQ cs) cs ps = some (s + dot cs (lowsQ cs ps))
  | [], [], s, _ => by rw [dot_nil]; show some s = _; congr 1; grind
  | [], _ :: _, _, h => by simp at h
  | _ :: _, [], _, h => by simp at h
  | c :: cs, p :: ps, s, h => by
    show (if max c 0 - max (-c) 0 = c then floQ (s + (max c 0 * p.1 - max (-c) 0 * p.2)) (ownQ cs) cs ps else none) = some (s + dot (c :: cs) (loQ c p :: lowsQ cs ps))
    have h1 : max c 0 - max (-c) 0 = c ∧ max c 0 * p.1 - max (-c) 0 * p.2 = c * loQ c p := by
      unfold loQ
      rw [Rat.max_def, Rat.max_def]
      split <;> split <;> split <;> grind
    rw [if_pos h1.1, floQ_own cs ps _ (by simpa using h), h1.2, dot_cons]
    congr 1; grind
/-- the statement's heart -/
theorem floors (k : Rat) (cs : List Rat) (ps : List (Rat × Rat)) (v : Rat) (ms : List Fc) (h : cs.length = ps.length) (hp : okP ps) :
    (Bk.floor (Af.of k cs) (ps.map Sc.of) (Fc.of v) ms = true → v ≤ (rangeQ k cs ps).1) ∧ Bk.floor (Af.of k cs) (ps.map Sc.of) (Fc.of v) (ownM (cs.map Fc.of)) = decide (v ≤ (rangeQ k cs ps).1) := by
  constructor
  · intro hf
    have hc : Bk.ok (Af.of k cs) (ps.map Sc.of) ∧ (Fc.of v).ok ∧ ms.length = 2 * (ps.map Sc.of).length ∧ Bk.okM ms := by
      rcases Decidable.em (Bk.ok (Af.of k cs) (ps.map Sc.of) ∧ (Fc.of v).ok ∧ ms.length = 2 * (ps.map Sc.of).length ∧ Bk.okM ms) with hc | hc
      · exact hc
      · unfold Bk.floor at hf
        rw [if_neg hc] at hf; cases hf
    obtain ⟨qs, rfl, hq⟩ := okM_ex hc.2.2.2
    have hl : qs.length = 2 * ps.length := by simpa using hc.2.2.1
    rw [floor_of k cs ps v qs h hp hl hq] at hf
    cases hfl : floQ k qs cs ps with
    | none => rw [hfl] at hf; cases hf
    | some s =>
      rw [hfl] at hf
      have h1 : v ≤ s := of_decide_eq_true hf
      have h2 := floQ_le qs cs ps k s h hp hl hq hfl
      unfold rangeQ
      rw [sumQ_dot]
      exact Rat.le_trans h1 h2
  · rw [ownM_of, floor_of k cs ps v (ownQ cs) h hp (by rw [ownQ_len, h]) (ownQ_pos cs), floQ_own cs ps k h]
    unfold rangeQ
    rw [sumQ_dot]
    rfl
/-! ### the negated function -/
theorem each_of {op : Fc → Fc → Fc} {g : Rat → Rat → Rat} (hop : ∀ x y, op (Fc.of x) (Fc.of y) = Fc.of (g x y)) (k m : Rat) (cs ds : List Rat) : Af.each op (Af.of k cs) (Af.of m ds) = Af.of (g k m) (List.zipWith g cs ds) := by
  have : ∀ (cs ds : List Rat), List.zipWith op (cs.map Fc.of) (ds.map Fc.of) = (List.zipWith g cs ds).map Fc.of := by
    intro cs
    induction cs with
    | nil => intro ds; rfl
    | cons c cs ih => intro ds; cases ds with
      | nil => rfl
      | cons d ds => simp only [List.map_cons, List.zipWith_cons_cons, hop, ih]
  unfold Af.each Af.of
  simp only [hop, this]
theorem plus_of (k m : Rat) (cs ds : List Rat) (h : cs.length = ds.length) : Af.plus (Af.of k cs) (Af.of m ds) = Af.of (k + m) (List.zipWith (· + ·) cs ds) := by
  unfold Af.plus
  have e : (Af.of k cs).l.length = cs.length := by simp [Af.of]
  rw [if_pos ⟨(Af.of_ok k cs _).2 e.symm, (Af.of_ok m ds _).2 (by rw [e, h])⟩]
  exact each_of Fc.add_of k m cs ds
theorem zip_self {g : Rat → Rat → Rat} {f : Rat → Rat} (h : ∀ x, g x x = f x) : ∀ cs : List Rat, List.zipWith g cs cs = cs.map f
  | [] => rfl
  | c :: cs => by simp only [List.zipWith_cons_cons, h, zip_self h cs, List.map_cons]
theorem times_of (k q : Rat) (cs : List Rat) : Af.times (Af.of k cs) (Fc.of q) = Af.of (k * q) (cs.map (· * q)) := by
  unfold Af.times
  have e : (Af.of k cs).l.length = cs.length := by simp [Af.of]
  rw [if_pos ⟨(Af.of_ok k cs _).2 e.symm, Fc.of_ok q⟩]
  rw [each_of (g := fun x _ => x * q) (fun x y => Fc.mul_of x q) k k cs cs, zip_self (f := (· * q)) (fun x => rfl)]
theorem term_times (c q : Rat) (p : Rat × Rat) : (c * q) * loQ (c * q) p = q * (if 0 ≤ q then c * loQ c p else c * hiQ c p) ∧ (c * q) * hiQ (c * q) p = q * (if 0 ≤ q then c * hiQ c p else c * loQ c p) := by
  have pos : ∀ {a b : Rat}, 0 < a → 0 < b → 0 < a * b := fun ha hb => Rat.mul_pos ha hb
  by_cases hq : 0 ≤ q
  · rw [if_pos hq, if_pos hq]
    by_cases hq0 : q = 0
    · subst hq0; constructor <;> grind
    · have hqp : 0 < q := by grind
      unfold loQ hiQ
      by_cases hc : c < 0
      · have : c * q < 0 := by have := pos (show 0 < -c by grind) hqp; grind
        rw [if_pos this, if_pos hc, if_pos this, if_pos hc]; constructor <;> grind
      · by_cases hc0 : c = 0
        · subst hc0; constructor <;> grind
        · have : ¬ c * q < 0 := by have := pos (show 0 < c by grind) hqp; grind
          rw [if_neg this, if_neg hc, if_neg this, if_neg hc]; constructor <;> grind
  · rw [if_neg hq, if_neg hq]
    have hqn : 0 < -q := by grind
    unfold loQ hiQ
    by_cases hc0 : c = 0
    · subst hc0; constructor <;> grind
    · by_cases hc : c < 0
      · have : ¬ c * q < 0 := by have := pos (show 0 < -c by grind) hqn; grind
        rw [if_neg this, if_pos hc, if_neg this, if_pos hc]; constructor <;> grind
      · have : c * q < 0 := by have := pos (show 0 < c by grind) hqn; grind
        rw [if_pos this, if_neg hc, if_pos this, if_neg hc]; constructor <;> grind
theorem dot_times (q : Rat) : ∀ (cs : List Rat) (ps : List (Rat × Rat)), cs.length = ps.length →
    dot (cs.map (· * q)) (lowsQ (cs.map (· * q)) ps) = q * (if 0 ≤ q then dot cs (lowsQ cs ps) else dot cs (highsQ cs ps)) ∧ dot (cs.map (· * q)) (highsQ (cs.map (· * q)) ps) = q * (if 0 ≤ q then dot cs (highsQ cs ps) else dot cs (lowsQ cs ps))
  | [], [], _ => by simp only [List.map_nil, dot_nil]; constructor <;> split <;> grind
  | [], _ :: _, h => by simp at h
  | _ :: _, [], h => by simp at h
  | c :: cs, p :: ps, h => by
    have ⟨h1, h2⟩ := dot_times q cs ps (by simpa using h)
    have ⟨h3, h4⟩ := term_times c q p
    show dot (c * q :: cs.map (· * q)) (loQ (c * q) p :: lowsQ (cs.map (· * q)) ps) = q * (if 0 ≤ q then dot (c :: cs) (loQ c p :: lowsQ cs ps) else dot (c :: cs) (hiQ c p :: highsQ cs ps)) ∧
      dot (c * q :: cs.map (· * q)) (hiQ (c * q) p :: highsQ (cs.map (· * q)) ps) = q * (if 0 ≤ q then dot (c :: cs) (hiQ c p :: highsQ cs ps) else dot (c :: cs) (loQ c p :: lowsQ cs ps))
    rw [dot_cons, dot_cons, dot_cons, dot_cons, h1, h2, h3, h4]
    constructor <;> split <;> grind
theorem range_times (k q : Rat) (cs : List Rat) (ps : List (Rat × Rat)) (h : cs.length = ps.length) :
    rangeQ (k * q) (cs.map (· * q)) ps = if 0 ≤ q then ((rangeQ k cs ps).1 * q, (rangeQ k cs ps).2 * q) else ((rangeQ k cs ps).2 * q, (rangeQ k cs ps).1 * q) := by
  have ⟨h1, h2⟩ := dot_times q cs ps h
  unfold rangeQ
  simp only [sumQ_dot]
  rw [h1, h2]
  split <;> (congr 1 <;> grind)
/-- the point where the negated function is least -/
theorem top_value (k : Rat) : ∀ (cs : List Rat) (ps : List (Rat × Rat)), cs.length = ps.length → sumQ k cs (lowsQ (cs.map (· * -1)) ps) = (rangeQ k cs ps).2 := by
  have key : ∀ (cs : List Rat) (ps : List (Rat × Rat)), cs.length = ps.length → dot cs (lowsQ (cs.map (· * -1)) ps) = dot cs (highsQ cs ps) := by
    intro cs
    induction cs with
    | nil => intro ps _; rw [dot_nil, dot_nil]
    | cons c cs ih => intro ps h; cases ps with
      | nil => simp at h
      | cons p ps =>
        show dot (c :: cs) (loQ (c * -1) p :: lowsQ (cs.map (· * -1)) ps) = dot (c :: cs) (hiQ c p :: highsQ cs ps)
        rw [dot_cons, dot_cons, ih ps (by simpa using h)]
        have : c * loQ (c * -1) p = c * hiQ c p := by
          have h1 := (term_times c (-1) p).1
          rw [if_neg (by decide)] at h1
          grind
        rw [this]
  intro cs ps h
  show _ = sumQ k cs (highsQ cs ps)
  rw [sumQ_dot, sumQ_dot, key cs ps h]
/-! ### sums -/
theorem term_plus (c d : Rat) (p : Rat × Rat) (hp : p.1 ≤ p.2) : c * loQ c p + d * loQ d p ≤ (c + d) * loQ (c + d) p ∧ (c + d) * hiQ (c + d) p ≤ c * hiQ c p + d * hiQ d p := by
  have hl : p.1 ≤ loQ (c + d) p ∧ loQ (c + d) p ≤ p.2 := by unfold loQ; split <;> grind
  have hh : p.1 ≤ hiQ (c + d) p ∧ hiQ (c + d) p ≤ p.2 := by unfold hiQ; split <;> grind
  have h1 := term_lo c p _ hl
  have h2 := term_lo d p _ hl
  have h3 := term_hi c p _ hh
  have h4 := term_hi d p _ hh
  constructor <;> grind
theorem dot_plus : ∀ (cs ds : List Rat) (ps : List (Rat × Rat)), cs.length = ps.length → ds.length = ps.length → okP ps →
    dot cs (lowsQ cs ps) + dot ds (lowsQ ds ps) ≤ dot (List.zipWith (· + ·) cs ds) (lowsQ (List.zipWith (· + ·) cs ds) ps) ∧ dot (List.zipWith (· + ·) cs ds) (highsQ (List.zipWith (· + ·) cs ds) ps) ≤ dot cs (highsQ cs ps) + dot ds (highsQ ds ps)
  | [], [], [], _, _, _ => by simp only [List.zipWith_nil_left, dot_nil]; constructor <;> grind
  | c :: cs, d :: ds, p :: ps, h1, h2, hp => by
    have ⟨i1, i2⟩ := dot_plus cs ds ps (by simpa using h1) (by simpa using h2) (fun q hq => hp q (by simp [hq]))
    have ⟨t1, t2⟩ := term_plus c d p (hp p (by simp))
    show dot (c :: cs) (loQ c p :: lowsQ cs ps) + dot (d :: ds) (loQ d p :: lowsQ ds ps) ≤ dot ((c + d) :: List.zipWith (· + ·) cs ds) (loQ (c + d) p :: lowsQ (List.zipWith (· + ·) cs ds) ps) ∧
      dot ((c + d) :: List.zipWith (· + ·) cs ds) (hiQ (c + d) p :: highsQ (List.zipWith (· + ·) cs ds) ps) ≤ dot (c :: cs) (hiQ c p :: highsQ cs ps) + dot (d :: ds) (hiQ d p :: highsQ ds ps)
    simp only [dot_cons]
    constructor <;> grind
  | [], [], _ :: _, h, _, _ => by simp at h
  | [], _ :: _, [], _, h, _ => by simp at h
  | [], _ :: _, _ :: _, h, _, _ => by simp at h
  | _ :: _, [], [], h, _, _ => by simp at h
  | _ :: _, [], _ :: _, _, h, _ => by simp at h
  | _ :: _, _ :: _, [], h, _, _ => by simp at h
theorem range_plus (k m : Rat) (cs ds : List Rat) (ps : List (Rat × Rat)) (h1 : cs.length = ps.length) (h2 : ds.length = ps.length) (hp : okP ps) :
    (rangeQ k cs ps).1 + (rangeQ m ds ps).1 ≤ (rangeQ (k + m) (List.zipWith (· + ·) cs ds) ps).1 ∧ (rangeQ (k + m) (List.zipWith (· + ·) cs ds) ps).2 ≤ (rangeQ k cs ps).2 + (rangeQ m ds ps).2 := by
  have ⟨i1, i2⟩ := dot_plus cs ds ps h1 h2 hp
  unfold rangeQ
  simp only [sumQ_dot]
  constructor <;> grind
theorem cmpQ_lt (x y : Rat) : Fc.cmp (Fc.of x) (Fc.of y) < 0 ↔ x < y := by
  rw [Fc.cmp_of]
  rcases Fc.ordQ_cases x y with ⟨h, e⟩ | ⟨h, e⟩ | ⟨h, e⟩ <;> rw [e]
  · exact ⟨fun _ => h, fun _ => by decide⟩
  · exact ⟨fun h' => absurd h' (by decide), fun h' => by rw [h] at h'; exact absurd h' Rat.lt_irrefl⟩
  · exact ⟨fun h' => absurd h' (by decide), fun h' => absurd (Rat.le_of_lt h) (Rat.not_le.2 h')⟩
theorem cmpQ_gt (x y : Rat) : Fc.cmp (Fc.of x) (Fc.of y) > 0 ↔ y < x := by rw [Fc.cmp_of]; exact ordQ_gt x y
theorem mul_point (p : Rat × Rat) (q : Rat) (hp : p.1 ≤ p.2) : Sc.mul (Sc.of p) (Sc.point (Fc.of q)) = Sc.of (if 0 ≤ q then (p.1 * q, p.2 * q) else (p.2 * q, p.1 * q)) := by
  have hpt : Sc.point (Fc.of q) = Sc.of (q, q) := by unfold Sc.point; rw [if_pos (Fc.of_ok q)]; rfl
  rw [hpt]
  unfold Sc.mul
  rw [if_pos ⟨(Sc.of_ok p).2 hp, (Sc.of_ok (q, q)).2 Rat.le_refl⟩]
  show Sc.around [Fc.mul (Fc.of p.1) (Fc.of q), Fc.mul (Fc.of p.1) (Fc.of q), Fc.mul (Fc.of p.2) (Fc.of q), Fc.mul (Fc.of p.2) (Fc.of q)] = _
  rw [Fc.mul_of, Fc.mul_of]
  unfold Sc.around
  simp only [List.getD_cons_zero, List.drop_succ_cons, List.drop_zero, Sc.least, Sc.great]
  have hirr : ∀ x : Rat, ¬ x < x := fun x => Rat.lt_irrefl
  have step : ∀ a b : Rat, (if Fc.cmp (Fc.of b) (Fc.of a) < 0 then Fc.of b else Fc.of a) = Fc.of (if b < a then b else a) := fun a b => by
    by_cases h : b < a
    · rw [if_pos ((cmpQ_lt b a).2 h), if_pos h]
    · rw [if_neg (fun h' => h ((cmpQ_lt b a).1 h')), if_neg h]
  have step2 : ∀ a b : Rat, (if Fc.cmp (Fc.of b) (Fc.of a) > 0 then Fc.of b else Fc.of a) = Fc.of (if a < b then b else a) := fun a b => by
    by_cases h : a < b
    · rw [if_pos ((cmpQ_gt b a).2 h), if_pos h]
    · rw [if_neg (fun h' => h ((cmpQ_gt b a).1 h')), if_neg h]
  simp only [step, step2, if_neg (hirr _)]
  by_cases hq : 0 ≤ q
  · rw [if_pos hq]
    have := Rat.mul_le_mul_of_nonneg_right hp hq
    unfold Sc.of
    congr 2
    · split
      · rename_i h; exact absurd h (Rat.not_lt.2 this)
      · rfl
    · by_cases h : p.1 * q < p.2 * q
      · rw [if_pos h, if_neg (hirr _)]
      · rw [if_neg h, if_neg h]
        exact Rat.le_antisymm this (Rat.not_lt.1 h)
  · rw [if_neg hq]
    have h0 := Rat.mul_le_mul_of_nonneg_right hp (show (0 : Rat) ≤ -q by grind)
    have : p.2 * q ≤ p.1 * q := by grind
    unfold Sc.of
    congr 2
    · by_cases h : p.2 * q < p.1 * q
      · rw [if_pos h, if_neg (hirr _)]
      · rw [if_neg h, if_neg h]
        exact (Rat.le_antisymm this (Rat.not_lt.1 h)).symm
    · split
      · rename_i h; exact absurd h (Rat.not_lt.2 this)
      · rfl
end Go.Slot

/- Plain laws: Narrow over the rational numbers; the small example. -/
namespace Go.Slot
open Go Go.RowKit Go.Slot.T
def swQ (c : Rat) (p : Rat × Rat) : Rat := max (c * (p.2 - p.1)) (-(c * (p.2 - p.1)))
theorem swing_of (c : Rat) (p : Rat × Rat) (hp : p.1 ≤ p.2) : Bk.swing (Fc.of c) (Sc.of p) = Fc.of (swQ c p) := by
  unfold Bk.swing swQ
  rw [width_of p hp, Fc.mul_of, Fc.neg_of, Fc.maxf_of]
def narQ : Nat → Int × Rat → List Rat → List (Rat × Rat) → Int × Rat
  | i, st, c :: cs, p :: ps => narQ (i + 1) (if st.2 < swQ c p then ((i : Int), swQ c p) else st) cs ps
  | _, st, _, _ => st
theorem nar_of : ∀ (cs : List Rat) (ps : List (Rat × Rat)) (i : Nat) (a : Int) (b : Rat), okP ps → Bk.nar i (a, Fc.of b) (cs.map Fc.of) (ps.map Sc.of) = ((narQ i (a, b) cs ps).1, Fc.of (narQ i (a, b) cs ps).2)
  | [], ps, i, a, b, _ => by cases ps <;> rfl
  | c :: cs, [], i, a, b, _ => rfl
  | c :: cs, p :: ps, i, a, b, hp => by
    show Bk.nar (i + 1) (if Fc.cmp (Bk.swing (Fc.of c) (Sc.of p)) (Fc.of b) > 0 then ((i : Int), Bk.swing (Fc.of c) (Sc.of p)) else (a, Fc.of b)) (cs.map Fc.of) (ps.map Sc.of) = ((narQ (i + 1) (if b < swQ c p then ((i : Int), swQ c p) else (a, b)) cs ps).1, Fc.of (narQ (i + 1) (if b < swQ c p then ((i : Int), swQ c p) else (a, b)) cs ps).2)
    rw [swing_of c p (hp p (by simp))]
    have hp' : okP ps := fun q hq => hp q (by simp [hq])
    by_cases h : b < swQ c p
    · rw [if_pos ((cmpQ_gt _ _).2 h), if_pos h]; exact nar_of cs ps (i + 1) i (swQ c p) hp'
    · rw [if_neg (fun h' => h ((cmpQ_gt _ _).1 h')), if_neg h]; exact nar_of cs ps (i + 1) a b hp'
theorem swQ_pos (c : Rat) (p : Rat × Rat) : 0 ≤ swQ c p := by unfold swQ; rw [Rat.max_def]; split <;> grind
theorem narQ_spec : ∀ (cs : List Rat) (ps : List (Rat × Rat)) (i : Nat) (st : Int × Rat), cs.length = ps.length →
    (narQ i st cs ps = st ∨ ∃ j, j < cs.length ∧ (narQ i st cs ps).1 = ((i + j : Nat) : Int) ∧ (narQ i st cs ps).2 = swQ (cs.getD j 0) (ps.getD j (0, 0))) ∧ st.2 ≤ (narQ i st cs ps).2 ∧
      ∀ j, j < cs.length → swQ (cs.getD j 0) (ps.getD j (0, 0)) ≤ (narQ i st cs ps).2
  | [], ps, i, st, _ => by
    have : narQ i st [] ps = st := by cases ps <;> rfl
    rw [this]
    exact ⟨.inl rfl, Rat.le_refl, fun j hj => by simp at hj⟩
  | _ :: _, [], _, _, h => by simp at h
  | c :: cs, p :: ps, i, st, h => by
    have ⟨h1, h2, h3⟩ := narQ_spec cs ps (i + 1) (if st.2 < swQ c p then ((i : Int), swQ c p) else st) (by simpa using h)
    have e : narQ i st (c :: cs) (p :: ps) = narQ (i + 1) (if st.2 < swQ c p then ((i : Int), swQ c p) else st) cs ps := rfl
    rw [e]
    have hst : st.2 ≤ (if st.2 < swQ c p then ((i : Int), swQ c p) else st).2 ∧ swQ c p ≤ (if st.2 < swQ c p then ((i : Int), swQ c p) else st).2 := by
      split
      · exact ⟨Rat.le_of_lt (by assumption), Rat.le_refl⟩
      · exact ⟨Rat.le_refl, Rat.not_lt.1 (by assumption)⟩
    refine ⟨?_, Rat.le_trans hst.1 h2, fun j hj => ?_⟩
    · rcases h1 with h1 | ⟨j, hj, hj1, hj2⟩
      · rw [h1]
        by_cases hc : st.2 < swQ c p
        · rw [if_pos hc]
          exact .inr ⟨0, by simp, by simp, rfl⟩
        · rw [if_neg hc]; exact .inl rfl
      · refine .inr ⟨j + 1, by simp; omega, by rw [hj1]; congr 1; omega, by rw [hj2]; simp⟩
    · cases j with
      | zero => exact Rat.le_trans hst.2 h2
      | succ j => simpa using h3 j (by simpa using hj)
/-- what Narrow finds -/
theorem narQ_found (cs : List Rat) (ps : List (Rat × Rat)) (h : cs.length = ps.length) (h0 : 0 < ps.length) :
    ∃ j, j < ps.length ∧ (narQ 0 (0, 0) cs ps).1 = (j : Int) ∧ (narQ 0 (0, 0) cs ps).2 = swQ (cs.getD j 0) (ps.getD j (0, 0)) ∧ ∀ i, i < ps.length → swQ (cs.getD i 0) (ps.getD i (0, 0)) ≤ (narQ 0 (0, 0) cs ps).2 := by
  obtain ⟨h1, h2, h3⟩ := narQ_spec cs ps 0 (0, 0) h
  rcases h1 with h1 | ⟨j, hj, hj1, hj2⟩
  · refine ⟨0, h0, by rw [h1]; rfl, ?_, fun i hi => h3 i (by omega)⟩
    have a1 := h3 0 (by omega)
    have a2 := swQ_pos (cs.getD 0 0) (ps.getD 0 (0, 0))
    rw [h1] at a1 ⊢
    exact Rat.le_antisymm a2 a1
  · exact ⟨j, by omega, by rw [hj1]; congr 1; omega, hj2, fun i hi => h3 i (by omega)⟩
/-- the sum of all swings -/
def totQ : List Rat → List (Rat × Rat) → Rat
  | c :: cs, p :: ps => swQ c p + totQ cs ps
  | _, _ => 0
theorem term_sw (c : Rat) (p : Rat × Rat) (hp : p.1 ≤ p.2) : c * hiQ c p - c * loQ c p = swQ c p := by
  unfold hiQ loQ swQ
  by_cases hc : c < 0
  · have := Rat.mul_le_mul_of_nonneg_left hp (show (0 : Rat) ≤ -c by grind)
    rw [if_pos hc, if_pos hc, Rat.max_def]
    split <;> grind
  · have := Rat.mul_le_mul_of_nonneg_left hp (Rat.not_lt.1 hc)
    rw [if_neg hc, if_neg hc, Rat.max_def]
    split <;> grind
theorem dot_width : ∀ (cs : List Rat) (ps : List (Rat × Rat)), cs.length = ps.length → okP ps → dot cs (highsQ cs ps) - dot cs (lowsQ cs ps) = totQ cs ps
  | [], ps, _, _ => by rw [dot_nil, dot_nil]; cases ps <;> exact Rat.sub_self
  | _ :: _, [], h, _ => by simp at h
  | c :: cs, p :: ps, h, hp => by
    show dot (c :: cs) (hiQ c p :: highsQ cs ps) - dot (c :: cs) (loQ c p :: lowsQ cs ps) = swQ c p + totQ cs ps
    rw [dot_cons, dot_cons]
    have h1 := dot_width cs ps (by simpa using h) (fun q hq => hp q (by simp [hq]))
    have h2 := term_sw c p (hp p (by simp))
    grind
theorem range_width (k : Rat) (cs : List Rat) (ps : List (Rat × Rat)) (h : cs.length = ps.length) (hp : okP ps) : (rangeQ k cs ps).2 - (rangeQ k cs ps).1 = totQ cs ps := by
  have := dot_width cs ps h hp
  unfold rangeQ
  simp only [sumQ_dot]
  grind
theorem swQ_point (c v : Rat) : swQ c (v, v) = 0 := by unfold swQ; rw [Rat.max_def]; split <;> grind
theorem totQ_set (v : Rat) : ∀ (cs : List Rat) (ps : List (Rat × Rat)) (i : Nat), cs.length = ps.length → i < ps.length → totQ cs (ps.set i (v, v)) = totQ cs ps - swQ (cs.getD i 0) (ps.getD i (0, 0))
  | [], ps, i, h, hi => by simp at h; omega
  | _ :: _, [], _, h, _ => by simp at h
  | c :: cs, p :: ps, 0, _, _ => by
    show swQ c (v, v) + totQ cs ps = swQ c p + totQ cs ps - swQ c p
    rw [swQ_point]; grind
  | c :: cs, p :: ps, i + 1, h, hi => by
    show swQ c p + totQ cs (ps.set i (v, v)) = swQ c p + totQ cs ps - swQ (cs.getD i 0) (ps.getD i (0, 0))
    rw [totQ_set v cs ps i (by simpa using h) (by simpa using hi)]; grind
theorem okP_set {ps : List (Rat × Rat)} (hp : okP ps) (i : Nat) (v : Rat) : okP (ps.set i (v, v)) := fun p h => by
  rcases List.mem_or_eq_of_mem_set h with h | rfl
  · exact hp p h
  · exact Rat.le_refl
theorem narrow_of (k : Rat) (cs : List Rat) (ps : List (Rat × Rat)) (h : cs.length = ps.length) (hp : okP ps) (h0 : 0 < ps.length) :
    Bk.narrow (Af.of k cs) (ps.map Sc.of) = ((narQ 0 (0, 0) cs ps).1, Fc.of (narQ 0 (0, 0) cs ps).2, 0) := by
  unfold Bk.narrow
  rw [if_pos ((Bk.ok_of k cs ps).2 ⟨h, hp⟩), if_neg (by simp; intro e; subst e; simp at h0)]
  show ((Bk.nar 0 (0, Fc.of 0) (cs.map Fc.of) (ps.map Sc.of)).1, (Bk.nar 0 (0, Fc.of 0) (cs.map Fc.of) (ps.map Sc.of)).2, 0) = _
  rw [nar_of cs ps 0 0 0 hp]

/-! ### the small example -/
def saneF : Af := Af.of 10 [2, -3]
def saneL : List Sc := [(1, 4), (0, 5)].map Sc.of
theorem sane_okP : okP [((1 : Rat), (4 : Rat)), (0, 5)] := by unfold okP; decide +kernel
theorem sane_ok : Bk.ok saneF saneL := (Bk.ok_of 10 [2, -3] [(1, 4), (0, 5)]).2 ⟨rfl, sane_okP⟩
theorem sane_bounds : Bk.bounds saneF saneL = Sc.of (-3, 18) := by
  unfold saneF saneL
  rw [bounds_of 10 [2, -3] [(1, 4), (0, 5)] rfl sane_okP, show rangeQ 10 [2, -3] [((1 : Rat), (4 : Rat)), (0, 5)] = (-3, 18) by decide +kernel]
theorem sane_narrow : Bk.narrow saneF saneL = (1, Fc.of 15, 0) := by
  unfold saneF saneL
  rw [narrow_of 10 [2, -3] [(1, 4), (0, 5)] rfl sane_okP (by decide)]
  rw [show narQ 0 (0, 0) [2, -3] [((1 : Rat), (4 : Rat)), (0, 5)] = (1, 15) by decide +kernel]
theorem sane_lows : Bk.lows saneF saneL = [1, 5].map Fc.of := by
  unfold saneF saneL
  rw [lows_of, show lowsQ [2, -3] [((1 : Rat), (4 : Rat)), (0, 5)] = [1, 5] by decide +kernel]
theorem sane_least : saneF.at' (Bk.lows saneF saneL) = Fc.of (-3) := by
  unfold saneF saneL
  rw [least_of 10 [2, -3] [(1, 4), (0, 5)] rfl, show rangeQ 10 [2, -3] [((1 : Rat), (4 : Rat)), (0, 5)] = (-3, 18) by decide +kernel]
theorem sane_floor (v : Rat) (ms : List Rat) (b : Bool) (hl : ms.length = 4) (hm : ∀ m ∈ ms, 0 ≤ m) (h : verQ v (floQ 10 ms [2, -3] [((1 : Rat), (4 : Rat)), (0, 5)]) = b) :
    Bk.floor saneF saneL (Fc.of v) (ms.map Fc.of) = b := by
  unfold saneF saneL
  rw [floor_of 10 [2, -3] [(1, 4), (0, 5)] v ms rfl sane_okP hl hm, h]
theorem sane_floor1 : Bk.floor saneF saneL (Fc.of (-3)) ([2, 0, 0, 3].map Fc.of) = true := sane_floor _ _ _ rfl (by decide +kernel) (by decide +kernel)
theorem sane_floor2 : Bk.floor saneF saneL (Fc.of (-2)) ([2, 0, 0, 3].map Fc.of) = false := sane_floor _ _ _ rfl (by decide +kernel) (by decide +kernel)
theorem sane_floor3 : Bk.floor saneF saneL (Fc.of (-3)) ([3, 1, 0, 3].map Fc.of) = false := sane_floor _ _ _ rfl (by decide +kernel) (by decide +kernel)
end Go.Slot

/- Contracts of the small functions of the statements of layer 46. -/
namespace Go.Slot.T
open Go Go.RowKit Go.Slot
open Go.Proofs.Tryz (prog)
set_option maxRecDepth 10000
set_option maxHeartbeats 4000000

theorem wList (L : List Int) (hl : L.length ≤ 1048576) (hL : ∀ n ∈ L, inI n) :
    CallsTo prog 26 [.one (.ints .i64 L)] (.one (.sl 4 ((L.map fun (n : Int) => Fc.of (n : Rat)).map Fc.C))) := by
  refine CallsTo.run [] Go.Proofs.Tryz.func26 rfl rfl ?_; conv => simp (maxSteps := 2000000) (disch := omega) only [go_sem, Nat.reduceAdd, Nat.reduceSub, Nat.reduceMul, Int.reduceToNat, Nat.reduceEqDiff, Nat.reduceBEq, Nat.reduceBneDiff, Go.Proofs.Tryz.f26, List.replicate]
  refine loopo [0] (fun i : Nat => [(3, .one (.tok 19 (.sl 4 (((L.take i).map fun (n : Int) => Fc.of (n : Rat)).map Fc.C)))), (4, .one (.raw (.int .i64 i)))]) (fun i => i ≤ L.length) (fun i => L.length - i) 0 (Nat.zero_le _) ?_ ?_
  · refine StLe.trans (StLe.tokI 3 19 (.sl 4 []) rfl rfl rfl) ?_
    conv => simp (maxSteps := 2000000) (disch := omega) only [go_sem, Nat.reduceAdd, Nat.reduceSub, Nat.reduceMul, Int.reduceToNat, Nat.reduceEqDiff, Nat.reduceBEq, Nat.reduceBneDiff]
    exact StLe.weaken (by repeat' first | exact .nil | refine .cons (by first | exact .refl _ | exact .any _) ?_) rfl
  rintro i hi
  have hz : ((L.take i).map fun (n : Int) => Fc.of (n : Rat)).length = i := by simp; omega
  conv => simp (maxSteps := 2000000) (disch := omega) only [go_sem, Nat.reduceAdd, Nat.reduceSub, Nat.reduceMul, Int.reduceToNat, Nat.reduceEqDiff, Nat.reduceBEq, Nat.reduceBneDiff]
  refine condd (fun h => ?_) (fun h => ?_)
  · have hi1 : i < L.length := by omega
    have e := take_snoc (0 : Int) hi1
    have hin : inI (L.getD i 0) := hL _ (by simp [hi1])
    conv => simp (maxSteps := 2000000) (disch := omega) only [go_sem, Nat.reduceAdd, Nat.reduceSub, Nat.reduceMul, Int.reduceToNat, Nat.reduceEqDiff, Nat.reduceBEq, Nat.reduceBneDiff]
    refine callk (rIntF (L.getD i 0) hin) ?_
    conv => simp (maxSteps := 2000000) (disch := omega) only [go_sem, Nat.reduceAdd, Nat.reduceSub, Nat.reduceMul, Int.reduceToNat, Nat.reduceEqDiff, Nat.reduceBEq, Nat.reduceBneDiff, hz]
    refine ⟨i + 1, by omega, by omega, ?_⟩
    rw [e, List.map_append, List.map_append]
    exact StLe.weaken (by repeat' first | exact .nil | refine .cons (by first | exact .refl _ | exact .any _) ?_) rfl
  · have hi' : i = L.length := by omega
    rw [hi', List.take_length]
    conv => simp (maxSteps := 2000000) (disch := omega) only [go_sem, Nat.reduceAdd, Nat.reduceSub, Nat.reduceMul, Int.reduceToNat, Nat.reduceEqDiff, Nat.reduceBEq, Nat.reduceBneDiff]
    exact ⟨_, rfl, .one (.refl _)⟩
theorem wOf (a b : Int) (ha : inI a) (hb : inI b) : CallsTo prog 27 [.one (.raw (.int .i64 a)), .one (.raw (.int .i64 b))] (.agg (Sc.of ((a : Rat), (b : Rat))).C) := by
  refine CallsTo.run [] Go.Proofs.Tryz.func27 rfl rfl ?_; conv => simp (maxSteps := 2000000) (disch := omega) only [go_sem, Nat.reduceAdd, Nat.reduceSub, Nat.reduceMul, Int.reduceToNat, Nat.reduceEqDiff, Nat.reduceBEq, Nat.reduceBneDiff, Go.Proofs.Tryz.f27, List.replicate]
  refine callk (rIntF a ha) ?_
  conv => simp (maxSteps := 2000000) (disch := omega) only [go_sem, Nat.reduceAdd, Nat.reduceSub, Nat.reduceMul, Int.reduceToNat, Nat.reduceEqDiff, Nat.reduceBEq, Nat.reduceBneDiff]
  refine callk (rIntF b hb) ?_
  conv => simp (maxSteps := 2000000) (disch := omega) only [go_sem, Nat.reduceAdd, Nat.reduceSub, Nat.reduceMul, Int.reduceToNat, Nat.reduceEqDiff, Nat.reduceBEq, Nat.reduceBneDiff]
  exact ⟨_, rfl, .one (.refl _)⟩
theorem sz_lit (q : Rat) (h1 : q.num.natAbs ≤ 18446744073709551615) (h2 : q.den ≤ 18446744073709551615) : (Fc.of q).sz ≤ 4 := by
  have a := dig_small h1
  have b := dig_small h2
  rw [Fc.sz_of]; omega
theorem szs_lit (L : List Rat) (h : ∀ q ∈ L, q.num.natAbs ≤ 18446744073709551615 ∧ q.den ≤ 18446744073709551615) : ∀ m ∈ L.map Fc.of, m.sz ≤ 4 := fun m hm => by
  obtain ⟨q, hq, rfl⟩ := List.mem_map.1 hm
  exact sz_lit q (h q hq).1 (h q hq).2
theorem sane_small : small saneF saneL := by
  have h1 := szs_lit [2, -3] (by decide)
  have h2 := szs_lit [1, 4, 0, 5] (by decide)
  refine ⟨by decide, by decide, ⟨Nat.le_trans (sz_lit 10 (by decide) (by decide)) (by decide), fun f hf => Nat.le_trans (h1 f hf) (by decide)⟩, fun s hs => ?_⟩
  have e : saneL = [Sc.of (1, 4), Sc.of (0, 5)] := rfl
  rw [e] at hs
  simp only [List.mem_cons, List.not_mem_nil, or_false] at hs
  have a1 := h2 (Fc.of 1) (by simp)
  have a2 := h2 (Fc.of 4) (by simp)
  have a3 := h2 (Fc.of 0) (by simp)
  have a4 := h2 (Fc.of 5) (by simp)
  rcases hs with rfl | rfl
  · show max (Fc.of 1).sz (Fc.of 4).sz ≤ 4096; omega
  · show max (Fc.of 0).sz (Fc.of 5).sz ≤ 4096; omega
theorem wSane : CallsTo prog 5 [] (.one (.raw (.bool true))) := by
  have s3 : (Fc.of (-3)).sz ≤ 4 := sz_lit _ (by decide) (by decide)
  have s2 : (Fc.of (-2)).sz ≤ 4 := sz_lit _ (by decide) (by decide)
  have s15 : (Fc.of 15).sz ≤ 4 := sz_lit _ (by decide) (by decide)
  have s18 : (Fc.of 18).sz ≤ 4 := sz_lit _ (by decide) (by decide)
  have i10 := rIntF 10 (by decide)
  have i15 := rIntF 15 (by decide)
  have i3 := rIntF (-3) (by decide)
  have i2 := rIntF (-2) (by decide)
  have l1 := wList [2, -3] (by decide) (by decide)
  have l2 := wList [1, 5] (by decide) (by decide)
  have l3 := wList [2, 0, 0, 3] (by decide) (by decide)
  have l4 := wList [3, 1, 0, 3] (by decide) (by decide)
  have o1 := wOf 1 4 (by decide) (by decide)
  have o2 := wOf 0 5 (by decide) (by decide)
  have o3 := wOf (-3) 18 (by decide) (by decide)
  have hB := cBounds saneF saneL sane_small
  rw [sane_bounds, Fc.er_of sane_ok] at hB
  have hN := cNarrow saneF saneL sane_small
  rw [sane_narrow] at hN
  have hL := cLeast saneF saneL sane_small
  rw [if_pos sane_ok, if_pos sane_ok, Fc.er_of sane_ok, sane_least, sane_lows] at hL
  have m3 := szs_lit [2, 0, 0, 3] (by decide)
  have m4 := szs_lit [3, 1, 0, 3] (by decide)
  have m2 := szs_lit [1, 5] (by decide)
  have f1 := cFloor saneF saneL (Fc.of (-3)) ([2, 0, 0, 3].map Fc.of) sane_small (by omega) (fun m hm => by have := m3 m hm; omega) (by decide)
  rw [sane_floor1] at f1
  have f2 := cFloor saneF saneL (Fc.of (-2)) ([2, 0, 0, 3].map Fc.of) sane_small (by omega) (fun m hm => by have := m3 m hm; omega) (by decide)
  rw [sane_floor2] at f2
  have f3 := cFloor saneF saneL (Fc.of (-3)) ([3, 1, 0, 3].map Fc.of) sane_small (by omega) (fun m hm => by have := m4 m hm; omega) (by decide)
  rw [sane_floor3] at f3
  have q1 := r10Same (Sc.of (-3, 18)) (Sc.of (-3, 18)) (by show max _ _ ≤ _; simp only [Sc.of]; omega) (by show max _ _ ≤ _; simp only [Sc.of]; omega)
  rw [decide_eq_true rfl] at q1
  have q2 := rSameF (Fc.of 15) (Fc.of 15) (by omega) (by omega)
  rw [decide_eq_true rfl] at q2
  have q3 := rSameF (Fc.of (-3)) (Fc.of (-3)) (by omega) (by omega)
  rw [decide_eq_true rfl] at q3
  have q4 := r46SameFracs ([1, 5].map Fc.of) ([1, 5].map Fc.of) (by decide) (by decide) (fun m hm => by have := m2 m hm; omega) (fun m hm => by have := m2 m hm; omega)
  rw [decide_eq_true rfl] at q4
  refine CallsTo.run [] Go.Proofs.Tryz.func5 rfl rfl ?_; conv => simp (maxSteps := 2000000) (disch := omega) only [go_sem, Nat.reduceAdd, Nat.reduceSub, Nat.reduceMul, Int.reduceToNat, Nat.reduceEqDiff, Nat.reduceBEq, Nat.reduceBneDiff, Go.Proofs.Tryz.f5, List.replicate]
  refine callk i10 ?_
  conv => simp (maxSteps := 2000000) (disch := omega) only [go_sem, Nat.reduceAdd, Nat.reduceSub, Nat.reduceMul, Int.reduceToNat, Nat.reduceEqDiff, Nat.reduceBEq, Nat.reduceBneDiff]
  refine callk l1 ?_
  conv => simp (maxSteps := 2000000) (disch := omega) only [go_sem, Nat.reduceAdd, Nat.reduceSub, Nat.reduceMul, Int.reduceToNat, Nat.reduceEqDiff, Nat.reduceBEq, Nat.reduceBneDiff]
  refine callk o1 ?_
  conv => simp (maxSteps := 2000000) (disch := omega) only [go_sem, Nat.reduceAdd, Nat.reduceSub, Nat.reduceMul, Int.reduceToNat, Nat.reduceEqDiff, Nat.reduceBEq, Nat.reduceBneDiff]
  refine callk o2 ?_
  conv => simp (maxSteps := 2000000) (disch := omega) only [go_sem, Nat.reduceAdd, Nat.reduceSub, Nat.reduceMul, Int.reduceToNat, Nat.reduceEqDiff, Nat.reduceBEq, Nat.reduceBneDiff]
  refine callk hB ?_
  conv => simp (maxSteps := 2000000) (disch := omega) only [go_sem, Nat.reduceAdd, Nat.reduceSub, Nat.reduceMul, Int.reduceToNat, Nat.reduceEqDiff, Nat.reduceBEq, Nat.reduceBneDiff]
  refine callk hN ?_
  conv => simp (maxSteps := 2000000) (disch := omega) only [go_sem, Nat.reduceAdd, Nat.reduceSub, Nat.reduceMul, Int.reduceToNat, Nat.reduceEqDiff, Nat.reduceBEq, Nat.reduceBneDiff]
  refine callk hL ?_
  conv => simp (maxSteps := 2000000) (disch := omega) only [go_sem, Nat.reduceAdd, Nat.reduceSub, Nat.reduceMul, Int.reduceToNat, Nat.reduceEqDiff, Nat.reduceBEq, Nat.reduceBneDiff]
  refine callk o3 ?_
  conv => simp (maxSteps := 2000000) (disch := omega) only [go_sem, Nat.reduceAdd, Nat.reduceSub, Nat.reduceMul, Int.reduceToNat, Nat.reduceEqDiff, Nat.reduceBEq, Nat.reduceBneDiff]
  refine callk q1 ?_
  conv => simp (maxSteps := 2000000) (disch := omega) only [go_sem, Nat.reduceAdd, Nat.reduceSub, Nat.reduceMul, Int.reduceToNat, Nat.reduceEqDiff, Nat.reduceBEq, Nat.reduceBneDiff]
  refine callk i15 ?_
  conv => simp (maxSteps := 2000000) (disch := omega) only [go_sem, Nat.reduceAdd, Nat.reduceSub, Nat.reduceMul, Int.reduceToNat, Nat.reduceEqDiff, Nat.reduceBEq, Nat.reduceBneDiff]
  refine callk q2 ?_
  conv => simp (maxSteps := 2000000) (disch := omega) only [go_sem, Nat.reduceAdd, Nat.reduceSub, Nat.reduceMul, Int.reduceToNat, Nat.reduceEqDiff, Nat.reduceBEq, Nat.reduceBneDiff]
  refine callk l2 ?_
  conv => simp (maxSteps := 2000000) (disch := omega) only [go_sem, Nat.reduceAdd, Nat.reduceSub, Nat.reduceMul, Int.reduceToNat, Nat.reduceEqDiff, Nat.reduceBEq, Nat.reduceBneDiff]
  refine callk q4 ?_
  conv => simp (maxSteps := 2000000) (disch := omega) only [go_sem, Nat.reduceAdd, Nat.reduceSub, Nat.reduceMul, Int.reduceToNat, Nat.reduceEqDiff, Nat.reduceBEq, Nat.reduceBneDiff]
  refine callk i3 ?_
  conv => simp (maxSteps := 2000000) (disch := omega) only [go_sem, Nat.reduceAdd, Nat.reduceSub, Nat.reduceMul, Int.reduceToNat, Nat.reduceEqDiff, Nat.reduceBEq, Nat.reduceBneDiff]
  refine callk q3 ?_
  conv => simp (maxSteps := 2000000) (disch := omega) only [go_sem, Nat.reduceAdd, Nat.reduceSub, Nat.reduceMul, Int.reduceToNat, Nat.reduceEqDiff, Nat.reduceBEq, Nat.reduceBneDiff]
  refine indk (by kernel_rfl) ?_
  conv => simp (maxSteps := 2000000) (disch := omega) only [go_sem, Nat.reduceAdd, Nat.reduceSub, Nat.reduceMul, Int.reduceToNat, Nat.reduceEqDiff, Nat.reduceBEq, Nat.reduceBneDiff]
  refine callk l3 ?_
  conv => simp (maxSteps := 2000000) (disch := omega) only [go_sem, Nat.reduceAdd, Nat.reduceSub, Nat.reduceMul, Int.reduceToNat, Nat.reduceEqDiff, Nat.reduceBEq, Nat.reduceBneDiff]
  refine callk i3 ?_
  conv => simp (maxSteps := 2000000) (disch := omega) only [go_sem, Nat.reduceAdd, Nat.reduceSub, Nat.reduceMul, Int.reduceToNat, Nat.reduceEqDiff, Nat.reduceBEq, Nat.reduceBneDiff]
  refine callk f1 ?_
  conv => simp (maxSteps := 2000000) (disch := omega) only [go_sem, Nat.reduceAdd, Nat.reduceSub, Nat.reduceMul, Int.reduceToNat, Nat.reduceEqDiff, Nat.reduceBEq, Nat.reduceBneDiff]
  refine callk i2 ?_
  conv => simp (maxSteps := 2000000) (disch := omega) only [go_sem, Nat.reduceAdd, Nat.reduceSub, Nat.reduceMul, Int.reduceToNat, Nat.reduceEqDiff, Nat.reduceBEq, Nat.reduceBneDiff]
  refine callk f2 ?_
  conv => simp (maxSteps := 2000000) (disch := omega) only [go_sem, Nat.reduceAdd, Nat.reduceSub, Nat.reduceMul, Int.reduceToNat, Nat.reduceEqDiff, Nat.reduceBEq, Nat.reduceBneDiff]
  refine callk i3 ?_
  conv => simp (maxSteps := 2000000) (disch := omega) only [go_sem, Nat.reduceAdd, Nat.reduceSub, Nat.reduceMul, Int.reduceToNat, Nat.reduceEqDiff, Nat.reduceBEq, Nat.reduceBneDiff]
  refine callk l4 ?_
  conv => simp (maxSteps := 2000000) (disch := omega) only [go_sem, Nat.reduceAdd, Nat.reduceSub, Nat.reduceMul, Int.reduceToNat, Nat.reduceEqDiff, Nat.reduceBEq, Nat.reduceBneDiff]
  refine callk f3 ?_
  conv => simp (maxSteps := 2000000) (disch := omega) only [go_sem, Nat.reduceAdd, Nat.reduceSub, Nat.reduceMul, Int.reduceToNat, Nat.reduceEqDiff, Nat.reduceBEq, Nat.reduceBneDiff]
  refine indk (by kernel_rfl) ?_
  conv => simp (maxSteps := 2000000) (disch := omega) only [go_sem, Nat.reduceAdd, Nat.reduceSub, Nat.reduceMul, Int.reduceToNat, Nat.reduceEqDiff, Nat.reduceBEq, Nat.reduceBneDiff]
  exact ⟨_, rfl, .one (.refl _)⟩
/-- do the numbers lie in the spans? -/
def insB : List Fc → List Sc → Bool
  | [], [] => true
  | v :: vs, s :: ss => decide (s.has v) && insB vs ss
  | _, _ => false
theorem insB_len : ∀ {vs : List Fc} {ss : List Sc}, insB vs ss = true → vs.length = ss.length
  | [], [], _ => rfl
  | v :: vs, s :: ss, h => by
    simp only [insB, Bool.and_eq_true] at h
    simp [insB_len h.2]
  | [], _ :: _, h => by cases h
  | _ :: _, [], h => by cases h
end Go.Slot.T

/- The statement BackFloors: its walk. -/
namespace Go.Slot.T
open Go Go.RowKit Go.Slot
open Go.Proofs.Tryz (prog)
set_option maxRecDepth 10000
set_option maxHeartbeats 4000000

/-- sizes of what comes in -/
def room (f : Af) (l : List Sc) : Prop := f.l.length ≤ 1048576 ∧ l.length ≤ 1048576 ∧ f.le 67108864 ∧ ∀ s ∈ l, s.sz ≤ 67108864
def roomF (l : List Fc) : Prop := l.length ≤ 1048576 ∧ ∀ f ∈ l, f.sz ≤ 67108864
theorem few_small {f : Af} {l : List Sc} (h : fewC f l) : small f l := by
  obtain ⟨h1, h2, h3, h4, h5⟩ := h
  exact ⟨by omega, by omega, ⟨by omega, fun g hg => by have := h5 g hg; omega⟩, fun s hs => by have := h2 s hs; omega⟩
theorem wFew {f : Af} {l : List Sc} (h : room f l) : CallsTo prog 6 [.agg f.C, .one (.sl 8 (l.map Sc.C))] (.one (.raw (.bool (decide (fewC f l))))) := r46Few f l h.1 h.2.1 h.2.2.1 h.2.2.2
theorem wFew4 {v : Fc} (h : v.sz ≤ 67108864) : CallsTo prog 7 [.agg v.C, .one (.raw (.int .i64 4))] (.one (.raw (.bool (decide (v.sz ≤ 4))))) :=
  rFew4 v (by have := szL h; omega) (by have := szL h; omega)
theorem floorsF (f : Af) (l : List Sc) (v : Fc) (ms : List Fc) (hok : Bk.ok f l) (hv : v.ok) :
    (Bk.floor f l v ms = true → Fc.cmp v (Bk.bounds f l).low ≤ 0) ∧ Bk.floor f l v (ownM f.l) = decide (Fc.cmp v (Bk.bounds f l).low ≤ 0) := by
  obtain ⟨k, cs, ps, rfl, rfl, hl, hp⟩ := Bk.ok_ex hok
  obtain ⟨q, rfl⟩ := Fc.ok_ex hv
  have h := floors k cs ps q ms hl hp
  rw [bounds_of k cs ps hl hp]
  show (_ → Fc.cmp (Fc.of q) (Fc.of (rangeQ k cs ps).1) ≤ 0) ∧ Bk.floor (Af.of k cs) (ps.map Sc.of) (Fc.of q) (ownM (cs.map Fc.of)) = decide (Fc.cmp (Fc.of q) (Fc.of (rangeQ k cs ps).1) ≤ 0)
  rw [Fc.cmp_of, h.2]
  exact ⟨fun hf => (ordQ_le _ _).2 (h.1 hf), decide_eq_decide.2 (ordQ_le _ _).symm⟩
theorem ownM_sz : ∀ {l : List Fc} {n : Nat}, (∀ f ∈ l, f.sz ≤ n) → ∀ m ∈ ownM l, m.sz ≤ n + 1
  | [], _, _, m, hm => by cases hm
  | c :: l, n, h, m, hm => by
    have h0 := h c (by simp)
    have h1 := Fc.sz_maxf c (Fc.of 0)
    have h2 := Fc.sz_neg c
    have h3 := Fc.sz_maxf (Fc.neg c) (Fc.of 0)
    have hz := sz_zero1
    simp only [ownM, List.mem_cons] at hm
    rcases hm with rfl | rfl | hm
    · omega
    · omega
    · exact ownM_sz (fun f hf => h f (by simp [hf])) m hm
theorem ownM_snoc : ∀ (l : List Fc) (c : Fc), ownM (l ++ [c]) = ownM l ++ [Fc.maxf c (Fc.of 0), Fc.maxf (Fc.neg c) (Fc.of 0)]
  | [], c => rfl
  | d :: l, c => by simp [ownM, ownM_snoc l c]
theorem ownM_step {l : List Fc} {i : Nat} (h : i < l.length) :
    (ownM (l.take i)).map Fc.C ++ [(Fc.maxf (l.getD i Fc.zero) (Fc.of 0)).C, (Fc.maxf (Fc.neg (l.getD i Fc.zero)) (Fc.of 0)).C] = (ownM (l.take (i + 1))).map Fc.C := by
  rw [take_snoc Fc.zero h, ownM_snoc]; simp
theorem at_sz {a : Af} {v : List Fc} {B n : Nat} (ha : a.le B) (hv : ∀ f ∈ v, f.sz ≤ B) (hl : a.l.length ≤ n) : (a.at' v).sz ≤ B + 2 + n * (2 * B + 1) := by
  unfold Af.at'
  split
  · have h1 := sum_sz (B := B) a.l v (Af.copy a.c) ha.2 hv
    have h2 := copy_sz a.c
    have h3 := ha.1
    have h4 : a.l.length * (2 * B + 1) ≤ n * (2 * B + 1) := Nat.mul_le_mul_right _ hl
    omega
  · rw [Fc.sz_zero]; omega
theorem bounds_sz {f : Af} {l : List Sc} (h : fewC f l) : (Bk.bounds f l).low.sz ≤ 112 ∧ (Bk.bounds f l).high.sz ≤ 112 := by
  obtain ⟨h1, h2, h3, h4, h5⟩ := h
  have hle : f.le 6 := ⟨by omega, fun g hg => by have := h5 g hg; omega⟩
  unfold Bk.bounds
  split
  · exact ⟨at_sz (n := 8) hle (lows_sz h2) h4, at_sz (n := 8) hle (highs_sz h2) h4⟩
  · exact ⟨by decide, by decide⟩
theorem int0 : CallsTo prog 21 [.one (.raw (.int .i64 0))] (.agg (Fc.of 0).C) := rIntF 0 (by decide)
end Go.Slot.T

/- The arguments of layer 46's statements, out of their readings. -/
namespace Go.Proofs.YtieohkidmjglgaaGreat
set_option maxRecDepth 100000
open Go Go.Slot Go.ChangeShapes Go.WideShapes Go.RowKit
theorem ownKnob0 : ownKnob Tryz.prog.godebug = none := by kernel_rfl
theorem laid0 : laidOutB Tryz.prog = true := by kernel_rfl
theorem spA_is : spOf Tryz.prog 8 29 = some spA := by kernel_rfl
theorem spF_is : spOf Tryz.prog 8 26 = some spF := by kernel_rfl
theorem spFs_is : spOf Tryz.prog 8 27 = some [.sl spF] := by kernel_rfl
theorem spSs_is : spOf Tryz.prog 8 30 = some [.sl spS] := by kernel_rfl
def zF : Value := .agg #[.int .i64 0, .slice none 0 0, .int .i64 0, .slice none 0 0]
def zA : Value := .agg #[.int .i64 0, .slice none 0 0, .int .i64 0, .slice none 0 0, .slice none 0 0]
def dZ {H : Type} : DataW H := .agg [.lit (.int .i64 0), .nil]
def dF {H : Type} : DataW H := .agg [dZ, dZ]
def dA {H : Type} : DataW H := .agg [dF, .nil]
section
variable {H : Type} {enc : TypeId × Value → H} {W : World} {v : Value} {d : DataW H} {p : List MemPlace} {b : Nat}
theorem openA (hval : Value.okWide Tryz.prog W .any b 29 v) (hd : DataW.Trod enc Tryz.prog W 0 (fun _ => true) true 29 v d p) (hb : Rows.uptoBulk d ≤ 1048576) :
    ∃ a : Af, RdB M0 W v (.agg a.C) ∧ a.l.length ≤ 1048576 ∧ a.le 67108864 := by
  obtain ⟨cells, h1, h2⟩ := arg_struct bulk Tryz.underlying29 spA_is hval hd hb
  obtain ⟨a, rfl, h3, h4⟩ := fitA h1
  exact ⟨a, h2, h3, ⟨by have := h4.1; omega, fun g hg => by have := h4.2 g hg; omega⟩⟩
theorem openF (hval : Value.okWide Tryz.prog W .any b 26 v) (hd : DataW.Trod enc Tryz.prog W 0 (fun _ => true) true 26 v d p) (hb : Rows.uptoBulk d ≤ 1048576) :
    ∃ f : Fc, RdB M0 W v (.agg f.C) ∧ f.sz ≤ 67108864 := by
  obtain ⟨cells, h1, h2⟩ := arg_struct bulk Tryz.underlying26 spF_is hval hd hb
  obtain ⟨f, rfl, h3⟩ := fitF h1
  exact ⟨f, h2, by omega⟩
theorem openFs (hval : Value.okWide Tryz.prog W .any b 27 v) (hd : DataW.Trod enc Tryz.prog W 0 (fun _ => true) true 27 v d p) (hb : Rows.uptoBulk d ≤ 1048576) :
    ∃ l : List Fc, RdB M0 W v (.one (.sl 4 (l.map Fc.C))) ∧ l.length ≤ 1048576 ∧ ∀ f ∈ l, f.sz ≤ 67108864 := by
  obtain ⟨c, h1, h2⟩ := arg_slice bulk Tryz.underlying27 spFs_is hval hd hb
  obtain ⟨l, rfl, h3, h4⟩ := fitFs h1
  exact ⟨l, h2, h3, fun f hf => by have := h4 f hf; omega⟩
theorem openSs (hval : Value.okWide Tryz.prog W .any b 30 v) (hd : DataW.Trod enc Tryz.prog W 0 (fun _ => true) true 30 v d p) (hb : Rows.uptoBulk d ≤ 1048576) :
    ∃ l : List Sc, RdB M0 W v (.one (.sl 8 (l.map Sc.C))) ∧ l.length ≤ 1048576 ∧ ∀ s ∈ l, s.sz ≤ 67108864 := by
  obtain ⟨c, h1, h2⟩ := arg_slice bulk Tryz.underlying30 spSs_is hval hd hb
  obtain ⟨l, rfl, h3, h4⟩ := fitSs h1
  exact ⟨l, h2, h3, fun f hf => by have := h4 f hf; omega⟩
end
/-- how a law's call ends -/
theorem ended {f : FuncId} {args : List AV} {vs : List Value} {W : World} (hc : CallsTo Tryz.prog f args (.one (.raw (.bool true)))) (hr : RdBL M0 W vs args) : Calls Tryz.prog f vs.toArray W fun e W' => e = .returned (.bool true) ∧ Below W.heap.size W W' :=
  (hc.2 M0 W vs (fun b o h => h.elim) hr).mono (fun e W' ⟨v, he, hb, hr', _⟩ => by
    have hv : v = .bool true := RdC.raw_inv hr'
    rw [hv] at he
    exact ⟨he, hb⟩)
end Go.Proofs.YtieohkidmjglgaaGreat
