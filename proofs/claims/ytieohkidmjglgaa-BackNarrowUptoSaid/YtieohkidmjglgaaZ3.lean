import Derived.Test.YtieohkidmjglgaaZ2
import Derived.WalkKit
import Derived.ProofKit
import Derived.OpenShut
import Derived.JoinedCond
import Derived.ChangeBook
import Derived.ChangeStays
/- The slot machine, part W: more operations: comparison with nil, empty slices, append onto an own slice. -/
namespace Go.Slot
open Go Go.RowKit
variable {P : Program}
/-! ### append onto an own slice -/
def dropEff (s : Nat) : Nat → List AV → List (Nat × AV)
  | _, [] => []
  | i, av :: r => if hitB s i av = true then (i, .any) :: dropEff s (i + 1) r else dropEff s (i + 1) r
theorem dropEff_ge (s : Nat) : ∀ (σ : List AV) (k : Nat) (p : Nat × AV), p ∈ dropEff s k σ → k ≤ p.1
  | [], _, p, h => by cases h
  | av :: r, k, p, h => by
    have ih := dropEff_ge s r (k + 1) p
    unfold dropEff at h
    split at h
    · rcases List.mem_cons.1 h with rfl | h
      · exact Nat.le_refl _
      · exact Nat.le_of_succ_le (ih h)
    · exact Nat.le_of_succ_le (ih h)
theorem dropEff_find (s : Nat) : ∀ (σ : List AV) (k i : Nat), i < σ.length →
    ((dropEff s k σ).reverse.find? (fun p => p.1 == k + i)) = if hitB s (k + i) (gt σ i) = true then some (k + i, AV.any) else none
  | [], _, i, h => by simp at h
  | av :: r, k, i, h => by
    have none_of : (dropEff s (k + 1) r).reverse.find? (fun p => p.1 == k) = none := by
      rw [List.find?_eq_none]
      intro p hp
      have := dropEff_ge s r (k + 1) p (List.mem_reverse.1 hp)
      simp only [beq_iff_eq]; omega
    cases i with
    | zero =>
      have hg : gt (av :: r) 0 = av := rfl
      rw [hg, Nat.add_zero]
      unfold dropEff
      split
      · rw [List.reverse_cons, List.find?_append, none_of]; simp
      · exact none_of
    | succ i =>
      have ih := dropEff_find s r (k + 1) i (by simpa using h)
      have hg : gt (av :: r) (i + 1) = gt r i := rfl
      rw [hg, show k + (i + 1) = k + 1 + i by omega, ← ih]
      have hd : dropEff s k (av :: r) = if hitB s k av = true then (k, .any) :: dropEff s (k + 1) r else dropEff s (k + 1) r := rfl
      rw [hd]
      split
      · rw [List.reverse_cons, List.find?_append]
        simp [show ¬ k = k + 1 + i by omega]
      · rfl
theorem app_dropEff (s : Nat) (σ : List AV) : app (dropEff s 0 σ) σ = dropS s σ := by
  apply ext_gt (by rw [app_length, dropS_length])
  intro i hi
  rw [app_length] at hi
  have h1 := gt_app (dropEff s 0 σ) σ i hi
  have h2 := dropEff_find s σ 0 i hi
  simp only [Nat.zero_add] at h2
  have h3 : gt (dropS s σ) i = dropOne s i (gt σ i) := by
    unfold dropS Slot.gt
    rw [dropFrom_get]
    cases hh : σ[i]? with
    | none => rw [List.getElem?_eq_none_iff] at hh; omega
    | some x => simp
  rw [h1, h2, h3]
  unfold dropOne
  split <;> rfl
/-- for simp: the rest stands once -/
def consB {α : Type} : Bool → α → List α → List α
  | true, _, l => l
  | false, p, l => p :: l
theorem dropEff_nil {s i : Nat} : dropEff s i [] = [] := rfl
theorem dropEff_cons {s i : Nat} {av : AV} {r : List AV} : dropEff s i (av :: r) = consB (!hitB s i av) (i, .any) (dropEff s (i + 1) r) := by
  have : dropEff s i (av :: r) = if hitB s i av = true then (i, .any) :: dropEff s (i + 1) r else dropEff s (i + 1) r := rfl
  rw [this]
  cases hitB s i av <;> rfl
theorem stripEff_nil {tk : List Nat} {i : Nat} : stripEff tk i [] = [] := rfl
theorem stripEff_cons {tk : List Nat} {i : Nat} {x : AV} {r : List AV} : stripEff tk i (x :: r) = consB (tk.all (fun t => x.noTok t)) (i, x.stripAll tk) (stripEff tk (i + 1) r) := by
  have : stripEff tk i (x :: r) = if tk.all (fun t => x.noTok t) then stripEff tk (i + 1) r else (i, x.stripAll tk) :: stripEff tk (i + 1) r := rfl
  rw [this]
  cases tk.all (fun t => x.noTok t) <;> rfl
/-- an append that outgrows its slice's room -/
theorem run_append_new {T e : TypeId} {i : TypeInfo} {z : Value} (ht : P.underlying T = some (.slice e)) (hi : P.info? e = some i) (hz : i.zero = some z) (w : World) (ty : TypeId) {ad0 : Option Addr} {n old : Nat} {xs : List Value} {yad : Option Addr} {m ycap : Nat} {news : List Value}
    (hfd : (Builtin.firstCells i.size m (.slice yad m ycap)).run P w.drew = .ok news.toArray w.drew) (hfo : (Builtin.firstCells i.size n (.slice ad0 n old)).run P w.drew = .ok xs.toArray w.drew)
    (ho : old < n + m) (hbound : (n + m) * i.bytes ≤ 140737488355328) (h63 : n + m ≤ 9223372036854775807) :
    (Builtin.append_ #[T, T] ty #[.slice ad0 n old, .slice yad m ycap]).run P w = .ok (.slice (some ⟨w.heap.size, 0, none⟩) (n + m) (grownCap w (n + m) old e))
      (w.drew.alloc (.cells ((xs ++ news).toArray ++ Builtin.zeroCells z.cells (grownCap w (n + m) old e - (n + m))) e)) := by
  have hn : ¬ (n + m ≤ old) := by omega
  have h63' : ¬ (9223372036854775807 < ((n : Int) + (m : Int))) := by omega
  have hfit := growslice_fits (need := n + m) (old := old) (bytes := i.bytes) ho hbound
  have h48' : ¬ (281474976710656 < Builtin.nextslicecap (n + m) old * i.bytes) := by omega
  simp [Builtin.append_, run_underlying ht, sizeOf, typeInfo, zeroValue, hi, hz, Builtin.lenOf, hn, h63', h48', Question.forced, hfd, hfo, newRow, grownCap]
  congr 2
  apply Array.ext'
  simp [List.append_assoc]
/-- the slot that holds an own fresh slice whose value the operand is -/
def ownAt (σ : List AV) (x : Operand) : Option (Nat × Cell) := match x with
  | .tmp t => match gt σ t with
    | .arr [] c none => some (t, c)
    | .asl s => match gt σ s with
      | .arr [] c none => some (s, c)
      | _ => none
    | _ => none
  | _ => none
def appendOA (σ : List AV) (ti : TI) (d : Nat) (x y : Operand) : Option (List Nat × List (Nat × AV)) :=
  match ti.sh with
  | .slice _ es eb ik => match ownAt σ x, opd σ y with
    | some (s, c), .one cy => match joinC es eb ik c cy.bare with
      | some c' => if nh σ d && c.isSl then some (List.range σ.length, dropEff s 0 σ ++ [(d, .arr [] c' none)]) else none
      | none => none
    | _, _ => none
  | _ => none
theorem joinC_cells {M : Nat → Nat → Prop} {w : World} {es eb : Nat} {ik : Option IntKind} {c cy c' : Cell} (hes : 0 < es) (h : joinC es eb ik c cy = some c') (hu : c.uni) {vy : Value} (hy : RdC M w vy cy) :
    ∃ (m : Nat) (news : List Value) (fy : List Cell), (∃ ad cap, vy = .slice ad m cap) ∧ news.length = m * es ∧ RdD M w news fy ∧ (news = [] ∨ ∃ b off cap, vy = .slice (some ⟨b, off, none⟩) m cap ∧ ∀ j u, news[j]? = some u → ¬ M b (off + j) ∧ w.cell? ⟨b, off + j, none⟩ = some u) ∧
      c'.uni ∧ c'.cnt = c.cnt + m ∧ c'.esz = es ∧ c.esz = es ∧ c'.flat = c.flat ++ fy ∧ (c.cnt + m) * eb ≤ 140737488355328 ∧ c.cnt + m ≤ 9223372036854775807 := by
  unfold joinC at h
  split at h
  · rename_i k
    split at h
    · rename_i l l' hl hl'
      split at h
      · rename_i hc
        obtain ⟨rfl, hb1, hb2⟩ := hc
        cases h
        have hcc : c = .ints k l := by
          cases c with
          | ints k' l0 => simp only [toInts] at hl; split at hl <;> first | (rename_i e; subst e; cases hl; rfl) | cases hl
          | sl => cases hl
          | _ => exact hu.elim
        subst hcc
        obtain ⟨hyl, hyc⟩ := hy.ints_cells hl'
        exact ⟨l'.length, l'.map (Value.int k), l'.map fun n => .raw (.int k n), hyl, by simp, raws_rd k l', hyc, trivial, by simp [Cell.cnt], rfl, rfl, by simp [Cell.flat], hb1, hb2⟩
      · cases h
    · cases h
  · split at h
    · rename_i l l' hl hl'
      split at h
      · rename_i hc
        obtain ⟨hb1, hb2⟩ := hc
        cases h
        have hcc : c = .sl es l := by
          cases c with
          | sl n0 l0 => simp only [toRows] at hl; split at hl <;> first | (rename_i e; subst e; cases hl; rfl) | cases hl
          | ints => cases hl
          | _ => exact hu.elim
        subst hcc
        obtain ⟨hyl, hyn, us, hul, hur, hyc⟩ := hy.rows_cells hes hl'
        refine ⟨l'.length, us, l'.flatten, hyl, hul, hur, hyc, fun r hr => ?_, by simp [Cell.cnt], rfl, rfl, by simp [Cell.flat], hb1, hb2⟩
        rcases List.mem_append.1 hr with h | h
        · exact hu r h
        · exact hyn r h
      · cases h
    · cases h
theorem ownAt_ok {E : Env} {τ : Nat → TV} {M : Nat → Nat → Prop} {σ : List AV} {a : Act} {w : World} (hI : RelI E τ M σ a w) {x : Operand} {s : Nat} {c : Cell} (h : ownAt σ x = some (s, c)) :
    σ[s]? = some (.arr [] c none) ∧ a.eval x = a.tmps.getD s Go.undef := by
  unfold ownAt at h
  split at h
  case h_2 => cases h
  rename_i t
  split at h
  · rename_i c0 hg
    cases h
    exact ⟨gt_some hg (by simp), rfl⟩
  · rename_i s0 hg0
    split at h
    · rename_i c0 hg
      cases h
      have := hI.gt t
      rw [hg0] at this
      exact ⟨gt_some hg (by simp), this⟩
    · cases h
  · cases h
theorem sound_appendO {σ : List AV} {o : Oper} {T : TypeId} {x y : Operand} (ho : o.op = .call { callee := .builtin .append, args := #[x, y], argTypes := #[T, T] }) {d : Nat} (hdst : o.dst = some d) {ti : TI} (hti : mkTI P T = some ti)
    {rd : List Nat} {eff : List (Nat × AV)} (hA : appendOA σ ti d x y = some (rd, eff)) : AStep P o σ rd [] eff := by
  obtain ⟨ds, i0, z0, hd0, hi0, hz0, _, _, _, _, _, hsh'⟩ := (mkTI_ok hti).ex
  unfold appendOA at hA
  split at hA
  case h_2 => cases hA
  rename_i e es eb ik hsh
  split at hA
  case h_2 => cases hA
  rename_i s c cy hx hy
  split at hA
  case h_2 => cases hA
  rename_i c' hjoin
  split at hA
  case isFalse => cases hA
  rename_i hn
  simp only [Bool.and_eq_true] at hn
  simp only [Option.some.injEq, Prod.mk.injEq] at hA
  obtain ⟨rfl, rfl⟩ := hA
  obtain ⟨rfl, j, z', hj, hz', hjs, hjb, hes0, hzs, hik⟩ := shOf_slice (hsh'.symm.trans hsh)
  have hes : 0 < es := Nat.pos_of_ne_zero hes0
  intro E σ' a w hag _ ⟨τ, M, hI⟩ K Q hK
  have hσ : σ' = σ := ext_gt hag.1 (fun i hi => hag.2 i (List.mem_range.2 (by rw [← hag.1]; exact hi)))
  subst hσ
  obtain ⟨hs, hev⟩ := ownAt_ok hI hx
  have sy := hI.opd y
  rw [hy] at sy
  have sy : RdT M w τ (a.eval y) cy := sy
  obtain ⟨b, Tb, vs, q, cap, e1, hheap, hr, _, hu, hcap, hcap'⟩ := hI.slot s _ hs
  simp only [List.length_nil, List.nil_append] at e1 hheap
  obtain ⟨m, news, fy, ⟨yad, ycap, hyv⟩, hnl, hnr, hnc, hu', hcnt', hesz', hesz, hflat', hb1, hb2⟩ := joinC_cells hes hjoin hu sy.bare
  have hold := hI.hold s _ hs rfl
  have hblk : blk (a.tmps.getD s Go.undef) = b := by rw [e1]; rfl
  rw [hblk] at hold
  have hvl : vs.length = c.cnt * es := by rw [hr.length, Cell.flat_len hu, hesz]
  rw [hesz] at hcap'
  obtain ⟨old, h1, h2⟩ := nh_spec hn.1
  have hne : d ≠ s := fun e => by subst e; rw [hs] at h1; cases h1; cases h2
  have hfin : app (dropEff s 0 σ' ++ [(d, .arr [] c' none)]) σ' = (dropS s σ').set d (.arr [] c' none) := by
    rw [app_append, app_dropEff]; rfl
  have hd1 : ∃ old1, (dropS s σ')[d]? = some old1 ∧ old1.holder = false := by
    unfold dropS
    rw [dropFrom_get, h1]
    refine ⟨_, rfl, ?_⟩
    rcases dropOne_cases s (0 + d) old with e | ⟨e, _⟩
    · rw [e]; rfl
    · rw [e]; exact h2
  obtain ⟨old1, hd1, hd2⟩ := hd1
  have hfree : ∀ (i : Nat) (x : AV), (dropS s σ')[i]? = some x → x.holder = true → blk (a.tmps.getD i Go.undef) ≠ b := fun i x hi hx e => by
    obtain ⟨y, hy, rfl⟩ := dropS_get hi
    rcases dropOne_cases s i y with e' | ⟨e', hne', _⟩
    · rw [e'] at hx; cases hx
    · rw [e'] at hx
      exact hne' (hI.inj i s y _ hy hs hx rfl (e.trans hblk.symm))
  have hfreet : ∀ t, live (dropS s σ') t → tokB (τ t).v ≠ some b := fun t ⟨i, y, hi, hy⟩ => by
    obtain ⟨x, hx, rfl⟩ := dropS_get hi
    rcases dropOne_cases s i x with e' | ⟨e', _⟩
    · rw [e'] at hy; exact hy.elim
    · rw [e'] at hy
      have := hI.tbox t s _ ⟨i, x, hx, hy⟩ hs rfl
      rw [hblk] at this
      exact this
  have hrunop : ∀ v' w', (Builtin.append_ #[T, T] o.type #[.slice (some ⟨b, 0, none⟩) c.cnt cap, .slice yad m ycap]).run P w = .ok v' w' → (execOp a.eval o).run P w = .ok (.value v') w' := fun v' w' hr' => by
    simp [execOp, ho, resolve, invoke, builtin, hev, e1, hyv, hr']
  have hn1 : ∀ u ∈ news, u.oneCell' = true := hnr.oneL
  have hnc' : news = [] ∨ ∃ b off cap, Value.slice yad m ycap = .slice (some ⟨b, off, none⟩) m cap ∧ ∀ j u, news[j]? = some u → w.cell? ⟨b, off + j, none⟩ = some u := hnc.imp id fun ⟨b', off, cap', e', hh⟩ => ⟨b', off, cap', by rw [← hyv]; exact e', fun j u hj => (hh j u hj).2⟩
  have put : ∀ v' w' (E' : Env) (M' : Nat → Nat → Prop), (execOp a.eval o).run P w = .ok (.value v') w' → RelI E τ M' ((dropS s σ').set d (.arr [] c' none)) (a.put (some d) v') w' → o.wp P a w K Q := fun v' w' _ M' hr' hR => by
    unfold Oper.wp
    rw [hr']
    show K (a.put o.dst v') w'
    rw [hdst]
    exact hK _ _ ⟨τ, M', by rw [hfin]; exact hR⟩
  by_cases hroom : c.cnt + m ≤ cap
  · -- in place
    have hf : (Builtin.firstCells j.size m (.slice yad m ycap)).run P w = .ok news.toArray w := run_firstCells_any w m _ news ⟨_, _, rfl⟩ (by rw [hjs]; exact hnl) hnc'
    have hfit : c.cnt * es + news.length ≤ (vs ++ q).length := by
      rw [hnl, ← Nat.add_mul]
      refine Nat.le_trans (Nat.mul_le_mul_right _ hroom) ?_
      rw [List.length_append]; exact hcap'
    have hrun := run_append_in (P := P) hd0 hj w o.type b Tb c.cnt cap _ hheap m (.slice yad m ycap) news ⟨_, _, rfl⟩ (by rw [hjs]; exact hnl) hf hn1 hroom (by rw [hjs]; simpa using hfit)
    rw [hjs] at hrun
    simp only at hrun
    generalize hnew : ((vs ++ q).take (c.cnt * es) ++ news ++ (vs ++ q).drop (c.cnt * es + news.length)).toArray = new at hrun
    have hnew' : new = (([] : List Value) ++ ((vs ++ news) ++ (vs ++ q).drop (c.cnt * es + news.length))).toArray := by
      rw [← hnew, ← hvl, List.take_left]; simp
    have hb0 : b < w.heap.size := (Array.getElem?_eq_some_iff.1 hheap).1
    have hbx : BelowX b w (w.setRow b new) := ⟨rfl, rfl, rfl, by simp, fun k _ hk => setRow_other w b k _ hk⟩
    have hI' : RelI E τ M σ' a (w.setRow b new) := by
      have h3 := hI.turn (new := .arr [] c none) hs rfl rfl (fun _ h => h) rfl (by rw [hblk]; exact hbx) (by
        refine ⟨b, Tb, vs, news ++ (vs ++ q).drop (c.cnt * es + news.length), cap, e1, ?_, hr.keep (hbx.keeps hold.1), fun p hp => (by cases hp), hu, hcap, ?_⟩
        · rw [setRow_heap w b _ new Tb (0, 0) hheap, hnew']; simp
        · rw [hesz]
          simp only [List.length_append, List.length_drop]
          omega) (fun t ht => ht.elim)
      have : σ'.set s (.arr [] c none) = σ' := by
        apply List.ext_getElem?
        intro i
        rw [List.getElem?_set]
        split
        · rename_i e; subst e; rw [hs]; simp [(List.getElem?_eq_some_iff.1 hs).1]
        · rfl
      rwa [this] at h3
    refine put _ _ E _ (hrunop _ _ hrun) ((hI'.dropS s).take hd1 hd2 (.slice (some ⟨b, 0, none⟩) (c.cnt + m) cap) (.arr [] c' none) rfl rfl (hold.2.2.1 rfl) hold.1 hfree hfreet ?_ (fun t ht => ht.elim))
    refine ⟨b, Tb, vs ++ news, (vs ++ q).drop (c.cnt * es + news.length), cap, by rw [hcnt']; rfl, ?_, ?_, fun p hp => (by cases hp), hu', by rw [hcnt']; exact hroom, ?_⟩
    · rw [setRow_heap w b _ new Tb (0, 0) hheap, hnew']
    · rw [hflat']
      exact (hr.app hnr).keep (hbx.keeps hold.1)
    · rw [hesz']
      simp only [List.length_append, List.length_drop] at hfit ⊢
      omega
  · -- in a new block
    have hfd : (Builtin.firstCells j.size m (.slice yad m ycap)).run P w.drew = .ok news.toArray w.drew := run_firstCells_any w.drew m _ news ⟨_, _, rfl⟩ (by rw [hjs]; exact hnl) hnc'
    have hfo : (Builtin.firstCells j.size c.cnt (.slice (some ⟨b, 0, none⟩) c.cnt cap)).run P w.drew = .ok vs.toArray w.drew := run_firstCells_any w.drew c.cnt _ vs ⟨_, _, rfl⟩ (by rw [hjs]; exact hvl) (.inr ⟨b, 0, cap, rfl, fun j u hj => by
      rw [Nat.zero_add]
      have hlt : j < vs.length := (List.getElem?_eq_some_iff.1 hj).1
      have : w.drew.heap[b]? = some (.cells (vs ++ q).toArray Tb (0, 0)) := hheap
      simp only [World.cell?, this, List.getElem?_toArray]
      rw [List.getElem?_append_left hlt]; exact hj⟩)
    have hrun := run_append_new (P := P) hd0 hj hz' w o.type hfd hfo (by omega) (by rw [hjb]; exact hb1) hb2
    generalize hgc : grownCap w (c.cnt + m) cap e = gc at hrun
    have hge : c.cnt + m ≤ gc := by rw [← hgc]; exact grownCap_ge w (c.cnt + m) cap e
    have hbl : Below w.heap.size w (w.drew.alloc (.cells ((vs ++ news).toArray ++ Builtin.zeroCells z'.cells (gc - (c.cnt + m))) e)) := ((Below.refl _ _).drew).alloc (Nat.le_refl _) _
    have hheap' : (w.drew.alloc (.cells ((vs ++ news).toArray ++ Builtin.zeroCells z'.cells (gc - (c.cnt + m))) e)).heap[w.heap.size]? = some (.cells ((vs ++ news).toArray ++ Builtin.zeroCells z'.cells (gc - (c.cnt + m))) e (0, 0)) := heap_new w.drew _
    refine put _ _ E _ (hrunop _ _ hrun) ((hI.dropS s).adopt hbl hd1 hd2 (.slice (some ⟨w.heap.size, 0, none⟩) (c.cnt + m) gc) (.arr [] c' none) rfl rfl (Nat.le_refl _) (by simp [blk]) ?_ (fun t ht => ht.elim))
    refine ⟨w.heap.size, e, vs ++ news, (Builtin.zeroCells z'.cells (gc - (c.cnt + m))).toList, gc, by rw [hcnt']; rfl, ?_, ?_, fun p hp => (by cases hp), hu', by rw [hcnt']; exact hge, ?_⟩
    · rw [hheap']
      congr 2
      apply Array.ext'
      simp
    · rw [hflat']
      refine (hr.app hnr).keep (fun b' o u hm hc => ?_)
      have hl := World.block_lt_of_cell? w _ hc
      exact ⟨fun hh => hh.elim hm (fun hh => by simp only [blk] at hh; simp only at hl; omega), (Keeps.below hbl b' o u hm hc).2⟩
    · rw [hesz', List.length_append, hvl, hnl, Array.length_toList, size_zeroCells, hzs, ← Nat.add_mul, ← Nat.add_mul]
      exact Nat.mul_le_mul_right _ (by omega)
/-! ### the operations of this part -/
def nilV : Value → Bool
  | .slice none 0 0 => true
  | _ => false
def nilO : Operand → Bool
  | .const v => nilV v
  | .tmp _ => false
  | .global _ => false
  | .func _ => false
theorem nilO_spec {x : Operand} (h : nilO x = true) : x = .const (.slice none 0 0) := by
  cases x with
  | const v =>
    simp only [nilO] at h
    unfold nilV at h
    split at h
    · rfl
    · cases h
  | _ => cases h
def tiX {α : Type} (P : Program) (t : TypeId) (k : TI → Option α) : Option α := match mkTI P t with
  | some ti => k ti
  | none => none
theorem tiX_eq {α : Type} {t : TypeId} {k : TI → Option α} {r : α} (h : tiX P t k = some r) : ∃ ti, mkTI P t = some ti ∧ k ti = some r := by
  unfold tiX at h
  split at h
  · rename_i ti hti; exact ⟨ti, hti, h⟩
  · cases h
def ownAtB (σ : List AV) (x : Operand) : Bool := match x with
  | .tmp t => match gt σ t with
    | .arr _ _ _ | .asl _ => true
    | _ => false
  | _ => false
/-- two bools compared -/
def eqOp : BinOp → Bool
  | .eql => true
  | .neq => true
  | _ => false
def bothB : AV → AV → Bool
  | .one (.raw (.bool _)), .one (.raw (.bool _)) => true
  | _, _ => false
def bbA (ti : TI) (op : BinOp) (x y : AV) : Option AV := match ti.sh with
  | .bool => match x, y with
    | .one (.raw (.bool a)), .one (.raw (.bool b)) => match op with
      | .eql => some (.one (.raw (.bool (a == b))))
      | .neq => some (.one (.raw (.bool (a != b))))
      | _ => none
    | _, _ => none
  | _ => none
theorem shOf_bool {d : TypeDesc} (h : shOf P d = .bool) : d = .bool := by
  cases d with
  | bool => rfl
  | slice e =>
    exfalso; revert h; unfold shOf; dsimp only
    split
    · split
      · split <;> simp
      · simp
    · simp
  | struct fl =>
    exfalso; revert h; unfold shOf; dsimp only; split <;> simp
  | _ => simp [shOf] at h
theorem sound_bb {σ : List AV} {o : Oper} {op : BinOp} {T U : TypeId} {x y : Operand} (ho : o.op = .binOp op T x y U) {ti : TI} (hti : mkTI P T = some ti) {av : AV} (hb : bbA ti op (opd σ x) (opd σ y) = some av) {r : List Nat × List (Nat × AV)}
    (h : val σ o (orr x ++ orr y) av = some r) : AStep P o σ r.1 [] r.2 := by
  unfold bbA at hb
  split at hb
  case h_2 => cases hb
  rename_i hsh
  split at hb
  case h_2 => cases hb
  rename_i u v hx hy
  obtain ⟨d, i, z, hd, hi, hz, _, _, _, _, _, hsh'⟩ := (mkTI_ok hti).ex
  obtain rfl := shOf_bool (hsh'.symm.trans hsh)
  have heq : ∀ w : World, (Op.equal T (.bool u) (.bool v)).run P w = .ok (u == v) w := fun w => by
    show (Op.equalIn (9999 + 1) T (.bool u) (.bool v)).run P w = _
    unfold Op.equalIn
    simp [run_underlying' hd]
  have eva : ∀ (E : Env) (τ : Nat → TV) (M : Nat → Nat → Prop) (σ' : List AV) (a : Act) (w : World), (∀ x' : Operand, (∀ t ∈ orr x', t ∈ orr x ++ orr y) → opd σ' x' = opd σ x') → RelI E τ M σ' a w → a.eval x = .bool u ∧ a.eval y = .bool v := fun E τ M σ' a w hop hI => by
    have sx := hI.opd x
    have sy := hI.opd y
    rw [hop x (fun t ht => by simp [ht]), hx] at sx
    rw [hop y (fun t ht => by simp [ht]), hy] at sy
    exact ⟨RdC.raw_inv sx, RdC.raw_inv sy⟩
  split at hb
  · cases hb
    refine AStep.pure h rfl rfl (fun E τ M σ' a w hop _ hI => ⟨.bool (u == v), ?_, RdC.raw rfl, fun t ht => ht.elim⟩)
    obtain ⟨ex, ey⟩ := eva E τ M σ' a w hop hI
    simp [execOp, ho, ex, ey, eqGuard, binOp, heq]
  · cases hb
    refine AStep.pure h rfl rfl (fun E τ M σ' a w hop _ hI => ⟨.bool (u != v), ?_, RdC.raw rfl, fun t ht => ht.elim⟩)
    obtain ⟨ex, ey⟩ := eva E τ M σ' a w hop hI
    simp [execOp, ho, ex, ey, eqGuard, binOp, heq, bne]
  · cases hb
/-- operations that this part takes -/
def isX (σ : List AV) : Op → Bool
  | .binOp op _ x y _ => match nilO y with
    | true => true
    | false => match eqOp op with
      | true => bothB (opd σ x) (opd σ y)
      | false => false
  | .buildSlice _ n _ => n == 0
  | .call c => match c.callee with
    | .builtin .append => match c.args.toList with
      | [x, _] => ownAtB σ x
      | _ => false
    | .builtin .max => true
    | .builtin .min => true
    | _ => false
  | _ => false
/-- max and min of two integers -/
def maxV (b : Bool) : AV → AV → Option AV
  | .one (.raw (.int k x)), .one (.raw (.int k' y)) => if k = k' then some (.one (.raw (.int k (match b with | true => max x y | false => min x y)))) else none
  | _, _ => none
theorem sound_max {σ : List AV} {o : Oper} {b : Bool} {x y : Operand} {ts : Array TypeId} (ho : o.op = .call { callee := .builtin (match b with | true => .max | false => .min), args := #[x, y], argTypes := ts }) {av : AV} (hb : maxV b (opd σ x) (opd σ y) = some av)
    {r : List Nat × List (Nat × AV)} (h : val σ o (orr x ++ orr y) av = some r) : AStep P o σ r.1 [] r.2 := by
  unfold maxV at hb
  split at hb
  · rename_i k u k' v hx hy
    split at hb
    · rename_i hkk
      subst hkk
      cases hb
      refine AStep.pure h rfl rfl (fun E τ M σ' a w hop hgt hI => ⟨_, ?_, RdC.raw rfl, fun t ht => ht.elim⟩)
      have sx := hI.opd x
      rw [hop x (fun t ht => List.mem_append.2 (.inl ht)), hx] at sx
      have sy := hI.opd y
      rw [hop y (fun t ht => List.mem_append.2 (.inr ht)), hy] at sy
      have ex : a.eval x = .int k u := RdC.raw_inv sx
      have ey : a.eval y = .int k v := RdC.raw_inv sy
      cases b with
      | true =>
        have : (if v > u then v else u) = max u v := by split <;> omega
        simp [execOp, ho, resolve, invoke, builtin, Builtin.max_, Builtin.max2, ex, ey, this]
      | false =>
        have : (if v < u then v else u) = min u v := by split <;> omega
        simp [execOp, ho, resolve, invoke, builtin, Builtin.min_, Builtin.min2, ex, ey, this]
    · cases hb
  · cases hb
def valX (σ : List AV) (o : Oper) (rd : List Nat) (a : Option AV) : Option (List Nat × List (Nat × AV)) := match a with
  | some av => val σ o rd av
  | none => none
def opX (P : Program) (σ : List AV) (o : Oper) : Option (List Nat × List (Nat × AV)) :=
  match o.op with
  | .binOp op T x y _ => match nilO y with
    | true => tiX P T fun ti => valX σ o (orr x) (nilA σ ti op x)
    | false => tiX P T fun ti => valX σ o (orr x ++ orr y) (bbA ti op (opd σ x) (opd σ y))
  | .buildSlice T n ps => if n = 0 then tiX P T fun ti => valX σ o [] (emptyA ti ps.toList) else none
  | .call c => match c.callee with
    | .builtin .append => match c.args.toList, c.argTypes.toList, o.dst with
      | [x, y], [T, U], some d => if T = U then tiX P T fun ti => appendOA σ ti d x y else none
      | _, _, _ => none
    | .builtin .max => match c.args.toList with
      | [x, y] => valX σ o (orr x ++ orr y) (maxV true (opd σ x) (opd σ y))
      | _ => none
    | .builtin .min => match c.args.toList with
      | [x, y] => valX σ o (orr x ++ orr y) (maxV false (opd σ x) (opd σ y))
      | _ => none
    | _ => none
  | _ => none
theorem valX_eq {σ : List AV} {o : Oper} {rd : List Nat} {a : Option AV} {r : List Nat × List (Nat × AV)} (h : valX σ o rd a = some r) : ∃ av, a = some av ∧ val σ o rd av = some r := by
  unfold valX at h
  split at h
  · rename_i av; exact ⟨av, rfl, h⟩
  · cases h
theorem opX_ok {σ : List AV} {o : Oper} {r : List Nat × List (Nat × AV)} (h : opX P σ o = some r) : AStep P o σ r.1 [] r.2 := by
  unfold opX at h
  split at h
  · rename_i op T x y U ho
    split at h
    · rename_i hnil
      obtain ⟨ti, hti, hk⟩ := tiX_eq h
      obtain ⟨av, hav, hr⟩ := valX_eq hk
      rw [nilO_spec hnil] at ho
      exact sound_nil ho hti hav hr
    · obtain ⟨ti, hti, hk⟩ := tiX_eq h
      obtain ⟨av, hav, hr⟩ := valX_eq hk
      exact sound_bb ho hti hav hr
  · rename_i T n ps ho
    split at h
    · rename_i hn
      obtain ⟨ti, hti, hk⟩ := tiX_eq h
      obtain ⟨av, hav, hr⟩ := valX_eq hk
      exact sound_empty (by rw [ho]) hn hti hav hr
    · cases h
  · rename_i c ho
    obtain ⟨callee, args, argTypes⟩ := c
    simp only at h
    split at h
    · split at h
      · rename_i x y T U d ha ht hd
        split at h
        · rename_i hTU
          subst hTU
          obtain ⟨ti, hti, hk⟩ := tiX_eq h
          have ea : args = #[x, y] := by cases args; simp at ha; rw [ha]
          have et : argTypes = #[T, T] := by cases argTypes; simp at ht; rw [ht]
          rw [ea, et] at ho
          exact sound_appendO ho hd hti hk
        · cases h
      · cases h
    · split at h
      · rename_i x y ha
        obtain ⟨av, hav, hr⟩ := valX_eq h
        have ea : args = #[x, y] := by cases args; simp at ha; rw [ha]
        rw [ea] at ho
        exact sound_max (b := true) ho hav hr
      · cases h
    · split at h
      · rename_i x y ha
        obtain ⟨av, hav, hr⟩ := valX_eq h
        have ea : args = #[x, y] := by cases args; simp at ha; rw [ha]
        rw [ea] at ho
        exact sound_max (b := false) ho hav hr
      · cases h
    · cases h
  · cases h
/-! ### a literal slice that may grow -/
theorem grew_lit {E : Env} {M : Nat → Nat → Prop} {w : World} (hN : E.N ≤ w.heap.size) (hmb : ∀ b o, M b o → b < w.heap.size) (v : Value) (e : TypeId) (es n : Nat) (all : List Value)
    (hall : all.length = n * es) (hcm : n ≤ maxLen) :
    Grew E M w (w.alloc (.cells all.toArray e)) (fun b o => M b o ∨ (b = w.heap.size ∧ n * es ≤ o)) v (.slice (some ⟨w.heap.size, 0, none⟩) n n) es n all := by
  have hb : Below w.heap.size w (w.alloc (.cells all.toArray e)) := (Below.refl _ _).alloc (Nat.le_refl _) _
  have hheap : (w.alloc (.cells all.toArray e)).heap[w.heap.size]? = some (.cells all.toArray e (0, 0)) := heap_new w _
  refine { keeps := ?_, size := hb.size, os := rfl, tape := rfl, output := rfl, block := fun k hk _ => hb.block k hk, mem := fun b o hm _ => .inl hm, mb := ?_, tok := ?_, blk' := ?_, cells := ?_, len := ⟨_, _, rfl, Nat.le_refl _⟩ }
  · intro b o u hm hc
    have hl := World.block_lt_of_cell? w _ hc
    exact ⟨fun hh => hh.elim hm (fun hh => by have := hh.1; simp only at hl; omega), (Keeps.below hb b o u hm hc).2⟩
  · rintro b o (hm | ⟨rfl, _⟩)
    · exact Nat.lt_of_lt_of_le (hmb b o hm) hb.size
    · simp
  · refine .inr ⟨e, n, all, ⟨hall, .inr ⟨w.heap.size, n, _, rfl, hN, hheap, Nat.le_refl _, hcm, ?_, ?_⟩⟩, fun g hg o ho => ?_⟩
    · simp [hall]
    · simp [← hall]
    · simp [Value.ownBlock] at hg
      exact .inr ⟨hg.symm, ho⟩
  · intro g hg
    cases n with
    | zero => simp [tokB] at hg
    | succ n => simp [tokB] at hg; exact .inr (by omega)
  · by_cases h0 : all = []
    · exact .inl h0
    · refine .inr ⟨w.heap.size, n, rfl, Nat.le_refl _, fun j u hj => ⟨?_, ?_⟩⟩
      · have hjl : j < all.length := (List.getElem?_eq_some_iff.1 hj).1
        rintro (hm | ⟨_, ho⟩)
        · have := hmb _ _ hm; omega
        · omega
      · simp only [World.cell?, hheap]
        simpa using hj
end Go.Slot

/- The slot machine, part O: the walk as a computation: what an operation does, run by simp; where a contract is wanted it stands still. -/
namespace Go.Slot
open Go Go.RowKit
variable {P : Program}

/-- what an operation comes to in a state -/
inductive OR where
  | eff (rd tk : List Nat) (eff : List (Nat × AV))
  | call (f : FuncId) (args : List AV) (rd : List Nat)
  | fn (p : (Nat → Nat → Prop) → World → Value → Prop) (args : List AV) (rd : List Nat)
  | mk (f : FuncId) (caps : List AV) (rd : List Nat)
  | own (f : FuncId) (l : List AV) (j s : Nat) (ov : OV) (rd : List Nat)
  | bad

def OR.of : Option (List Nat × List (Nat × AV)) → OR
  | some (rd, e) => .eff rd [] e
  | none => .bad

/-- the number of a program's function, of a function value without captured variables -/
def plainFn : Value → Option FuncId
  | .func (.func f) fs cs => match fs.toList, cs.toList with
    | [], [] => some f
    | _, _ => none
  | _ => none

theorem plainFn_eq {v : Value} {f : FuncId} (h : plainFn v = some f) : v = .func (.func f) #[] #[] := by
  unfold plainFn at h
  split at h
  · rename_i f' fs cs
    split at h
    · rename_i h1 h2
      cases h
      have e1 : fs = #[] := by rw [← Array.toArray_toList (xs := fs), h1]
      have e2 : cs = #[] := by rw [← Array.toArray_toList (xs := cs), h2]
      rw [e1, e2]
    · cases h
  · cases h

def withTI (P : Program) (t : TypeId) (k : TI → OR) : OR := match mkTI P t with
  | some ti => k ti
  | none => .bad

def vofA (σ : List AV) (o : Oper) (rd : List Nat) (a : Option AV) : OR := match a with
  | some av => .of (val σ o rd av)
  | none => .bad

def vofB (σ : List AV) (o : Oper) (a : Option (List Nat × AV)) : OR := match a with
  | some (rd, av) => .of (val σ o rd av)
  | none => .bad

/-- of a slice's type: the numbers that 'slice' wants -/
def sliceOk (ti : TI) (av : AV) : Bool := match ti.sh with
  | .slice _ es _ _ => match av with
    | .one c => match c.bare with
      | .ints _ _ => es == 1
      | .sl n _ => es == n
      | _ => true
    | _ => true
  | _ => true

def elemTI (P : Program) (ti : TI) (k : TI → OR) : OR := match ti.sh with
  | .slice e _ _ _ => withTI P e k
  | _ => .bad

def arrOk (ti : TI) : Bool := match ti.sh with
  | .array _ _ es => es != 0
  | _ => true

def AV.isOwn : AV → Bool
  | .arr _ _ _ | .asl _ | .awn _ _ _ _ => true
  | _ => false

def opB (P : Program) (σ : List AV) (o : Oper) : OR :=
  match o.op with
  | .move x => .of (val σ o (orr x) (cpy x (opd σ x)))
  | .assign x => .of (val σ o (orr x) (cpy x (opd σ x)))
  | .pick c x y => vofA σ o (orr c ++ orr x ++ orr y) (pickA σ c x y)
  | .alloc T => withTI P T fun ti => .of (val σ o [] (.box ti.zc))
  | .box _ x => match cellsOfAV (opd σ x) with
    | some cs => .of (val σ o (orr x) (.box cs))
    | none => .bad
  | .load T x => withTI P T fun ti => vofB σ o (loadA σ ti x)
  | .store T x y => match o.dst with
    | none => withTI P T fun ti => match storeA σ ti x y with
      | some (rd, s, av) => .eff rd [] [(s, av)]
      | none => .bad
    | some _ => .bad
  | .fieldAddr S x f => withTI P S fun ti => vofA σ o (orr x) (fieldAddrA σ ti x f)
  | .extract x n => vofA σ o (orr x) (extractA σ x n)
  | .indexAddr T x y => withTI P T fun ti => vofB σ o (indexAddrA σ ti x y)
  | .binOp op _ x y _ => vofA σ o (orr x ++ orr y) (binA σ op x y)
  | .unOp op _ x => vofA σ o (orr x) (unA σ op x)
  | .convert S D x => withTI P S fun ts => withTI P D fun td => vofA σ o (orr x) (convA σ ts td x)
  | .slice T x lo hi none => withTI P T fun ti => match (opd σ x).isOwn with
    | true => vofB σ o (osliceA σ ti x lo hi)
    | false => if sliceOk ti (opd σ x) then vofA σ o (orr x ++ orrO lo ++ orrO hi) (sliceA σ ti x lo hi none) else .bad
  | .slice T x lo hi mx => withTI P T fun ti => if sliceOk ti (opd σ x) then vofA σ o (orr x ++ orrO lo ++ orrO hi ++ orrO mx) (sliceA σ ti x lo hi mx) else .bad
  | .makeSlice T x y => withTI P T fun ti => elemTI P ti fun te => vofA σ o (orr x ++ orr y) (makeA σ ti te x y)
  | .build T ps => withTI P T fun ti => if arrOk ti && ti.sh.agg then vofA σ o (orrs ps.toList) (buildA σ ti ps.toList) else .bad
  | .buildSlice T n ps => withTI P T fun ti => elemTI P ti fun te => vofA σ o (orrs ps.toList) (buildSliceA σ ti te n ps.toList)
  | .call c => match c.callee with
    | .builtin .len => match c.args.toList, c.argTypes.toList with
      | [x], [T] => withTI P T fun ti => if lenFit σ ti x then vofB σ o (lenA σ x) else .bad
      | _, _ => .bad
    | .builtin .append => match c.args.toList, c.argTypes.toList, o.dst with
      | [x, y], [T, U], some d => if T = U then withTI P T fun ti => match appendA σ ti d x y with
          | some (rd, tk, eff) => .eff rd tk eff
          | none => .bad
        else .bad
      | _, _, _ => .bad
    | .value (.func f) => match argsA σ c.args.toList with
      | some l => if nhDst σ o then .call f l (dstRd o ++ orrL c.args.toList) else .bad
      | none => match argsXA σ c.args.toList with
        | some (l, j, s, ov) => if nhDst σ o then .own f l j s ov (dstRd o ++ s :: orrL c.args.toList) else .bad
        | none => .bad
    | .value (.tmp t) => match gt σ t, argsA σ c.args.toList with
      | .one (.raw v), some l => match plainFn v with
        | some f => if nhDst σ o then .call f l (dstRd o ++ t :: orrL c.args.toList) else .bad
        | none => .bad
      | .one (.fnp p), some l => if nhDst σ o then .fn p l (dstRd o ++ t :: orrL c.args.toList) else .bad
      | _, _ => .bad
    | _ => .bad
  | .makeFunc (.func f) fs cs => match fs.toList, argsA σ cs.toList, o.dst with
    | [], some l, some d => if nh σ d then .mk f l (d :: orrL cs.toList) else .bad
    | _, _, _ => .bad
  | _ => .bad

theorem val_astep {σ : List AV} {o : Oper} {rd0 : List Nat} {av : AV} (hs : ∀ r, val σ o rd0 av = some r → AStep P o σ r.1 [] r.2) {rd tk : List Nat} {eff : List (Nat × AV)} (h : OR.of (val σ o rd0 av) = .eff rd tk eff) : tk = [] ∧ AStep P o σ rd tk eff := by
  cases hv : val σ o rd0 av with
  | none => rw [hv] at h; cases h
  | some r => rw [hv] at h; cases h; exact ⟨rfl, hs r hv⟩

theorem toList_of {α : Type} {a : Array α} {l : List α} (h : a.toList = l) : a = l.toArray := by rw [← h]

theorem append_tk {σ : List AV} {ti : TI} {d : Nat} {x y : Operand} {rd tk : List Nat} {eff : List (Nat × AV)} (h : appendA σ ti d x y = some (rd, tk, eff)) : ∀ t ∈ tk, ∀ i, (gt σ i).hasTok t → i ∈ rd := by
  unfold appendA at h
  split at h
  case h_2 => cases h
  split at h
  case h_2 => cases h
  split at h
  case h_2 => cases h
  split at h
  case h_2 => cases h
  split at h
  case isFalse => cases h
  simp only [Option.some.injEq, Prod.mk.injEq] at h
  obtain ⟨rfl, rfl, rfl⟩ := h
  intro t ht i hi
  have hlt : i < σ.length := by
    rcases Nat.lt_or_ge i σ.length with h | h
    · exact h
    · unfold gt at hi; rw [List.getElem?_eq_none h] at hi; exact hi.elim
  have key : ∀ tk : List Nat, t ∈ tk → i ∈ (stripEff tk 0 σ).map (·.1) := fun tk ht => by
    have hf := stripEff_find tk σ 0 i hlt
    simp only [Nat.zero_add] at hf
    rw [if_neg (fun hall => AV.noTok_spec ((List.all_eq_true.1 hall) t ht) hi)] at hf
    have := List.mem_of_find?_eq_some hf
    exact List.mem_map.2 ⟨_, by simpa using this, rfl⟩
  simp only [List.mem_cons, List.mem_append]
  exact .inr (.inr (key _ ht))

theorem vofA_astep {σ : List AV} {o : Oper} {rd0 : List Nat} {a : Option AV} (hs : ∀ av, a = some av → ∀ r, val σ o rd0 av = some r → AStep P o σ r.1 [] r.2) {rd tk : List Nat} {eff : List (Nat × AV)} (h : vofA σ o rd0 a = .eff rd tk eff) : tk = [] ∧ AStep P o σ rd tk eff := by
  unfold vofA at h
  split at h
  · exact val_astep (hs _ rfl) h
  · cases h

theorem vofB_astep {σ : List AV} {o : Oper} {a : Option (List Nat × AV)} (hs : ∀ rd0 av, a = some (rd0, av) → ∀ r, val σ o rd0 av = some r → AStep P o σ r.1 [] r.2) {rd tk : List Nat} {eff : List (Nat × AV)} (h : vofB σ o a = .eff rd tk eff) : tk = [] ∧ AStep P o σ rd tk eff := by
  unfold vofB at h
  split at h
  · exact val_astep (hs _ _ rfl) h
  · cases h

theorem withTI_eq {t : TypeId} {k : TI → OR} {r : OR} (hr : r ≠ .bad) (h : withTI P t k = r) : ∃ ti, mkTI P t = some ti ∧ k ti = r := by
  unfold withTI at h
  split at h
  · rename_i ti hti; exact ⟨ti, hti, h⟩
  · exact absurd h.symm hr

theorem elemTI_eq {ti : TI} {k : TI → OR} {r : OR} (hr : r ≠ .bad) (h : elemTI P ti k = r) : ∃ e es eb ik te, ti.sh = .slice e es eb ik ∧ mkTI P e = some te ∧ k te = r := by
  unfold elemTI at h
  split at h
  · rename_i e es eb ik hs
    obtain ⟨te, h1, h2⟩ := withTI_eq hr h
    exact ⟨e, es, eb, ik, te, hs, h1, h2⟩
  · exact absurd h.symm hr

theorem opB_eff {σ : List AV} {o : Oper} {rd tk : List Nat} {eff : List (Nat × AV)} (h : opB P σ o = .eff rd tk eff) : AStep P o σ rd tk eff ∧ (∀ t ∈ tk, ∀ i, (gt σ i).hasTok t → i ∈ rd) := by
  have nt : (tk = [] ∧ AStep P o σ rd tk eff) → AStep P o σ rd tk eff ∧ (∀ t ∈ tk, ∀ i, (gt σ i).hasTok t → i ∈ rd) := fun ⟨h1, h2⟩ => ⟨h2, by rw [h1]; intro t ht; cases ht⟩
  have nb : OR.eff rd tk eff ≠ .bad := by simp
  unfold opB at h
  split at h
  · rename_i x ho; exact nt (val_astep (fun r hr => sound_move (.inl ho) hr) h)
  · rename_i x ho; exact nt (val_astep (fun r hr => sound_move (.inr ho) hr) h)
  · rename_i c x y ho; exact nt (vofA_astep (fun av ha r hr => sound_pick ho ha hr) h)
  · rename_i T ho
    obtain ⟨ti, hti, hk⟩ := withTI_eq nb h
    exact nt (val_astep (fun r hr => sound_alloc ho hti hr) hk)
  · rename_i T x ho
    split at h
    · rename_i cs hcs; exact nt (val_astep (fun r hr => sound_box ho hcs hr) h)
    · cases h
  · rename_i T x ho
    obtain ⟨ti, hti, hk⟩ := withTI_eq nb h
    exact nt (vofB_astep (fun rd0 av ha r hr => sound_load ho hti ha hr) hk)
  · rename_i T x y ho
    split at h
    · rename_i hd
      obtain ⟨ti, hti, hk⟩ := withTI_eq nb h
      split at hk
      · rename_i rd' s av hst
        cases hk
        exact nt ⟨rfl, sound_store ho hd hti hst⟩
      · cases hk
    · cases h
  · rename_i S x f ho
    obtain ⟨ti, hti, hk⟩ := withTI_eq nb h
    exact nt (vofA_astep (fun av ha r hr => sound_fieldAddr ho hti ha hr) hk)
  · rename_i x n ho; exact nt (vofA_astep (fun av ha r hr => sound_extract ho ha hr) h)
  · rename_i T x y ho
    obtain ⟨ti, hti, hk⟩ := withTI_eq nb h
    exact nt (vofB_astep (fun rd0 av ha r hr => sound_indexAddr ho hti ha hr) hk)
  · rename_i op T x y U ho; exact nt (vofA_astep (fun av ha r hr => sound_bin ho ha hr) h)
  · rename_i op T x ho; exact nt (vofA_astep (fun av ha r hr => sound_un ho ha hr) h)
  · rename_i S D x ho
    obtain ⟨ts, hts, hk⟩ := withTI_eq nb h
    obtain ⟨td, htd, hk⟩ := withTI_eq nb hk
    exact nt (vofA_astep (fun av ha r hr => sound_conv ho hts htd ha hr) hk)
  · rename_i T x lo hi ho
    obtain ⟨ti, hti, hk⟩ := withTI_eq nb h
    split at hk
    · exact nt (vofB_astep (fun rd0 av ha r hr => sound_oslice ho hti ha hr) hk)
    · split at hk
      · rename_i hok
        refine nt (vofA_astep (fun av ha r hr => sound_slice ho hti (fun e es eb ik hsh c hc => ?_) ha (by simpa [orrO] using hr)) hk)
        unfold sliceOk at hok
        simp only [hsh, hc] at hok
        refine ⟨fun k L e => ?_, fun n rows e => ?_⟩
        · rw [e] at hok; simpa using hok
        · rw [e] at hok; simpa using hok
      · cases hk
  · rename_i T x lo hi mx _ ho
    obtain ⟨ti, hti, hk⟩ := withTI_eq nb h
    split at hk
    · rename_i hok
      refine nt (vofA_astep (fun av ha r hr => sound_slice ho hti (fun e es eb ik hsh c hc => ?_) ha hr) hk)
      unfold sliceOk at hok
      simp only [hsh, hc] at hok
      refine ⟨fun k L e => ?_, fun n rows e => ?_⟩
      · rw [e] at hok; simpa using hok
      · rw [e] at hok; simpa using hok
    · cases hk
  · rename_i T x y ho
    obtain ⟨ti, hti, hk⟩ := withTI_eq nb h
    obtain ⟨e, es, eb, ik, te, hs, hte, hk⟩ := elemTI_eq nb hk
    exact nt (vofA_astep (fun av ha r hr => sound_make ho hti (fun e' es' eb' ik' hs' => by rw [hs] at hs'; cases hs'; exact hte) ha hr) hk)
  · rename_i T ps ho
    obtain ⟨ti, hti, hk⟩ := withTI_eq nb h
    split at hk
    · rename_i hok
      simp only [Bool.and_eq_true] at hok
      refine nt (vofA_astep (fun av ha r hr => sound_build (by rw [ho]) hti (fun n e es hs => ?_) ha hok.2 hr) hk)
      have := hok.1
      unfold arrOk at this
      rw [hs] at this
      simpa using this
    · cases hk
  · rename_i T n ps ho
    obtain ⟨ti, hti, hk⟩ := withTI_eq nb h
    obtain ⟨e, es, eb, ik, te, hs, hte, hk⟩ := elemTI_eq nb hk
    exact nt (vofA_astep (fun av ha r hr => sound_buildSlice (by rw [ho]) hti (fun e' es' eb' ik' hs' => by rw [hs] at hs'; cases hs'; exact hte) ha hr) hk)
  · rename_i c ho
    obtain ⟨callee, args, argTypes⟩ := c
    simp only at h
    split at h
    · split at h
      · rename_i x T ha ht
        obtain ⟨ti, hti, hk⟩ := withTI_eq nb h
        split at hk
        · rename_i hfit
          rw [toList_of ha, toList_of ht] at ho
          exact nt (vofB_astep (fun rd0 av hb r hr => sound_len ho hti hfit hb hr) hk)
        · cases hk
      · cases h
    · split at h
      · rename_i x y T U d ha ht hd
        split at h
        · rename_i hTU
          subst hTU
          obtain ⟨ti, hti, hk⟩ := withTI_eq nb h
          split at hk
          · rename_i rd' tk' eff' hA
            cases hk
            rw [toList_of ha, toList_of ht] at ho
            exact ⟨sound_append ho hd hti hA, append_tk hA⟩
          · cases hk
        · cases h
      · cases h
    · split at h
      · split at h <;> cases h
      · split at h
        · split at h <;> cases h
        · cases h
    · split at h
      · split at h
        · split at h <;> cases h
        · cases h
      · split at h <;> cases h
      · cases h
    · cases h
  · split at h
    · split at h <;> cases h
    · cases h
  · cases h

theorem opB_call {σ : List AV} {o : Oper} {f : FuncId} {args : List AV} {rd : List Nat} (h : opB P σ o = .call f args rd) {res : AV} (hc : CallsTo P f args res) : AStep P o σ rd [] (callEff o res) := by
  have nb : OR.call f args rd ≠ .bad := by simp
  have no_of : ∀ x, OR.of x ≠ .call f args rd := fun x => by unfold OR.of; split <;> simp
  have no_A : ∀ rd0 a, vofA σ o rd0 a ≠ .call f args rd := fun rd0 a => by unfold vofA; split <;> first | exact no_of _ | simp
  have no_B : ∀ a, vofB σ o a ≠ .call f args rd := fun a => by unfold vofB; split <;> first | exact no_of _ | simp
  unfold opB at h
  split at h
  case h_19 =>
    rename_i c ho
    obtain ⟨callee, as, ts⟩ := c
    simp only at h
    split at h
    · split at h
      · obtain ⟨ti, hti, hk⟩ := withTI_eq nb h
        split at hk
        · exact absurd hk (no_B _)
        · cases hk
      · cases h
    · split at h
      · split at h
        · obtain ⟨ti, hti, hk⟩ := withTI_eq nb h
          split at hk <;> cases hk
        · cases h
      · cases h
    · split at h
      · rename_i l hl
        split at h
        · rename_i hn
          cases h
          exact sound_call (ts := ts) (by rw [ho]) hl hn hc
        · cases h
      · split at h
        · split at h <;> cases h
        · cases h
    · split at h
      · rename_i v l ht hl
        split at h
        · rename_i f' hf
          split at h
          · rename_i hn
            cases h
            exact sound_callv (ts := ts) (by rw [ho]) (by rw [ht, plainFn_eq hf]) hl hn hc
          · cases h
        · cases h
      · split at h <;> cases h
      · cases h
    · cases h
  all_goals first
    | exact absurd h (no_of _)
    | exact absurd h (no_A _ _)
    | exact absurd h (no_B _)
    | (obtain ⟨ti, hti, hk⟩ := withTI_eq nb h
       first
         | exact absurd hk (no_of _)
         | exact absurd hk (no_A _ _)
         | exact absurd hk (no_B _)
         | (obtain ⟨td, htd, hk⟩ := withTI_eq nb hk; exact absurd hk (no_A _ _))
         | (split at hk <;> first | exact absurd hk (no_A _ _) | cases hk)
         | (split at hk
            · exact absurd hk (no_B _)
            · split at hk
              · exact absurd hk (no_A _ _)
              · cases hk)
         | (obtain ⟨e, es, eb, ik, te, hs, hte, hk⟩ := elemTI_eq nb hk; exact absurd hk (no_A _ _)))
    | (split at h
       · first
         | exact absurd h (no_of _)
         | (obtain ⟨ti, hti, hk⟩ := withTI_eq nb h; split at hk <;> cases hk)
         | (split at h <;> cases h)
       · cases h)
    | cases h
end Go.Slot

/- The slot machine, part P: regions as computations. -/
namespace Go.Slot
open Go Go.RowKit
variable {P : Program}

theorem opB_fn {σ : List AV} {o : Oper} {F : List AV → AV → Prop} {args : List AV} {rd : List Nat} (h : opB P σ o = .fn (FnSpec P F) args rd) {res : AV} (hc : F args res) : AStep P o σ rd [] (callEff o res) := by
  have nb : OR.fn (FnSpec P F) args rd ≠ .bad := by simp
  have no_of : ∀ x, OR.of x ≠ .fn (FnSpec P F) args rd := fun x => by unfold OR.of; split <;> simp
  have no_A : ∀ rd0 a, vofA σ o rd0 a ≠ .fn (FnSpec P F) args rd := fun rd0 a => by unfold vofA; split <;> first | exact no_of _ | simp
  have no_B : ∀ a, vofB σ o a ≠ .fn (FnSpec P F) args rd := fun a => by unfold vofB; split <;> first | exact no_of _ | simp
  unfold opB at h
  split at h
  case h_19 =>
    rename_i c ho
    obtain ⟨callee, as, ts⟩ := c
    simp only at h
    split at h
    · split at h
      · obtain ⟨ti, hti, hk⟩ := withTI_eq nb h
        split at hk
        · exact absurd hk (no_B _)
        · cases hk
      · cases h
    · split at h
      · split at h
        · obtain ⟨ti, hti, hk⟩ := withTI_eq nb h
          split at hk <;> cases hk
        · cases h
      · cases h
    · split at h
      · split at h <;> cases h
      · split at h
        · split at h <;> cases h
        · cases h
    · split at h
      · split at h
        · split at h <;> cases h
        · cases h
      · rename_i p l ht hl
        split at h
        · rename_i hn
          cases h
          exact sound_callf (ts := ts) (by rw [ho]) ht hl hn hc
        · cases h
      · cases h
    · cases h
  all_goals first
    | exact absurd h (no_of _)
    | exact absurd h (no_A _ _)
    | exact absurd h (no_B _)
    | (obtain ⟨ti, hti, hk⟩ := withTI_eq nb h
       first
         | exact absurd hk (no_of _)
         | exact absurd hk (no_A _ _)
         | exact absurd hk (no_B _)
         | (obtain ⟨td, htd, hk⟩ := withTI_eq nb hk; exact absurd hk (no_A _ _))
         | (split at hk <;> first | exact absurd hk (no_A _ _) | cases hk)
         | (split at hk
            · exact absurd hk (no_B _)
            · split at hk
              · exact absurd hk (no_A _ _)
              · cases hk)
         | (obtain ⟨e, es, eb, ik, te, hs, hte, hk⟩ := elemTI_eq nb hk; exact absurd hk (no_A _ _)))
    | (split at h
       · first
         | exact absurd h (no_of _)
         | (obtain ⟨ti, hti, hk⟩ := withTI_eq nb h; split at hk <;> cases hk)
         | (split at h <;> cases h)
       · cases h)
    | cases h

theorem opB_mk {σ : List AV} {o : Oper} {f : FuncId} {caps : List AV} {rd : List Nat} (h : opB P σ o = .mk f caps rd) {F : List AV → AV → Prop} (hcall : Callable P f) (hF : ∀ args res, F args res → CallsTo P f (args ++ caps) res) :
    AStep P o σ rd [] (callEff o (.one (.fnp (FnSpec P F)))) := by
  have nb : OR.mk f caps rd ≠ .bad := by simp
  have no_of : ∀ x, OR.of x ≠ .mk f caps rd := fun x => by unfold OR.of; split <;> simp
  have no_A : ∀ rd0 a, vofA σ o rd0 a ≠ .mk f caps rd := fun rd0 a => by unfold vofA; split <;> first | exact no_of _ | simp
  have no_B : ∀ a, vofB σ o a ≠ .mk f caps rd := fun a => by unfold vofB; split <;> first | exact no_of _ | simp
  unfold opB at h
  split at h
  case h_20 =>
    rename_i f' fs cs ho
    split at h
    · rename_i l d hfs hl hd
      split at h
      · rename_i hn
        cases h
        have := sound_makeFunc (P := P) (by rw [ho, toList_of hfs]) hl hcall hF (r := (d :: orrL cs.toList, [(d, .one (.fnp (FnSpec P F)))])) (by unfold val; rw [hd]; simp [hn])
        simpa [callEff, hd] using this
      · cases h
    · cases h
  case h_19 =>
    rename_i c ho
    obtain ⟨callee, as, ts⟩ := c
    simp only at h
    split at h
    · split at h
      · obtain ⟨ti, hti, hk⟩ := withTI_eq nb h
        split at hk
        · exact absurd hk (no_B _)
        · cases hk
      · cases h
    · split at h
      · split at h
        · obtain ⟨ti, hti, hk⟩ := withTI_eq nb h
          split at hk <;> cases hk
        · cases h
      · cases h
    · split at h
      · split at h <;> cases h
      · split at h
        · split at h <;> cases h
        · cases h
    · split at h
      · split at h
        · split at h <;> cases h
        · cases h
      · split at h <;> cases h
      · cases h
    · cases h
  all_goals first
    | exact absurd h (no_of _)
    | exact absurd h (no_A _ _)
    | exact absurd h (no_B _)
    | (obtain ⟨ti, hti, hk⟩ := withTI_eq nb h
       first
         | exact absurd hk (no_of _)
         | exact absurd hk (no_A _ _)
         | exact absurd hk (no_B _)
         | (obtain ⟨td, htd, hk⟩ := withTI_eq nb hk; exact absurd hk (no_A _ _))
         | (split at hk <;> first | exact absurd hk (no_A _ _) | cases hk)
         | (split at hk
            · exact absurd hk (no_B _)
            · split at hk
              · exact absurd hk (no_A _ _)
              · cases hk)
         | (obtain ⟨e, es, eb, ik, te, hs, hte, hk⟩ := elemTI_eq nb hk; exact absurd hk (no_A _ _)))
    | (split at h
       · first
         | exact absurd h (no_of _)
         | (obtain ⟨ti, hti, hk⟩ := withTI_eq nb h; split at hk <;> cases hk)
         | (split at h <;> cases h)
       · cases h)
    | cases h

theorem opB_own {σ : List AV} {o : Oper} {f : FuncId} {l : List AV} {j s : Nat} {ov : OV} {rd : List Nat} (h : opB P σ o = .own f l j s ov rd) {new : OV} {res nw res' : AV} (hc : CallX P f l j ov new res)
    (hs : newSlot (gt σ s) ov new = some nw) (hr : newRes s ov res = some res') : AStep P o σ rd [] ((s, nw) :: callEff o res') := by
  have nb : OR.own f l j s ov rd ≠ .bad := by simp
  have no_of : ∀ x, OR.of x ≠ .own f l j s ov rd := fun x => by unfold OR.of; split <;> simp
  have no_A : ∀ rd0 a, vofA σ o rd0 a ≠ .own f l j s ov rd := fun rd0 a => by unfold vofA; split <;> first | exact no_of _ | simp
  have no_B : ∀ a, vofB σ o a ≠ .own f l j s ov rd := fun a => by unfold vofB; split <;> first | exact no_of _ | simp
  unfold opB at h
  split at h
  case h_19 =>
    rename_i c ho
    obtain ⟨callee, as, ts⟩ := c
    simp only at h
    split at h
    · split at h
      · obtain ⟨ti, hti, hk⟩ := withTI_eq nb h
        split at hk
        · exact absurd hk (no_B _)
        · cases hk
      · cases h
    · split at h
      · split at h
        · obtain ⟨ti, hti, hk⟩ := withTI_eq nb h
          split at hk <;> cases hk
        · cases h
      · cases h
    · split at h
      · split at h <;> cases h
      · split at h
        · rename_i hx
          split at h
          · rename_i hn
            cases h
            exact sound_callx (ts := ts) (by rw [ho]) hx hn hc hs hr
          · cases h
        · cases h
    · split at h
      · split at h
        · split at h <;> cases h
        · cases h
      · split at h <;> cases h
      · cases h
    · cases h
  all_goals first
    | exact absurd h (no_of _)
    | exact absurd h (no_A _ _)
    | exact absurd h (no_B _)
    | (obtain ⟨ti, hti, hk⟩ := withTI_eq nb h
       first
         | exact absurd hk (no_of _)
         | exact absurd hk (no_A _ _)
         | exact absurd hk (no_B _)
         | (obtain ⟨td, htd, hk⟩ := withTI_eq nb hk; exact absurd hk (no_A _ _))
         | (split at hk <;> first | exact absurd hk (no_A _ _) | cases hk)
         | (split at hk
            · exact absurd hk (no_B _)
            · split at hk
              · exact absurd hk (no_A _ _)
              · cases hk)
         | (obtain ⟨e, es, eb, ik, te, hs, hte, hk⟩ := elemTI_eq nb hk; exact absurd hk (no_A _ _)))
    | (split at h
       · first
         | exact absurd h (no_of _)
         | (obtain ⟨ti, hti, hk⟩ := withTI_eq nb h; split at hk <;> cases hk)
         | (split at h <;> cases h)
       · cases h)
    | cases h

/-! ### a literal slice that may grow: wanted by a ghost -/
def litE (σ : List AV) (d : Nat) (rd : List Nat) (se : List (Nat × AV)) (b : Bool) : Option AV → OR
  | some (.one c) => match b, nh σ d with
    | true, true => .eff (d :: (rd ++ se.map (·.1))) [d] (se ++ [(d, .one (.tok d c))])
    | _, _ => .bad
  | _ => .bad
def isNone {α : Type} : Option α → Bool
  | none => true
  | some _ => false
def litA (P : Program) (σ : List AV) (o : Oper) (T : TypeId) (n : Nat) (ps : List (Nat × Operand)) : OR := match o.dst with
  | some d => withTI P T fun ti => elemTI P ti fun te => litE σ d (orrs ps) (stripEff [d] 0 σ) (isNone o.guard) (buildSliceA σ ti te n ps)
  | none => .bad
theorem chunk_flat (es : Nat) : ∀ (n : Nat) (cs : List Cell), cs.length = n * es → (chunk es n cs).flatten = cs
  | 0, cs, h => by
    have : cs = [] := List.eq_nil_of_length_eq_zero (by simpa using h)
    subst this; rfl
  | n + 1, cs, h => by
    rw [Nat.add_mul, Nat.one_mul] at h
    simp only [chunk, List.flatten_cons]
    rw [chunk_flat es n (cs.drop es) (by simp; omega), List.take_append_drop]
theorem chunk_len (es : Nat) : ∀ (n : Nat) (cs : List Cell), cs.length = n * es → ∀ r ∈ chunk es n cs, r.length = es
  | 0, cs, _ => fun r hr => by cases hr
  | n + 1, cs, h => fun r hr => by
    rw [Nat.add_mul, Nat.one_mul] at h
    simp only [chunk] at hr
    rcases List.mem_cons.1 hr with rfl | hr
    · simp; omega
    · exact chunk_len es n (cs.drop es) (by simp; omega) r hr
theorem sound_lit {σ : List AV} {o : Oper} {T : TypeId} {n : Nat} {ps : List (Nat × Operand)} (ho : o.op = .buildSlice T n ps.toArray) {rd tk : List Nat} {eff : List (Nat × AV)} (h : litA P σ o T n ps = .eff rd tk eff) :
    AStep P o σ rd tk eff ∧ (∀ t ∈ tk, ∀ i, (gt σ i).hasTok t → i ∈ rd) := by
  have nb : OR.eff rd tk eff ≠ .bad := by simp
  unfold litA at h
  split at h
  case h_2 => cases h
  rename_i d hdst
  obtain ⟨ti, hti, hk⟩ := withTI_eq nb h
  obtain ⟨e, es, eb, ik, te, hsh, hte, hk⟩ := elemTI_eq nb hk
  unfold litE at hk
  split at hk
  case h_2 => cases hk
  rename_i c hb
  split at hk
  case h_2 => cases hk
  rename_i hn
  cases hk
  refine ⟨?_, ?_⟩
  · intro E σ' a w hag htk ⟨τ, M, hI⟩ K Q hK
    have hok := mkTI_ok hti
    obtain ⟨ds, i, z, hd, hi, hz, _, _, _, _, _, hsh'⟩ := hok.ex
    obtain ⟨rfl, j, z', hj, hz', hjs, hjb, hes0, hzs, hik⟩ := shOf_slice (hsh'.symm.trans hsh)
    obtain ⟨de, je, ze, hde, hje, hze, _, _, _, hone, hzce, _⟩ := (mkTI_ok hte).ex
    rw [hj] at hje; cases hje
    rw [hz'] at hze; cases hze
    unfold buildSliceA at hb
    rw [hsh] at hb
    dsimp only at hb
    split at hb
    case isFalse => cases hb
    rename_i hsmall
    split at hb
    · cases hb
    rename_i cs hfill
    have hav : avParts σ' ps = avParts σ ps := avParts_congr ps (fun x hx => hag.opd (fun t ht => by
      have := hx t ht
      simp [this]))
    have hz0 : RdL M w τ (repeatL z'.cells.toList n) (repeatL te.zc n) := repeatL_ok (by rw [hzce]; exact zcells_ok hone) n
    have hinit : (Array.range (n * es)).map (z'.cells[· % z'.cells.size]!) = (repeatL z'.cells.toList n).toArray := by
      apply Array.ext
      · simp [repeatL_length, hzs]
      · intro q h1 h2
        simp only [Array.size_map, Array.size_range] at h1
        have hq := repeatL_get z'.cells.toList n q (by simpa [hzs] using h1)
        have hlt : q % z'.cells.size < z'.cells.size := Nat.mod_lt _ (by rw [hzs]; omega)
        simp only [Array.getElem_map, Array.getElem_range, List.getElem_toArray]
        simp only [Array.length_toList, Array.getElem?_toList] at hq
        rw [Array.getElem?_eq_getElem hlt, List.getElem?_eq_getElem (by simpa using h2)] at hq
        simp at hq
        rw [hq]
        simp [hlt]
    obtain ⟨cells', hf, hrd⟩ := fill_ok hI (fun i => some (i * es, es)) ps (repeatL z'.cells.toList n).toArray _ cs (by simpa using hz0) (by rw [hav]; exact hfill)
    have hrun : (execOp a.eval o).run P w = .ok (.value (.slice (some ⟨w.heap.size, 0, none⟩) n n)) (w.alloc (.cells cells' e)) := by
      have h24 : ¬ (16777216 < n * es) := by omega
      have hne : ¬ (n * es = 0) := by
        intro h0
        rcases Nat.mul_eq_zero.1 h0 with h0 | h0
        · exact hsmall.2 h0
        · exact hes0 h0
      have hpe : (Array.map (fun x => match x with | (i, x) => (i, a.eval x)) ps.toArray).toList = ps.map fun p => (p.1, a.eval p.2) := by simp
      simp only [execOp, ho, Instr.buildSlice, Sem.run_bind, run_underlying' hd, Result.andThen_ok, run_sizeOf' hj, hjs]
      rw [if_neg (by simpa using h24), if_neg hne]
      simp only [Sem.run_bind, run_zeroValue' hj hz', Result.andThen_ok, Sem.run_pure, hinit]
      rw [hpe, hf]
      simp [newRow]
    have hcl : (bareL cs).length = n * es := by
      rw [bareL_length, fillC_length _ _ _ hfill, repeatL_length, hzce]
      simp [hzs]
    have hall : cells'.toList.length = n * es := by rw [hrd.bare.length, hcl]
    have hn1 : n ≤ n * es := Nat.le_mul_of_pos_right n (Nat.pos_of_ne_zero hes0)
    obtain ⟨old, h1, h2⟩ := nh_spec (hag.nh (by simp) hn)
    have hfin : app (stripEff [d] 0 σ ++ [(d, .one (.tok d c))]) σ' = (stripAll [d] σ').set d (.one (.tok d c)) := by
      rw [app_append, app_stripEff hag.1 (fun r hr => hag.2 r (by simp only [List.mem_cons, List.mem_append]; exact .inr (.inr hr))) (fun t ht i hi => hag.2 i (htk t ht i hi))]
      rfl
    have hg := grew_lit hI.size hI.mb (.slice none 0 0) e es n cells'.toList hall (by simp [maxLen]; omega)
    rw [Array.toArray_toList] at hg
    have hv : TokOk E M w ⟨.slice none 0 0, es⟩ := .inl ⟨none, rfl⟩
    split at hb
    · rename_i k
      split at hb
      · rename_i he1
        subst he1
        simp only [Option.map_eq_some_iff, AV.one.injEq] at hb
        obtain ⟨l, hl, rfl⟩ := hb
        have hvs := intsOf_ok hrd.bare hl
        have hll : l.length = n := by
          have h1 := congrArg List.length hvs
          have h2 := hrd.bare.length
          simp only [List.length_map] at h1
          omega
        subst hll
        rw [hvs] at hg
        exact append_finish hdst (by simp) hI h1 h2 rfl hg hg.ints hrun hv (fun _ _ _ _ => tokB_zero) (fun _ _ _ _ => tokB_zero) hfin hK
      · cases hb
    · cases hb
      have hfl : (chunk es n (bareL cs)).flatten = bareL cs := chunk_flat es n _ hcl
      have hg' : Grew E M w (w.alloc (.cells cells' e)) (fun b o => M b o ∨ (b = w.heap.size ∧ n * es ≤ o)) (.slice none 0 0) (.slice (some ⟨w.heap.size, 0, none⟩) n n) es (chunk es n (bareL cs)).length cells'.toList := by
        rw [chunk_length]; exact hg
      exact append_finish hdst (by simp) hI h1 h2 rfl hg' (hg'.rows (by rw [hfl]; exact hrd.bare) (fun r hr => chunk_len es n _ hcl r hr) (by rw [chunk_length]; exact hall) (Nat.pos_of_ne_zero hes0)) hrun hv (fun _ _ _ _ => tokB_zero) (fun _ _ _ _ => tokB_zero) hfin hK
  · intro t ht i hi
    have hlt : i < σ.length := by
      rcases Nat.lt_or_ge i σ.length with h | h
      · exact h
      · unfold gt at hi; rw [List.getElem?_eq_none h] at hi; exact hi.elim
    have hf := stripEff_find [d] σ 0 i hlt
    simp only [Nat.zero_add] at hf
    rw [if_neg (fun hall => AV.noTok_spec ((List.all_eq_true.1 hall) t ht) hi)] at hf
    have := List.mem_of_find?_eq_some hf
    simp only [List.mem_cons, List.mem_append]
    exact .inr (.inr (List.mem_map.2 ⟨_, by simpa using this, rfl⟩))

/-! ### what is appended to an empty slice lies in a block of one's own: wanted by a ghost -/
def emptyOf (es : Nat) : Option IntKind → Cell
  | some k => .ints k []
  | none => .sl es []
def isZc : Cell → Bool
  | .zc => true
  | .raw (.slice none 0 0) => true
  | _ => false
def zcAt : AV → Bool
  | .one c => isZc c
  | _ => false
def ownN : Option Cell → Option AV
  | some c' => if c'.cnt ≠ 0 then some (.arr [] c' none) else none
  | none => none
def appendNA (σ : List AV) (ti : TI) (x y : Operand) : Option AV := match ti.sh with
  | .slice _ es eb ik => match zcAt (opd σ x) with
    | true => match opd σ y with
      | .one cy => ownN (joinC es eb ik (emptyOf es ik) cy.bare)
      | _ => none
    | false => none
  | _ => none
theorem isZc_ok {M : Nat → Nat → Prop} {w : World} {τ : Nat → TV} {v : Value} {c : Cell} (h : isZc c = true) (hr : RdT M w τ v c) : ∃ ad, v = .slice ad 0 0 := by
  unfold isZc at h
  split at h
  · have hr : RdC M w v .zc := hr
    cases hr; exact ⟨_, rfl⟩
  · exact ⟨none, RdC.raw_inv hr⟩
  · cases h
theorem sound_appendN {σ : List AV} {o : Oper} {T : TypeId} {x y : Operand} (ho : o.op = .call { callee := .builtin .append, args := #[x, y], argTypes := #[T, T] }) {ti : TI} (hti : mkTI P T = some ti)
    {av : AV} (hA : appendNA σ ti x y = some av) {r : List Nat × List (Nat × AV)} (h : val σ o (orr x ++ orr y) av = some r) : AStep P o σ r.1 [] r.2 := by
  obtain ⟨d, hdst, hn, rfl⟩ := val_spec h
  obtain ⟨ds, i0, z0, hd0, hi0, hz0, _, _, _, _, _, hsh'⟩ := (mkTI_ok hti).ex
  unfold appendNA at hA
  split at hA
  case h_2 => cases hA
  rename_i e es eb ik hsh
  split at hA
  case h_2 => cases hA
  rename_i hzc
  split at hA
  case h_2 => cases hA
  rename_i cy hy
  unfold ownN at hA
  split at hA
  case h_2 => cases hA
  rename_i c' hjoin
  split at hA
  case isFalse => cases hA
  rename_i hcnt0
  cases hA
  obtain ⟨rfl, j, z', hj, hz', hjs, hjb, hes0, hzs, hik⟩ := shOf_slice (hsh'.symm.trans hsh)
  have hes : 0 < es := Nat.pos_of_ne_zero hes0
  intro E σ' a w hag _ ⟨τ, M, hI⟩ K Q hK
  have hox : opd σ' x = opd σ x := hag.opd (fun t ht => by simp [ht])
  have hoy : opd σ' y = opd σ y := hag.opd (fun t ht => by simp [ht])
  have sx := hI.opd x
  have sy := hI.opd y
  rw [hox] at sx; rw [hoy, hy] at sy
  have hxv : ∃ ad, a.eval x = .slice ad 0 0 := by
    unfold zcAt at hzc
    split at hzc
    · rename_i c hc
      rw [hc] at sx
      exact isZc_ok hzc sx
    · cases hzc
  obtain ⟨xad, hxv⟩ := hxv
  have sy : RdT M w τ (a.eval y) cy := sy
  have hu : (emptyOf es ik).uni := by
    cases ik with
    | some k => exact trivial
    | none => intro r hr; cases hr
  have hc0 : (emptyOf es ik).cnt = 0 := by cases ik <;> rfl
  have hf0 : (emptyOf es ik).flat = [] := by cases ik <;> rfl
  obtain ⟨m, news, fy, ⟨yad, ycap, hyv⟩, hnl, hnr, hnc, hu', hcnt', hesz', hesz, hflat', hb1, hb2⟩ := joinC_cells hes hjoin hu sy.bare
  rw [hc0, Nat.zero_add] at hcnt' hb1 hb2
  rw [hf0, List.nil_append] at hflat'
  have hm0 : 0 < m := by omega
  obtain ⟨old, h1, h2⟩ := nh_spec (hag.nh (by simp) hn)
  have hn1 : ∀ u ∈ news, u.oneCell' = true := hnr.oneL
  have hnc' : news = [] ∨ ∃ b off cap, Value.slice yad m ycap = .slice (some ⟨b, off, none⟩) m cap ∧ ∀ j u, news[j]? = some u → w.drew.cell? ⟨b, off + j, none⟩ = some u := hnc.imp id fun ⟨b', off, cap', e', hh⟩ => ⟨b', off, cap', by rw [← hyv]; exact e', fun j u hj => (hh j u hj).2⟩
  have hfd : (Builtin.firstCells j.size m (.slice yad m ycap)).run P w.drew = .ok news.toArray w.drew := run_firstCells_any w.drew m _ news ⟨_, _, rfl⟩ (by rw [hjs]; exact hnl) hnc'
  have hfo : (Builtin.firstCells j.size 0 (.slice xad 0 0)).run P w.drew = .ok ([] : List Value).toArray w.drew := run_firstCells_any w.drew 0 _ [] ⟨_, _, rfl⟩ (by simp) (.inl rfl)
  have hrun := run_append_new (P := P) hd0 hj hz' w o.type hfd hfo (by omega) (by rw [Nat.zero_add, hjb]; exact hb1) (by rw [Nat.zero_add]; exact hb2)
  rw [Nat.zero_add] at hrun
  generalize hgc : grownCap w m 0 e = gc at hrun
  have hge : m ≤ gc := by rw [← hgc]; exact grownCap_ge w m 0 e
  have hrunop : (execOp a.eval o).run P w = .ok (.value (.slice (some ⟨w.heap.size, 0, none⟩) m gc)) (w.drew.alloc (.cells (([] ++ news).toArray ++ Builtin.zeroCells z'.cells (gc - m)) e)) := by
    have hrun' := hrun
    simp only [List.nil_append] at hrun'
    simp [execOp, ho, resolve, invoke, builtin, hxv, hyv, hrun']
  have hbl : Below w.heap.size w (w.drew.alloc (.cells (([] ++ news).toArray ++ Builtin.zeroCells z'.cells (gc - m)) e)) := ((Below.refl _ _).drew).alloc (Nat.le_refl _) _
  have hheap' : (w.drew.alloc (.cells (([] ++ news).toArray ++ Builtin.zeroCells z'.cells (gc - m)) e)).heap[w.heap.size]? = some (.cells (([] ++ news).toArray ++ Builtin.zeroCells z'.cells (gc - m)) e (0, 0)) := heap_new w.drew _
  unfold Oper.wp
  rw [hrunop]
  show K (a.put o.dst _) _
  rw [hdst]
  refine hK _ _ ⟨τ, _, hI.adopt hbl h1 h2 (.slice (some ⟨w.heap.size, 0, none⟩) m gc) (.arr [] c' none) rfl rfl (Nat.le_refl _) (by simp [blk]) ?_ (fun t ht => ht.elim)⟩
  refine ⟨w.heap.size, e, news, (Builtin.zeroCells z'.cells (gc - m)).toList, gc, by rw [hcnt']; rfl, ?_, ?_, fun p hp => (by cases hp), hu', by rw [hcnt']; exact hge, ?_⟩
  · rw [hheap']
    congr 2
    apply Array.ext'
    simp
  · rw [hflat']
    refine hnr.keep (fun b' o u hm hc => ?_)
    have hl := World.block_lt_of_cell? w _ hc
    exact ⟨fun hh => hh.elim hm (fun hh => by simp only [blk] at hh; simp only at hl; omega), (Keeps.below hbl b' o u hm hc).2⟩
  · rw [hesz', hnl, Array.length_toList, size_zeroCells, hzs, ← Nat.add_mul]
    exact Nat.mul_le_mul_right _ (by omega)

/-! ### all operations -/
def litB (P : Program) (σ : List AV) (o : Oper) (x y : Operand) (T : TypeId) : OR := withTI P T fun ti => vofA σ o (orr x ++ orr y) (appendNA σ ti x y)
/-- the operations that a ghost turns -/
def opL (P : Program) (σ : List AV) (o : Oper) : Option OR := match o.op with
  | .buildSlice T n ps => match n != 0 with
    | true => some (litA P σ o T n ps.toList)
    | false => none
  | .call c => match c.callee with
    | .builtin .append => match c.args.toList, c.argTypes.toList with
      | [x, y], [T, U] => match zcAt (opd σ x) with
        | true => if T = U then some (litB P σ o x y T) else none
        | false => none
      | _, _ => none
    | _ => none
  | _ => none
def opA0 (P : Program) (σ : List AV) (o : Oper) : OR := if isX σ o.op = true then .of (opX P σ o) else opB P σ o
def selO : Option OR → OR → OR
  | some r, _ => r
  | none, r => r
def opA (P : Program) (lt : Bool) (σ : List AV) (o : Oper) : OR := match lt with
  | true => selO (opL P σ o) (opA0 P σ o)
  | false => opA0 P σ o
theorem opA0_eff {σ : List AV} {o : Oper} {rd tk : List Nat} {eff : List (Nat × AV)} (h : opA0 P σ o = .eff rd tk eff) : AStep P o σ rd tk eff ∧ (∀ t ∈ tk, ∀ i, (gt σ i).hasTok t → i ∈ rd) := by
  unfold opA0 at h
  split at h
  · unfold OR.of at h
    split at h
    · rename_i rd' e hx
      cases h
      exact ⟨opX_ok hx, fun t ht => by cases ht⟩
    · cases h
  · exact opB_eff h
theorem opA0_call {σ : List AV} {o : Oper} {f : FuncId} {args : List AV} {rd : List Nat} (h : opA0 P σ o = .call f args rd) {res : AV} (hc : CallsTo P f args res) : AStep P o σ rd [] (callEff o res) := by
  unfold opA0 at h
  split at h
  · unfold OR.of at h; split at h <;> cases h
  · exact opB_call h hc
theorem opA0_fn {σ : List AV} {o : Oper} {F : List AV → AV → Prop} {args : List AV} {rd : List Nat} (h : opA0 P σ o = .fn (FnSpec P F) args rd) {res : AV} (hc : F args res) : AStep P o σ rd [] (callEff o res) := by
  unfold opA0 at h
  split at h
  · unfold OR.of at h; split at h <;> cases h
  · exact opB_fn h hc
theorem opA0_mk {σ : List AV} {o : Oper} {f : FuncId} {caps : List AV} {rd : List Nat} (h : opA0 P σ o = .mk f caps rd) {F : List AV → AV → Prop} (hcall : Callable P f) (hF : ∀ args res, F args res → CallsTo P f (args ++ caps) res) :
    AStep P o σ rd [] (callEff o (.one (.fnp (FnSpec P F)))) := by
  unfold opA0 at h
  split at h
  · unfold OR.of at h; split at h <;> cases h
  · exact opB_mk h hcall hF
theorem opA0_own {σ : List AV} {o : Oper} {f : FuncId} {l : List AV} {j s : Nat} {ov : OV} {rd : List Nat} (h : opA0 P σ o = .own f l j s ov rd) {new : OV} {res nw res' : AV} (hc : CallX P f l j ov new res)
    (hs : newSlot (gt σ s) ov new = some nw) (hr : newRes s ov res = some res') : AStep P o σ rd [] ((s, nw) :: callEff o res') := by
  unfold opA0 at h
  split at h
  · unfold OR.of at h; split at h <;> cases h
  · exact opB_own h hc hs hr

theorem opL_eff {σ : List AV} {o : Oper} {rd tk : List Nat} {eff : List (Nat × AV)} (h : opL P σ o = some (.eff rd tk eff)) : AStep P o σ rd tk eff ∧ (∀ t ∈ tk, ∀ i, (gt σ i).hasTok t → i ∈ rd) := by
  unfold opL at h
  split at h
  · rename_i T n ps ho
    split at h
    · simp only [Option.some.injEq] at h
      exact sound_lit (by rw [ho]) h
    · cases h
  · rename_i c ho
    obtain ⟨callee, args, argTypes⟩ := c
    simp only at h
    split at h
    · split at h
      · rename_i x y T U ha ht
        split at h
        · split at h
          · rename_i hTU
            subst hTU
            simp only [Option.some.injEq] at h
            have ea : args = #[x, y] := by cases args; simp at ha; rw [ha]
            have et : argTypes = #[T, T] := by cases argTypes; simp at ht; rw [ht]
            rw [ea, et] at ho
            unfold litB at h
            obtain ⟨ti, hti, hk⟩ := withTI_eq (by simp) h
            have := vofA_astep (fun av ha r hr => sound_appendN ho hti ha hr) hk
            obtain ⟨h1, h2⟩ := this
            exact ⟨h2, by rw [h1]; intro t ht; cases ht⟩
          · cases h
        · cases h
      · cases h
    · cases h
  · cases h
def effOr (r : OR) : Prop := r = .bad ∨ ∃ rd tk eff, r = .eff rd tk eff
theorem withTI_or {T : TypeId} {k : TI → OR} (h : ∀ ti, effOr (k ti)) : effOr (withTI P T k) := by
  unfold withTI; split
  · exact h _
  · exact .inl rfl
theorem elemTI_or {ti : TI} {k : TI → OR} (h : ∀ ti, effOr (k ti)) : effOr (elemTI P ti k) := by
  unfold elemTI; split
  · exact withTI_or h
  · exact .inl rfl
theorem litE_or {σ : List AV} {d : Nat} {rd : List Nat} {se : List (Nat × AV)} {b : Bool} {a : Option AV} : effOr (litE σ d rd se b a) := by
  unfold litE; split
  · split
    · exact .inr ⟨_, _, _, rfl⟩
    · exact .inl rfl
  · exact .inl rfl
theorem vofA_or {σ : List AV} {o : Oper} {rd : List Nat} {a : Option AV} : effOr (vofA σ o rd a) := by
  unfold vofA; split
  · unfold OR.of; split
    · exact .inr ⟨_, _, _, rfl⟩
    · exact .inl rfl
  · exact .inl rfl
theorem opL_or {σ : List AV} {o : Oper} {r : OR} (h : opL P σ o = some r) : effOr r := by
  unfold opL at h
  split at h
  · split at h
    · cases h
      unfold litA; split
      · exact withTI_or (fun _ => elemTI_or (fun _ => litE_or))
      · exact .inl rfl
    · cases h
  · split at h
    · split at h
      · split at h
        · split at h
          · cases h
            exact withTI_or (fun _ => vofA_or)
          · cases h
        · cases h
      · cases h
    · cases h
  · cases h
theorem opA_eff {lt : Bool} {σ : List AV} {o : Oper} {rd tk : List Nat} {eff : List (Nat × AV)} (h : opA P lt σ o = .eff rd tk eff) : AStep P o σ rd tk eff ∧ (∀ t ∈ tk, ∀ i, (gt σ i).hasTok t → i ∈ rd) := by
  unfold opA at h
  split at h
  · unfold selO at h
    split at h
    · rename_i r hr
      subst h
      exact opL_eff (by assumption)
    · exact opA0_eff h
  · exact opA0_eff h
theorem opA_not {lt : Bool} {σ : List AV} {o : Oper} {r : OR} (h : opA P lt σ o = r) (h1 : r ≠ .bad) (h2 : ∀ rd tk e, r ≠ .eff rd tk e) : opA0 P σ o = r := by
  unfold opA at h
  split at h
  · unfold selO at h
    split at h
    · subst h
      rcases opL_or (P := P) (σ := σ) (o := o) (by assumption) with h3 | ⟨rd, tk, e, h3⟩
      · exact absurd h3 h1
      · exact absurd h3 (h2 _ _ _)
    · exact h
  · exact h
inductive GR where
  | plain
  | when (d : Nat) (c b : Bool)
  | skip (d : Nat)
  | bad

def guardA (ops : List Oper) (σ : List AV) (o : Oper) : GR := match o.guard with
  | none => .plain
  | some (j, b) => match (ops[j]?).bind (·.dst) with
    | some d => match gt σ d with
      | .one (.raw (.bool c)) => .when d c b
      | .undef => .skip d
      | _ => .bad
    | none => .bad

/-- a step that the machine does not take: it stands so in the goal -/
def BadK (_o : Op) (_σ : List AV) : Prop := False
def BadC (_c : Operand) (_σ : List AV) : Prop := False

def CallK (P : Program) (f : FuncId) (args : List AV) (K : Bool → AV → Prop) : Prop := ∃ res, CallsTo P f args res ∧ K true res
def FnK (P : Program) (p : (Nat → Nat → Prop) → World → Value → Prop) (args : List AV) (K : Bool → AV → Prop) : Prop := ∃ F, p = FnSpec P F ∧ ∃ res, F args res ∧ K true res
def MkK (P : Program) (f : FuncId) (caps : List AV) (K : Bool → (List AV → AV → Prop) → Prop) : Prop := ∃ F, Callable P f ∧ (∀ args res, F args res → CallsTo P f (args ++ caps) res) ∧ K true F
/-- a call that changes an argument -/
def OwnK (P : Program) (f : FuncId) (l : List AV) (j : Nat) (ov : OV) (k : Bool → OV → AV → Prop) : Prop := ∃ new res, CallX P f l j ov new res ∧ k true new res
theorem ownk {f : FuncId} {l : List AV} {j : Nat} {ov new : OV} {res : AV} {k : Bool → OV → AV → Prop} (h : CallX P f l j ov new res) (hk : k true new res) : OwnK P f l j ov k := ⟨new, res, h, hk⟩
def ownF (o : Oper) (σ : List AV) (s : Nat) (rd : List Nat) (k : Bool → List Nat → List Nat → List (Nat × AV) → Prop) (b : Bool) (nw res : Option AV) : Prop := match nw, res with
  | some nw, some r => k b rd [] ((s, nw) :: callEff o r)
  | _, _ => BadK o.op σ
def GuardK (c b : Bool) (X Y : Bool → Prop) : Prop := (c = b → X true) ∧ (c = (!b) → Y true)
def CondK (c : Bool) (X Y : Bool → Prop) : Prop := (c = true → X true) ∧ (c = false → Y true)

theorem callk {f : FuncId} {args : List AV} {K : Bool → AV → Prop} {res : AV} (h : CallsTo P f args res) (hk : K true res) : CallK P f args K := ⟨res, h, hk⟩
theorem fnk {F : List AV → AV → Prop} {args : List AV} {K : Bool → AV → Prop} {res : AV} (h : F args res) (hk : K true res) : FnK P (FnSpec P F) args K := ⟨F, rfl, res, h, hk⟩
theorem mkk {f : FuncId} {caps : List AV} {K : Bool → (List AV → AV → Prop) → Prop} (F : List AV → AV → Prop) (hc : Callable P f) (h : ∀ args res, F args res → CallsTo P f (args ++ caps) res) (hk : K true F) : MkK P f caps K := ⟨F, hc, h, hk⟩
theorem guardk {c b : Bool} {X Y : Bool → Prop} (hx : c = b → X true) (hy : c = (!b) → Y true) : GuardK c b X Y := ⟨hx, hy⟩
theorem condk {c : Bool} {X Y : Bool → Prop} (hx : c = true → X true) (hy : c = false → Y true) : CondK c X Y := ⟨hx, hy⟩
theorem condd {p : Prop} [Decidable p] {X Y : Bool → Prop} (hx : p → X true) (hy : ¬ p → Y true) : CondK (decide p) X Y := ⟨fun h => hx (of_decide_eq_true h), fun h => hy (of_decide_eq_false h)⟩

/-- what happens with an operation's outcome -/
def doF (P : Program) (x : OR) (o : Oper) (σ : List AV) (b : Bool) (k : Bool → List Nat → List Nat → List (Nat × AV) → Prop) : Prop := match x with
  | .eff rd tk e => k b rd tk e
  | .call f args rd => CallK P f args (fun b res => k b rd [] (callEff o res))
  | .fn p args rd => FnK P p args (fun b res => k b rd [] (callEff o res))
  | .mk f caps rd => MkK P f caps (fun b F => k b rd [] (callEff o (.one (.fnp (FnSpec P F)))))
  | .own f l j s ov rd => OwnK P f l j ov (fun b new res => ownF o σ s rd k b (newSlot (gt σ s) ov new) (newRes s ov res))
  | .bad => BadK o.op σ

def skipF (σ : List AV) (o : Oper) (d : Nat) (b : Bool) (k : Bool → List Nat → List Nat → List (Nat × AV) → Prop) : Prop := match o.dst with
  | some e => if nh σ e then k b [d, e] [] [(e, .undef)] else BadK o.op σ
  | none => BadK o.op σ

/-- a guard's slot is read too; behind a guard no growing slice is written -/
def onD (d : Nat) (o : Oper) (σ : List AV) (k : Bool → List Nat → List Nat → List (Nat × AV) → Prop) (b : Bool) (rd tk : List Nat) (e : List (Nat × AV)) : Prop := match tk with
  | [] => k b (d :: rd) [] e
  | _ => BadK o.op σ

def gdF (P : Program) (lt : Bool) (g : GR) (o : Oper) (σ : List AV) (b : Bool) (k : Bool → List Nat → List Nat → List (Nat × AV) → Prop) : Prop := match g with
  | .plain => doF P (opA P lt σ o) o σ b k
  | .when d c b' => GuardK c b' (fun b => doF P (opA P lt σ o) o σ b (onD d o σ k)) (fun b => skipF σ o d b k)
  | .skip d => skipF σ o d b k
  | .bad => BadK o.op σ

theorem guardA_spec {ops : Array Oper} {σ : List AV} {o : Oper} :
    (guardA ops.toList σ o = .plain → o.guard = none) ∧
    (∀ d c b, guardA ops.toList σ o = .when d c b → ∃ j, o.guard = some (j, b) ∧ (ops[j]?).bind (·.dst) = some d ∧ gt σ d = .one (.raw (.bool c))) ∧
    (∀ d, guardA ops.toList σ o = .skip d → ∃ j b, o.guard = some (j, b) ∧ (ops[j]?).bind (·.dst) = some d ∧ gt σ d = .undef) := by
  unfold guardA
  split
  · rename_i hg; exact ⟨fun _ => hg, fun d c b h => (by cases h), fun d h => (by cases h)⟩
  · rename_i j b hg
    simp only [Array.getElem?_toList]
    split
    · rename_i d hd
      split
      · rename_i c hc; exact ⟨fun h => (by cases h), fun d' c' b' h => by cases h; exact ⟨j, hg, hd, hc⟩, fun d h => (by cases h)⟩
      · rename_i hc; exact ⟨fun h => (by cases h), fun d' c' b' h => (by cases h), fun d' h => by cases h; exact ⟨j, b, hg, hd, hc⟩⟩
      · exact ⟨fun h => (by cases h), fun d' c' b' h => (by cases h), fun d h => (by cases h)⟩
    · exact ⟨fun h => (by cases h), fun d' c' b' h => (by cases h), fun d h => (by cases h)⟩

theorem doF_plain {lt : Bool} {o : Oper} {σ : List AV} {b : Bool} {k : Bool → List Nat → List Nat → List (Nat × AV) → Prop} (h : doF P (opA P lt σ o) o σ b k) :
    ∃ b' rd tk e, AStep P o σ rd tk e ∧ (∀ t ∈ tk, ∀ i, (gt σ i).hasTok t → i ∈ rd) ∧ k b' rd tk e := by
  unfold doF at h
  split at h
  · rename_i rd tk e he; exact ⟨_, _, _, _, (opA_eff he).1, (opA_eff he).2, h⟩
  · rename_i he; obtain ⟨res, h1, h2⟩ := h; exact ⟨_, _, _, _, opA0_call (opA_not he (by simp) (by simp)) h1, by simp, h2⟩
  · rename_i he; obtain ⟨F, rfl, res, h1, h2⟩ := h; exact ⟨_, _, _, _, opA0_fn (opA_not he (by simp) (by simp)) h1, by simp, h2⟩
  · rename_i he; obtain ⟨F, hc, hF, h2⟩ := h; exact ⟨_, _, _, _, opA0_mk (opA_not he (by simp) (by simp)) hc hF, by simp, h2⟩
  · rename_i he
    obtain ⟨new, res, h1, h2⟩ := h
    unfold ownF at h2
    split at h2
    · rename_i hs hr; exact ⟨_, _, _, _, opA0_own (opA_not he (by simp) (by simp)) h1 hs hr, by simp, h2⟩
    · exact h2.elim
  · exact h.elim

theorem skipF_spec {σ : List AV} {o : Oper} {d : Nat} {b : Bool} {k : Bool → List Nat → List Nat → List (Nat × AV) → Prop} (h : skipF σ o d b k) : ∃ e, o.dst = some e ∧ nh σ e = true ∧ k b [d, e] [] [(e, .undef)] := by
  unfold skipF at h
  split at h
  · rename_i e he
    split at h
    · rename_i hn; exact ⟨e, he, hn, h⟩
    · exact h.elim
  · exact h.elim

theorem gdF_step {lt : Bool} {ops : Array Oper} {σ : List AV} {o : Oper} {b : Bool} {k : Bool → List Nat → List Nat → List (Nat × AV) → Prop} (h : gdF P lt (guardA ops.toList σ o) o σ b k) :
    ∃ b' rd tk e, GStep P ops o σ rd tk e ∧ k b' rd tk e := by
  unfold gdF at h
  split at h
  · rename_i hg
    obtain ⟨b', rd, tk, e, h1, h2, h3⟩ := doF_plain h
    exact ⟨b', rd, tk, e, GStep.plain (guardA_spec.1 hg) h2 h1, h3⟩
  · rename_i d c b' hg
    obtain ⟨j, h1, h2, h3⟩ := guardA_spec.2.1 d c b' hg
    obtain ⟨hx, hy⟩ := h
    by_cases hcb : c = b'
    · subst hcb
      obtain ⟨b'', rd, tk, e, ha, hb, hk⟩ := doF_plain (hx rfl)
      unfold onD at hk
      split at hk
      · exact ⟨_, _, _, _, GStep.taken h1 h2 h3 ha, hk⟩
      · exact hk.elim
    · have hn : c = !b' := by cases c <;> cases b' <;> simp_all
      obtain ⟨e, he, hnh, hk⟩ := skipF_spec (hy hn)
      exact ⟨_, _, _, _, GStep.skipped h1 h2 (.inl (by rw [h3, hn])) he hnh, hk⟩
  · rename_i d hg
    obtain ⟨j, b', h1, h2, h3⟩ := guardA_spec.2.2 d hg
    obtain ⟨e, he, hnh, hk⟩ := skipF_spec h
    exact ⟨_, _, _, _, GStep.skipped h1 h2 (.inr h3) he hnh, hk⟩
  · exact h.elim

/-- The walk through a region in the text's order. The Bool says nothing: simp goes on where it is true, and stands still where it is not. -/
def RunF (P : Program) (lt : Bool) (ops : List Oper) : Bool → List Oper → List AV → (Bool → List AV → Prop) → Prop
  | b, [], σ, K => K b σ
  | b, o :: r, σ, K => gdF P lt (guardA ops σ o) o σ b (fun b _ _ e => RunF P lt ops b r (app e σ) K)

theorem RunF.run {lt : Bool} {ops : Array Oper} : ∀ (l : List Oper) (b : Bool) (σ : List AV) (K : Bool → List AV → Prop), RunF P lt ops.toList b l σ K → Run P ops l σ (fun σ => ∃ b, K b σ)
  | [], b, _, _, h => ⟨b, h⟩
  | o :: r, b, σ, K, h => by
    unfold RunF at h
    obtain ⟨b', rd, tk, e, h1, h2⟩ := gdF_step h
    exact ⟨_, _, _, h1, RunF.run r b' _ K h2⟩

def IndK (ops : List Oper) (acc : List SR) (σ0 : List AV) (k : Bool → Prop) : Prop := indep ops acc σ0 = true ∧ k true
theorem indk {ops : List Oper} {acc : List SR} {σ0 : List AV} {k : Bool → Prop} (h : indep ops acc σ0 = true) (hk : k true) : IndK ops acc σ0 k := ⟨h, hk⟩

/-- the same for a region whose order is drawn: with the records -/
def RunG (P : Program) (lt : Bool) (ops : List Oper) (σ0 : List AV) : Bool → List Oper → List SR → List AV → (Bool → List AV → Prop) → Prop
  | _, [], acc, σ, K => IndK ops acc σ0 (fun b => K b σ)
  | b, o :: r, acc, σ, K => gdF P lt (guardA ops σ o) o σ b (fun b rd tk e => RunG P lt ops σ0 b r (acc ++ [⟨rd, tk, e⟩]) (app e σ) K)

theorem RunG.runD {lt : Bool} {ops : Array Oper} {σ0 : List AV} : ∀ (l : List Oper) (b : Bool) (acc : List SR) (σ : List AV) (K : Bool → List AV → Prop), RunG P lt ops.toList σ0 b l acc σ K → RunD P ops ops.toList σ0 l acc σ (fun σ => ∃ b, K b σ)
  | [], b, _, _, _, h => ⟨h.1, true, h.2⟩
  | o :: r, b, acc, σ, K, h => by
    unfold RunG at h
    obtain ⟨b', rd, tk, e, h1, h2⟩ := gdF_step h
    exact ⟨_, _, _, h1, RunG.runD r b' _ _ K h2⟩

/-! ### code -/
def thenC (next : Bool → List AV → Prop) (Q : Exit → Bool → List AV → Prop) : Exit → Bool → List AV → Prop
  | .normal => next
  | .exit id => Q (.exit id)
  | .goto l => Q (.goto l)
  | .ret => Q .ret
  | .panic c => Q (.panic c)
  | .outgrown => Q .outgrown

def inBlockC (id : Nat) (Q : Exit → Bool → List AV → Prop) : Exit → Bool → List AV → Prop
  | .normal => Q .normal
  | .exit j => if j = id then Q .normal else Q (.exit j)
  | .goto l => Q (.goto l)
  | .ret => Q .ret
  | .panic c => Q (.panic c)
  | .outgrown => Q .outgrown

def outQ (Q : Exit → Bool → List AV → Prop) : Exit → List AV → Prop := fun e σ => ∃ b, Q e b σ

def LoopK (P : Program) (_G : List (Nat × List Gh)) (c : Code) (Q : Exit → Bool → List AV → Prop) (σ : List AV) : Prop := ACode P (.loop c) (outQ Q) σ
def DrawK (P : Program) (k : Bool → Prop) : Prop := P.follows .mixedOrders = true ∧ k true

def condF (_ : Program) (c : Operand) (σ : List AV) (X Y : Bool → Prop) : AV → Prop
  | .one (.raw (.bool p)) => CondK p X Y
  | _ => BadC c σ

/-- ghost steps that are to be taken at the head of a region -/
def ghOf : List (Nat × List Gh) → Nat → List Gh
  | [], _ => []
  | (i, l) :: r, j => if i = j then l else ghOf r j

/-- the first region of a code, where it is plain -/
def firstR : Code → Option Nat
  | .region id _ _ => some id
  | .seq x _ => firstR x
  | .block _ x => firstR x
  | .loop x => firstR x
  | _ => none
def hasJoin : List Gh → Bool
  | [] => false
  | .join :: _ => true
  | .frz _ :: r => hasJoin r
  | .any _ :: r => hasJoin r
  | .mv _ _ :: r => hasJoin r
  | .lit :: r => hasJoin r
/-- are this region's literal slices to be slices that may grow? -/
def hasLit : List Gh → Bool
  | [] => false
  | .lit :: _ => true
  | .frz _ :: r => hasLit r
  | .any _ :: r => hasLit r
  | .mv _ _ :: r => hasLit r
  | .join :: r => hasLit r
/-- is the place before this code one where ways meet? -/
def joinAt : List (Nat × List Gh) → Code → Bool
  | [], _ => false
  | g :: G, y => match firstR y with
    | some id => hasJoin (ghOf (g :: G) id)
    | none => false
def JoinK (P : Program) (_G : List (Nat × List Gh)) (x y : Code) (Q : Exit → Bool → List AV → Prop) (σ : List AV) : Prop := ACode P (.seq x y) (outQ Q) σ
def seqF (c : Bool) (A B : Bool → Prop) : Prop := match c with
  | true => A true
  | false => B true
def RC (P : Program) (G : List (Nat × List Gh)) : Code → Bool → (Exit → Bool → List AV → Prop) → List AV → Prop
  | .skip, b, Q, σ => Q .normal b σ
  | .region id ops false, b, Q, σ => RunF P (hasLit (ghOf G id)) ops.toList b ops.toList (ghL (ghOf G id) σ) (Q .normal)
  | .region id ops true, b, Q, σ => DrawK P (fun _ => RunG P (hasLit (ghOf G id)) ops.toList (ghL (ghOf G id) σ) b ops.toList [] (ghL (ghOf G id) σ) (Q .normal))
  | .seq x y, b, Q, σ => seqF (joinAt G y) (fun _ => JoinK P G x y Q σ) (fun _ => RC P G x b (thenC (fun b σ => RC P G y b Q σ) Q) σ)
  | .cond c x y, _, Q, σ => condF P c σ (fun b => RC P G x b Q σ) (fun b => RC P G y b Q σ) (opd σ c)
  | .block id x, b, Q, σ => RC P G x b (inBlockC id Q) σ
  | .loop x, _, Q, σ => LoopK P G x Q σ
  | .exit id, b, Q, σ => Q (.exit id) b σ
  | .ret, b, Q, σ => Q .ret b σ
  | _, _, _, _ => False
end Go.Slot

/- The slot machine, part Q: code as a computation; its soundness; the rules by which simp runs it. -/
namespace Go.Slot
open Go Go.RowKit
variable {P : Program} {G : List (Nat × List Gh)}

theorem RC.sound : ∀ (c : Code) (b : Bool) (Q : Exit → Bool → List AV → Prop) (σ : List AV), RC P G c b Q σ → ACode P c (outQ Q) σ := by
  intro c
  induction c with
  | skip => intro b Q σ h; exact acode_skip ⟨b, h⟩
  | region id ops dr =>
    intro b Q σ h
    cases dr with
    | false => exact ACode.le (StLe.ghL _ _) (acode_region (RunF.run _ b _ _ h))
    | true => exact ACode.le (StLe.ghL _ _) (acode_regionD h.1 (RunG.runD _ b [] _ _ h.2))
  | seq x y ihx ihy =>
    intro b Q σ h
    have h : seqF (joinAt G y) (fun _ => JoinK P G x y Q σ) (fun _ => RC P G x b (thenC (fun b σ => RC P G y b Q σ) Q) σ) := h
    cases hj : joinAt G y with
    | true => rw [hj] at h; exact h
    | false =>
    rw [hj] at h
    have h : RC P G x b (thenC (fun b σ => RC P G y b Q σ) Q) σ := h
    refine acode_seq ((ihx b _ σ h).mono ?_)
    intro e σ' ⟨b', h'⟩
    cases e with
    | normal => exact ihy b' Q σ' h'
    | _ => exact ⟨b', h'⟩
  | cond c x y ihx ihy =>
    intro b Q σ h
    unfold RC condF at h
    split at h
    · rename_i p hp
      exact acode_cond hp (fun hb => ihx _ _ _ (h.1 hb)) (fun hb => ihy _ _ _ (h.2 hb))
    · exact h.elim
  | block id x ih =>
    intro b Q σ h
    refine acode_block ((ih b _ σ h).mono ?_)
    intro e σ' ⟨b', h'⟩
    cases e with
    | exit j =>
      show inBlockA id (outQ Q) (.exit j) σ'
      unfold inBlockC at h'
      unfold inBlockA
      simp only at h' ⊢
      split at h'
      · rename_i hj; simp only [hj]; exact ⟨b', h'⟩
      · rename_i hj; simp only [hj]; exact ⟨b', h'⟩
    | _ => exact ⟨b', h'⟩
  | loop x ih => intro b Q σ h; exact h
  | exit id => intro b Q σ h; exact acode_exit ⟨b, h⟩
  | ret => intro b Q σ h; exact acode_ret ⟨b, h⟩
  | _ => intro b Q σ h; exact h.elim

/-- what a function's code comes to at its end -/
def retC (P : Program) (rs : List ResultVar) (res : AV) : Exit → Bool → List AV → Prop
  | .ret, _, σ | .normal, _, σ => ∃ av, resAV P σ rs = some av ∧ RLe av res
  | _, _, _ => False

theorem CallsTo.run (G : List (Nat × List Gh)) {f : FuncId} {fn : Func} {c : Code} {args : List AV} {res : AV} (hf : P.funcs[f]? = some fn) (hb : fn.body = some c) (hname : (fn.name == "runtime.NumGoroutine") = false)
    (h : RC P G c true (retC P fn.results.toList res) (packS (args ++ List.replicate (fn.ntmps - args.length) .undef))) : CallsTo P f args res := by
  rw [packS_eq] at h
  refine CallsTo.of hf hb hname ((RC.sound c true _ _ h).mono ?_)
  intro e σ ⟨b, h⟩
  cases e with
  | normal => exact h
  | ret => exact h
  | _ => exact h.elim

/-- of a function that changes an argument -/
def retCX (P : Program) (rs : List ResultVar) (j : Nat) (out res : AV) : Exit → Bool → List AV → Prop
  | .ret, _, σ | .normal, _, σ => retX P rs j out res .ret σ
  | _, _, _ => False

theorem CallsX.run (G : List (Nat × List Gh)) {f : FuncId} {fn : Func} {c : Code} {args : List AV} {j : Nat} {out res : AV} (hf : P.funcs[f]? = some fn) (hb : fn.body = some c) (hname : (fn.name == "runtime.NumGoroutine") = false)
    (hnt : ∀ t, ¬ out.hasTok t) (h : RC P G c true (retCX P fn.results.toList j out res) (packS (args ++ List.replicate (fn.ntmps - args.length) .undef))) : CallsX P f args j out res := by
  rw [packS_eq] at h
  refine CallsX.of hf hb hname hnt ((RC.sound c true _ _ h).mono ?_)
  intro e σ ⟨b, h⟩
  cases e with
  | normal => exact h
  | ret => exact h
  | _ => exact h.elim

theorem CallsTo.le {f : FuncId} {args : List AV} {res res' : AV} (h : CallsTo P f args res) (hle : RLe res res') : CallsTo P f args res' :=
  ⟨h.1, fun M w vs hM hr => (h.2 M w vs hM hr).mono (fun _ _ ⟨v, h1, h2, h3, h4⟩ => ⟨v, h1, h2, h3.le hle, fun hh => h4 (hle.holder hh)⟩)⟩

/-- what simp does not look into -/
abbrev U {α : Type} (_ : α) : Type := Unit
def hide {α : Type} (f : α) (_ : U f) : α := f
theorem hide_1 {f : Bool → Prop} {u : U f} {b : Bool} : hide f u b = f b := _root_.id rfl
theorem hide_2 {f : Bool → List AV → Prop} {u : U f} {b : Bool} {σ : List AV} : hide f u b σ = f b σ := _root_.id rfl
theorem hide_4 {f : Bool → List Nat → List Nat → List (Nat × AV) → Prop} {u : U f} {b : Bool} {rd tk : List Nat} {e : List (Nat × AV)} : hide f u b rd tk e = f b rd tk e := _root_.id rfl
theorem hide_r {f : Bool → AV → Prop} {u : U f} {b : Bool} {r : AV} : hide f u b r = f b r := _root_.id rfl
theorem hide_o {f : Bool → OV → AV → Prop} {u : U f} {b : Bool} {n : OV} {r : AV} : hide f u b n r = f b n r := _root_.id rfl
theorem hide_f {f : Bool → (List AV → AV → Prop) → Prop} {u : U f} {b : Bool} {F : List AV → AV → Prop} : hide f u b F = f b F := _root_.id rfl
/-- a state that is to be brought to its plain form -/
def nrm (σ : List AV) : List AV := σ
theorem nrm_nil : nrm [] = [] := _root_.id rfl
theorem nrm_cons {a : AV} {σ : List AV} : nrm (a :: σ) = a :: σ := _root_.id rfl
theorem nrm_ch {a0 a1 a2 a3 a4 a5 a6 a7 a8 a9 a10 a11 a12 a13 a14 a15 : AV} {r : List AV} : nrm (ch a0 a1 a2 a3 a4 a5 a6 a7 a8 a9 a10 a11 a12 a13 a14 a15 r) = ch a0 a1 a2 a3 a4 a5 a6 a7 a8 a9 a10 a11 a12 a13 a14 a15 r := _root_.id rfl
def nrmR (l : List SR) : List SR := l
theorem nrmR_nil : nrmR [] = [] := _root_.id rfl
theorem nrmR_cons {a : SR} {l : List SR} : nrmR (a :: l) = a :: l := _root_.id rfl
/-- a step that has a proof -/
def tick {α : Type} (x : α) : α := x
theorem tick_true : tick true = true := _root_.id rfl
theorem tick_false : tick false = false := _root_.id rfl
theorem tick_plain : tick GR.plain = GR.plain := _root_.id rfl
theorem tick_when {d : Nat} {c b : Bool} : tick (GR.when d c b) = GR.when d c b := _root_.id rfl
theorem tick_skip {d : Nat} : tick (GR.skip d) = GR.skip d := _root_.id rfl
theorem tick_eff {rd tk : List Nat} {e : List (Nat × AV)} : tick (OR.eff rd tk e) = OR.eff rd tk e := _root_.id rfl
theorem tick_call {f : FuncId} {l : List AV} {rd : List Nat} : tick (OR.call f l rd) = OR.call f l rd := _root_.id rfl
theorem tick_fn {p : (Nat → Nat → Prop) → World → Value → Prop} {l : List AV} {rd : List Nat} : tick (OR.fn p l rd) = OR.fn p l rd := _root_.id rfl
theorem tick_mk {f : FuncId} {l : List AV} {rd : List Nat} : tick (OR.mk f l rd) = OR.mk f l rd := _root_.id rfl
theorem tick_own {f : FuncId} {l : List AV} {j s : Nat} {ov : OV} {rd : List Nat} : tick (OR.own f l j s ov rd) = OR.own f l j s ov rd := _root_.id rfl
theorem tick_bad : tick OR.bad = OR.bad := _root_.id rfl
theorem tick_one {c : Cell} : tick (AV.one c) = AV.one c := _root_.id rfl

/-- A LOOP. The states at its head are those of the family app (ch x) σ: ch names the slots that it changes. -/
theorem loopk {α : Type} {c : Code} {Q : Exit → Bool → List AV → Prop} {σ : List AV} (ch : α → List (Nat × AV)) (pre : α → Prop) (μ : α → Nat) (x0 : α) (h0 : pre x0) (hle : StLe σ (app (ch x0) σ))
    (round : ∀ x, pre x → RC P G c true (thenC (hide (fun _ σ' => ∃ y, pre y ∧ μ y < μ x ∧ StLe σ' (app (ch y) σ)) ()) Q) (app (ch x) σ)) : LoopK P G c Q σ :=
  acode_loop (fun x => app (ch x) σ) pre μ x0 h0 hle (fun x hx => (RC.sound c true _ _ (round x hx)).mono (fun e σ' ⟨b, h⟩ => by
    cases e with
    | normal => exact h
    | _ => exact ⟨b, h⟩))

/-- a loop; only the slots of keep are known at its head, besides those of ch -/
theorem loopo {α : Type} {c : Code} {Q : Exit → Bool → List AV → Prop} {σ : List AV} (keep : List Nat) (ch : α → List (Nat × AV)) (pre : α → Prop) (μ : α → Nat) (x0 : α) (h0 : pre x0) (hle : StLe σ (app (ch x0) (onlyS keep σ)))
    (round : ∀ x, pre x → RC P G c true (thenC (hide (fun _ σ' => ∃ y, pre y ∧ μ y < μ x ∧ StLe σ' (app (ch y) (onlyS keep σ))) ()) Q) (packS (app (ch x) (onlyS keep σ)))) : LoopK P G c Q σ :=
  acode_loop (fun x => app (ch x) (onlyS keep σ)) pre μ x0 h0 hle (fun x hx => (RC.sound c true _ _ (packS_eq (app (ch x) (onlyS keep σ)) ▸ round x hx)).mono (fun e σ' ⟨b, h⟩ => by
    cases e with
    | normal => exact h
    | _ => exact ⟨b, h⟩))
/-- where ways meet: the states are those of a family -/
theorem joino {α : Type} {x y : Code} {Q : Exit → Bool → List AV → Prop} {σ : List AV} (keep : List Nat) (ch : α → List (Nat × AV)) (pre : α → Prop)
    (hx : RC P G x true (thenC (hide (fun _ σ' => ∃ a, pre a ∧ StLe σ' (app (ch a) (onlyS keep σ))) ()) Q) σ)
    (hy : ∀ a, pre a → RC P G y true Q (packS (app (ch a) (onlyS keep σ)))) : JoinK P G x y Q σ :=
  acode_seq ((RC.sound x true _ _ hx).mono (fun e σ' ⟨b, h⟩ => by
    cases e with
    | normal =>
      obtain ⟨a, h1, h2⟩ := h
      exact ACode.le h2 (RC.sound y true _ _ (packS_eq (app (ch a) (onlyS keep σ)) ▸ hy a h1))
    | _ => exact ⟨b, h⟩))

/-! ### the rules -/
def selE (c : Bool) (x y : Bool → List AV → Prop) : Bool → List AV → Prop := match c with
  | true => x
  | false => y
theorem rc_skip {Q : Exit → Bool → List AV → Prop} {σ : List AV} : RC P G .skip true Q σ = Q .normal true σ := _root_.id rfl
/-- simp learns whether literal slices are to be slices that may grow, and goes on -/
def ltF (c : Bool) (A : Bool → Prop) : Prop := A c
theorem ltF_t {A : Bool → Prop} : ltF true A = A true := _root_.id rfl
theorem ltF_f {A : Bool → Prop} : ltF false A = A false := _root_.id rfl
theorem ltF_congr {c c' : Bool} {A : Bool → Prop} (h : c = c') : ltF c A = ltF c' A := by rw [h]
theorem rc_region {id : Nat} {l : List Oper} {Q : Exit → Bool → List AV → Prop} {σ : List AV} : RC P G (.region id l.toArray false) true Q σ = ltF (tick (hasLit (ghOf G id))) (hide (fun lt => RunF P lt l true l (nrm (ghL (ghOf G id) σ)) (Q .normal)) ()) := _root_.id rfl
theorem rc_regionD {id : Nat} {l : List Oper} {Q : Exit → Bool → List AV → Prop} {σ : List AV} : RC P G (.region id l.toArray true) true Q σ = DrawK P (hide (fun _ => ltF (tick (hasLit (ghOf G id))) (hide (fun lt => RunG P lt l (ghL (ghOf G id) σ) true l (nrmR []) (nrm (ghL (ghOf G id) σ)) (Q .normal)) ())) ()) := _root_.id rfl
theorem rc_seq {x y : Code} {Q : Exit → Bool → List AV → Prop} {σ : List AV} : RC P G (.seq x y) true Q σ = seqF (tick (joinAt G y)) (hide (fun _ => JoinK P G x y Q σ) ()) (hide (fun _ => RC P G x true (thenC (hide (fun b σ => RC P G y b Q σ) ()) Q) σ) ()) := _root_.id rfl
theorem seqF_t {A B : Bool → Prop} : seqF true A B = A true := _root_.id rfl
theorem seqF_f {A B : Bool → Prop} : seqF false A B = B true := _root_.id rfl
theorem seqF_congr {c c' : Bool} {A B : Bool → Prop} (h : c = c') : seqF c A B = seqF c' A B := by rw [h]
theorem joinK_congr {x y : Code} {Q : Exit → Bool → List AV → Prop} {σ σ' : List AV} (h : σ = σ') : JoinK P G x y Q σ = JoinK P G x y Q σ' := by rw [h]
theorem rc_cond {c : Operand} {x y : Code} {Q : Exit → Bool → List AV → Prop} {σ : List AV} : RC P G (.cond c x y) true Q σ = condF P c σ (hide (fun b => RC P G x b Q σ) ()) (hide (fun b => RC P G y b Q σ) ()) (tick (opd σ c)) := _root_.id rfl
theorem rc_block {id : Nat} {x : Code} {Q : Exit → Bool → List AV → Prop} {σ : List AV} : RC P G (.block id x) true Q σ = RC P G x true (inBlockC id Q) σ := _root_.id rfl
theorem rc_loop {x : Code} {Q : Exit → Bool → List AV → Prop} {σ : List AV} : RC P G (.loop x) true Q σ = LoopK P G x Q σ := _root_.id rfl
theorem rc_exit {id : Nat} {Q : Exit → Bool → List AV → Prop} {σ : List AV} : RC P G (.exit id) true Q σ = Q (.exit id) true σ := _root_.id rfl
theorem rc_ret {Q : Exit → Bool → List AV → Prop} {σ : List AV} : RC P G .ret true Q σ = Q .ret true σ := _root_.id rfl
theorem runF_nil {lt : Bool} {ops : List Oper} {σ : List AV} {K : Bool → List AV → Prop} : RunF P lt ops true [] σ K = K true σ := _root_.id rfl
theorem runF_cons {lt : Bool} {ops : List Oper} {o : Oper} {r : List Oper} {σ : List AV} {K : Bool → List AV → Prop} : RunF P lt ops true (o :: r) σ K = gdF P lt (tick (guardA ops σ o)) o σ true (hide (fun b _ _ e => RunF P lt ops b r (nrm (app e σ)) K) ()) := _root_.id rfl
theorem runG_nil {lt : Bool} {ops : List Oper} {σ0 : List AV} {acc : List SR} {σ : List AV} {K : Bool → List AV → Prop} : RunG P lt ops σ0 true [] acc σ K = IndK ops acc σ0 (hide (fun b => K b σ) ()) := _root_.id rfl
theorem runG_cons {lt : Bool} {ops : List Oper} {σ0 : List AV} {o : Oper} {r : List Oper} {acc : List SR} {σ : List AV} {K : Bool → List AV → Prop} : RunG P lt ops σ0 true (o :: r) acc σ K = gdF P lt (tick (guardA ops σ o)) o σ true (hide (fun b rd tk e => RunG P lt ops σ0 b r (nrmR (acc ++ [⟨rd, tk, e⟩])) (nrm (app e σ)) K) ()) := _root_.id rfl
section
variable {next : Bool → List AV → Prop} {Q : Exit → Bool → List AV → Prop}
theorem thenC_normal : thenC next Q .normal = next := _root_.id rfl
theorem thenC_exit {id : Nat} : thenC next Q (.exit id) = Q (.exit id) := _root_.id rfl
theorem thenC_ret : thenC next Q .ret = Q .ret := _root_.id rfl
theorem inBlockC_normal {id : Nat} : inBlockC id Q .normal = Q .normal := _root_.id rfl
theorem inBlockC_exit {id j : Nat} : inBlockC id Q (.exit j) = selE (j == id) (Q .normal) (Q (.exit j)) := by
  have h : inBlockC id Q (.exit j) = if j = id then Q .normal else Q (.exit j) := rfl
  rw [h]
  unfold selE
  by_cases e : j = id
  · rw [if_pos e, show (j == id) = true from by simp [e]]
  · rw [if_neg e, show (j == id) = false from by simp [e]]
theorem selE_t {x y : Bool → List AV → Prop} : selE true x y = x := rfl
theorem selE_f {x y : Bool → List AV → Prop} : selE false x y = y := rfl
theorem selE_congr {c c' : Bool} {x y : Bool → List AV → Prop} (h : c = c') : selE c x y = selE c' x y := by rw [h]
theorem inBlockC_ret {id : Nat} : inBlockC id Q .ret = Q .ret := _root_.id rfl
end
section
variable {o : Oper} {σ : List AV} {b : Bool} {k : Bool → List Nat → List Nat → List (Nat × AV) → Prop} {rd tk : List Nat} {e : List (Nat × AV)} {f : FuncId} {args : List AV}
theorem doF_eff : doF P (.eff rd tk e) o σ b k = k b rd tk e := _root_.id rfl
theorem doF_call : doF P (.call f args rd) o σ b k = CallK P f args (hide (fun b res => k b rd [] (callEff o res)) ()) := _root_.id rfl
theorem doF_fn {p : (Nat → Nat → Prop) → World → Value → Prop} : doF P (.fn p args rd) o σ b k = FnK P p args (hide (fun b res => k b rd [] (callEff o res)) ()) := _root_.id rfl
theorem doF_mk : doF P (.mk f args rd) o σ b k = MkK P f args (hide (fun b F => k b rd [] (callEff o (.one (.fnp (FnSpec P F))))) ()) := _root_.id rfl
theorem doF_own {l : List AV} {j s : Nat} {ov : OV} : doF P (.own f l j s ov rd) o σ b k = OwnK P f l j ov (hide (fun b new res => ownF o σ s rd k b (newSlot (gt σ s) ov new) (newRes s ov res)) ()) := _root_.id rfl
theorem ownF_some {s : Nat} {nw r : AV} : ownF o σ s rd k b (some nw) (some r) = k b rd [] ((s, nw) :: callEff o r) := _root_.id rfl
theorem doF_bad : doF P .bad o σ b k = BadK o.op σ := _root_.id rfl
theorem onD_nil {d : Nat} : onD d o σ k b rd [] e = k b (d :: rd) [] e := _root_.id rfl
theorem gdF_plain {lt : Bool} : gdF P lt .plain o σ b k = doF P (tick (opA P lt σ o)) o σ b k := _root_.id rfl
theorem gdF_when {lt : Bool} {d : Nat} {c b' : Bool} : gdF P lt (.when d c b') o σ b k = GuardK c b' (hide (fun b => doF P (tick (opA P lt σ o)) o σ b (hide (fun b rd tk e => onD d o σ k b rd tk e) ())) ()) (hide (fun b => skipF σ o d b k) ()) := _root_.id rfl
theorem gdF_skip {lt : Bool} {d : Nat} : gdF P lt (.skip d) o σ b k = skipF σ o d b k := _root_.id rfl
end
theorem guardK_tt {X Y : Bool → Prop} : GuardK true true X Y = X true := by simp [GuardK]
theorem guardK_ff {X Y : Bool → Prop} : GuardK false false X Y = X true := by simp [GuardK]
theorem guardK_tf {X Y : Bool → Prop} : GuardK true false X Y = Y true := by simp [GuardK]
theorem guardK_ft {X Y : Bool → Prop} : GuardK false true X Y = Y true := by simp [GuardK]
theorem condK_t {X Y : Bool → Prop} : CondK true X Y = X true := by simp [CondK]
theorem condK_f {X Y : Bool → Prop} : CondK false X Y = Y true := by simp [CondK]
theorem condF_bool {c : Operand} {σ : List AV} {X Y : Bool → Prop} {p : Bool} : condF P c σ X Y (.one (.raw (.bool p))) = CondK p X Y := _root_.id rfl
theorem retC_ret {rs : List ResultVar} {res : AV} {b : Bool} {σ : List AV} : retC P rs res .ret b σ = ∃ av, resAV P σ rs = some av ∧ RLe av res := _root_.id rfl
theorem retCX_ret {rs : List ResultVar} {j : Nat} {out res : AV} {b : Bool} {σ : List AV} : retCX P rs j out res .ret b σ = retX P rs j out res .ret σ := _root_.id rfl
theorem retCX_normal {rs : List ResultVar} {j : Nat} {out res : AV} {b : Bool} {σ : List AV} : retCX P rs j out res .normal b σ = retX P rs j out res .ret σ := _root_.id rfl
theorem retC_normal {rs : List ResultVar} {res : AV} {b : Bool} {σ : List AV} : retC P rs res .normal b σ = ∃ av, resAV P σ rs = some av ∧ RLe av res := _root_.id rfl

/-! ### where simp looks -/
section
variable {o o' : Oper} {σ σ' : List AV} {b : Bool} {k : Bool → List Nat → List Nat → List (Nat × AV) → Prop}
theorem doF_congr {x x' : OR} (h : x = x') : doF P x o σ b k = doF P x' o σ b k := by rw [h]
theorem gdF_congr {lt : Bool} {g g' : GR} (h : g = g') : gdF P lt g o σ b k = gdF P lt g' o σ b k := by rw [h]
theorem guardK_congr {c c' b : Bool} {X Y : Bool → Prop} (h : c = c') : GuardK c b X Y = GuardK c' b X Y := by rw [h]
theorem condK_congr {c c' : Bool} {X Y : Bool → Prop} (h : c = c') : CondK c X Y = CondK c' X Y := by rw [h]
theorem condF_congr {c : Operand} {X Y : Bool → Prop} {v v' : AV} (h : v = v') : condF P c σ X Y v = condF P c σ X Y v' := by rw [h]
theorem callK_congr {f : FuncId} {args args' : List AV} {K : Bool → AV → Prop} (h : args = args') : CallK P f args K = CallK P f args' K := by rw [h]
theorem fnK_congr {p : (Nat → Nat → Prop) → World → Value → Prop} {args args' : List AV} {K : Bool → AV → Prop} (h : args = args') : FnK P p args K = FnK P p args' K := by rw [h]
theorem ownK_congr {f : FuncId} {l l' : List AV} {j : Nat} {ov ov' : OV} {k : Bool → OV → AV → Prop} (h : l = l') (h2 : ov = ov') : OwnK P f l j ov k = OwnK P f l' j ov' k := by rw [h, h2]
theorem ownF_congr {s : Nat} {rd : List Nat} {a a' r r' : Option AV} (h : a = a') (h2 : r = r') : ownF o σ s rd k b a r = ownF o σ s rd k b a' r' := by rw [h, h2]
theorem mkK_congr {f : FuncId} {args args' : List AV} {K : Bool → (List AV → AV → Prop) → Prop} (h : args = args') : MkK P f args K = MkK P f args' K := by rw [h]
theorem indK_congr {ops : List Oper} {acc : List SR} {σ0 : List AV} {k : Bool → Prop} : IndK ops acc σ0 k = IndK ops acc σ0 k := _root_.id rfl
theorem drawK_congr {k : Bool → Prop} : DrawK P k = DrawK P k := _root_.id rfl
theorem loopK_congr {c : Code} {Q : Exit → Bool → List AV → Prop} (h : σ = σ') : LoopK P G c Q σ = LoopK P G c Q σ' := by rw [h]
theorem runF_congr {lt : Bool} {ops l : List Oper} {K : Bool → List AV → Prop} (h : σ = σ') : RunF P lt ops b l σ K = RunF P lt ops b l σ' K := by rw [h]
theorem runG_congr {lt : Bool} {ops l : List Oper} {σ0 : List AV} {acc acc' : List SR} {K : Bool → List AV → Prop} (ha : acc = acc') (h : σ = σ') : RunG P lt ops σ0 b l acc σ K = RunG P lt ops σ0 b l acc' σ' K := by rw [h, ha]
theorem rc_congr {c : Code} {Q : Exit → Bool → List AV → Prop} (h : σ = σ') : RC P G c b Q σ = RC P G c b Q σ' := by rw [h]
end
end Go.Slot

/- The slot machine, part R: the rules, marked for simp. -/
namespace Go.Slot
open Go Go.RowKit
variable {P : Program}

theorem gt_zero {a : AV} {σ : List AV} : gt (a :: σ) 0 = a := rfl
theorem gt_succ {a : AV} {σ : List AV} {n : Nat} : gt (a :: σ) (n + 1) = gt σ n := rfl
theorem nh_zero {a : AV} {σ : List AV} : nh (a :: σ) 0 = !a.holder := rfl
theorem nh_succ {a : AV} {σ : List AV} {n : Nat} : nh (a :: σ) (n + 1) = nh σ n := rfl
section
variable {a0 a1 a2 a3 a4 a5 a6 a7 a8 a9 a10 a11 a12 a13 a14 a15 x : AV} {r : List AV} {n : Nat}
theorem gt_ch0 : gt (ch a0 a1 a2 a3 a4 a5 a6 a7 a8 a9 a10 a11 a12 a13 a14 a15 r) 0 = a0 := rfl
theorem nh_ch0 : nh (ch a0 a1 a2 a3 a4 a5 a6 a7 a8 a9 a10 a11 a12 a13 a14 a15 r) 0 = !a0.holder := rfl
theorem set_ch0 : (ch a0 a1 a2 a3 a4 a5 a6 a7 a8 a9 a10 a11 a12 a13 a14 a15 r).set 0 x = ch x a1 a2 a3 a4 a5 a6 a7 a8 a9 a10 a11 a12 a13 a14 a15 r := rfl
theorem gt_ch1 : gt (ch a0 a1 a2 a3 a4 a5 a6 a7 a8 a9 a10 a11 a12 a13 a14 a15 r) 1 = a1 := rfl
theorem nh_ch1 : nh (ch a0 a1 a2 a3 a4 a5 a6 a7 a8 a9 a10 a11 a12 a13 a14 a15 r) 1 = !a1.holder := rfl
theorem set_ch1 : (ch a0 a1 a2 a3 a4 a5 a6 a7 a8 a9 a10 a11 a12 a13 a14 a15 r).set 1 x = ch a0 x a2 a3 a4 a5 a6 a7 a8 a9 a10 a11 a12 a13 a14 a15 r := rfl
theorem gt_ch2 : gt (ch a0 a1 a2 a3 a4 a5 a6 a7 a8 a9 a10 a11 a12 a13 a14 a15 r) 2 = a2 := rfl
theorem nh_ch2 : nh (ch a0 a1 a2 a3 a4 a5 a6 a7 a8 a9 a10 a11 a12 a13 a14 a15 r) 2 = !a2.holder := rfl
theorem set_ch2 : (ch a0 a1 a2 a3 a4 a5 a6 a7 a8 a9 a10 a11 a12 a13 a14 a15 r).set 2 x = ch a0 a1 x a3 a4 a5 a6 a7 a8 a9 a10 a11 a12 a13 a14 a15 r := rfl
theorem gt_ch3 : gt (ch a0 a1 a2 a3 a4 a5 a6 a7 a8 a9 a10 a11 a12 a13 a14 a15 r) 3 = a3 := rfl
theorem nh_ch3 : nh (ch a0 a1 a2 a3 a4 a5 a6 a7 a8 a9 a10 a11 a12 a13 a14 a15 r) 3 = !a3.holder := rfl
theorem set_ch3 : (ch a0 a1 a2 a3 a4 a5 a6 a7 a8 a9 a10 a11 a12 a13 a14 a15 r).set 3 x = ch a0 a1 a2 x a4 a5 a6 a7 a8 a9 a10 a11 a12 a13 a14 a15 r := rfl
theorem gt_ch4 : gt (ch a0 a1 a2 a3 a4 a5 a6 a7 a8 a9 a10 a11 a12 a13 a14 a15 r) 4 = a4 := rfl
theorem nh_ch4 : nh (ch a0 a1 a2 a3 a4 a5 a6 a7 a8 a9 a10 a11 a12 a13 a14 a15 r) 4 = !a4.holder := rfl
theorem set_ch4 : (ch a0 a1 a2 a3 a4 a5 a6 a7 a8 a9 a10 a11 a12 a13 a14 a15 r).set 4 x = ch a0 a1 a2 a3 x a5 a6 a7 a8 a9 a10 a11 a12 a13 a14 a15 r := rfl
theorem gt_ch5 : gt (ch a0 a1 a2 a3 a4 a5 a6 a7 a8 a9 a10 a11 a12 a13 a14 a15 r) 5 = a5 := rfl
theorem nh_ch5 : nh (ch a0 a1 a2 a3 a4 a5 a6 a7 a8 a9 a10 a11 a12 a13 a14 a15 r) 5 = !a5.holder := rfl
theorem set_ch5 : (ch a0 a1 a2 a3 a4 a5 a6 a7 a8 a9 a10 a11 a12 a13 a14 a15 r).set 5 x = ch a0 a1 a2 a3 a4 x a6 a7 a8 a9 a10 a11 a12 a13 a14 a15 r := rfl
theorem gt_ch6 : gt (ch a0 a1 a2 a3 a4 a5 a6 a7 a8 a9 a10 a11 a12 a13 a14 a15 r) 6 = a6 := rfl
theorem nh_ch6 : nh (ch a0 a1 a2 a3 a4 a5 a6 a7 a8 a9 a10 a11 a12 a13 a14 a15 r) 6 = !a6.holder := rfl
theorem set_ch6 : (ch a0 a1 a2 a3 a4 a5 a6 a7 a8 a9 a10 a11 a12 a13 a14 a15 r).set 6 x = ch a0 a1 a2 a3 a4 a5 x a7 a8 a9 a10 a11 a12 a13 a14 a15 r := rfl
theorem gt_ch7 : gt (ch a0 a1 a2 a3 a4 a5 a6 a7 a8 a9 a10 a11 a12 a13 a14 a15 r) 7 = a7 := rfl
theorem nh_ch7 : nh (ch a0 a1 a2 a3 a4 a5 a6 a7 a8 a9 a10 a11 a12 a13 a14 a15 r) 7 = !a7.holder := rfl
theorem set_ch7 : (ch a0 a1 a2 a3 a4 a5 a6 a7 a8 a9 a10 a11 a12 a13 a14 a15 r).set 7 x = ch a0 a1 a2 a3 a4 a5 a6 x a8 a9 a10 a11 a12 a13 a14 a15 r := rfl
theorem gt_ch8 : gt (ch a0 a1 a2 a3 a4 a5 a6 a7 a8 a9 a10 a11 a12 a13 a14 a15 r) 8 = a8 := rfl
theorem nh_ch8 : nh (ch a0 a1 a2 a3 a4 a5 a6 a7 a8 a9 a10 a11 a12 a13 a14 a15 r) 8 = !a8.holder := rfl
theorem set_ch8 : (ch a0 a1 a2 a3 a4 a5 a6 a7 a8 a9 a10 a11 a12 a13 a14 a15 r).set 8 x = ch a0 a1 a2 a3 a4 a5 a6 a7 x a9 a10 a11 a12 a13 a14 a15 r := rfl
theorem gt_ch9 : gt (ch a0 a1 a2 a3 a4 a5 a6 a7 a8 a9 a10 a11 a12 a13 a14 a15 r) 9 = a9 := rfl
theorem nh_ch9 : nh (ch a0 a1 a2 a3 a4 a5 a6 a7 a8 a9 a10 a11 a12 a13 a14 a15 r) 9 = !a9.holder := rfl
theorem set_ch9 : (ch a0 a1 a2 a3 a4 a5 a6 a7 a8 a9 a10 a11 a12 a13 a14 a15 r).set 9 x = ch a0 a1 a2 a3 a4 a5 a6 a7 a8 x a10 a11 a12 a13 a14 a15 r := rfl
theorem gt_ch10 : gt (ch a0 a1 a2 a3 a4 a5 a6 a7 a8 a9 a10 a11 a12 a13 a14 a15 r) 10 = a10 := rfl
theorem nh_ch10 : nh (ch a0 a1 a2 a3 a4 a5 a6 a7 a8 a9 a10 a11 a12 a13 a14 a15 r) 10 = !a10.holder := rfl
theorem set_ch10 : (ch a0 a1 a2 a3 a4 a5 a6 a7 a8 a9 a10 a11 a12 a13 a14 a15 r).set 10 x = ch a0 a1 a2 a3 a4 a5 a6 a7 a8 a9 x a11 a12 a13 a14 a15 r := rfl
theorem gt_ch11 : gt (ch a0 a1 a2 a3 a4 a5 a6 a7 a8 a9 a10 a11 a12 a13 a14 a15 r) 11 = a11 := rfl
theorem nh_ch11 : nh (ch a0 a1 a2 a3 a4 a5 a6 a7 a8 a9 a10 a11 a12 a13 a14 a15 r) 11 = !a11.holder := rfl
theorem set_ch11 : (ch a0 a1 a2 a3 a4 a5 a6 a7 a8 a9 a10 a11 a12 a13 a14 a15 r).set 11 x = ch a0 a1 a2 a3 a4 a5 a6 a7 a8 a9 a10 x a12 a13 a14 a15 r := rfl
theorem gt_ch12 : gt (ch a0 a1 a2 a3 a4 a5 a6 a7 a8 a9 a10 a11 a12 a13 a14 a15 r) 12 = a12 := rfl
theorem nh_ch12 : nh (ch a0 a1 a2 a3 a4 a5 a6 a7 a8 a9 a10 a11 a12 a13 a14 a15 r) 12 = !a12.holder := rfl
theorem set_ch12 : (ch a0 a1 a2 a3 a4 a5 a6 a7 a8 a9 a10 a11 a12 a13 a14 a15 r).set 12 x = ch a0 a1 a2 a3 a4 a5 a6 a7 a8 a9 a10 a11 x a13 a14 a15 r := rfl
theorem gt_ch13 : gt (ch a0 a1 a2 a3 a4 a5 a6 a7 a8 a9 a10 a11 a12 a13 a14 a15 r) 13 = a13 := rfl
theorem nh_ch13 : nh (ch a0 a1 a2 a3 a4 a5 a6 a7 a8 a9 a10 a11 a12 a13 a14 a15 r) 13 = !a13.holder := rfl
theorem set_ch13 : (ch a0 a1 a2 a3 a4 a5 a6 a7 a8 a9 a10 a11 a12 a13 a14 a15 r).set 13 x = ch a0 a1 a2 a3 a4 a5 a6 a7 a8 a9 a10 a11 a12 x a14 a15 r := rfl
theorem gt_ch14 : gt (ch a0 a1 a2 a3 a4 a5 a6 a7 a8 a9 a10 a11 a12 a13 a14 a15 r) 14 = a14 := rfl
theorem nh_ch14 : nh (ch a0 a1 a2 a3 a4 a5 a6 a7 a8 a9 a10 a11 a12 a13 a14 a15 r) 14 = !a14.holder := rfl
theorem set_ch14 : (ch a0 a1 a2 a3 a4 a5 a6 a7 a8 a9 a10 a11 a12 a13 a14 a15 r).set 14 x = ch a0 a1 a2 a3 a4 a5 a6 a7 a8 a9 a10 a11 a12 a13 x a15 r := rfl
theorem gt_ch15 : gt (ch a0 a1 a2 a3 a4 a5 a6 a7 a8 a9 a10 a11 a12 a13 a14 a15 r) 15 = a15 := rfl
theorem nh_ch15 : nh (ch a0 a1 a2 a3 a4 a5 a6 a7 a8 a9 a10 a11 a12 a13 a14 a15 r) 15 = !a15.holder := rfl
theorem set_ch15 : (ch a0 a1 a2 a3 a4 a5 a6 a7 a8 a9 a10 a11 a12 a13 a14 a15 r).set 15 x = ch a0 a1 a2 a3 a4 a5 a6 a7 a8 a9 a10 a11 a12 a13 a14 x r := rfl
theorem gt_chS : gt (ch a0 a1 a2 a3 a4 a5 a6 a7 a8 a9 a10 a11 a12 a13 a14 a15 r) (n + 16) = gt r n := rfl
theorem nh_chS : nh (ch a0 a1 a2 a3 a4 a5 a6 a7 a8 a9 a10 a11 a12 a13 a14 a15 r) (n + 16) = nh r n := rfl
theorem set_chS : (ch a0 a1 a2 a3 a4 a5 a6 a7 a8 a9 a10 a11 a12 a13 a14 a15 r).set (n + 16) x = ch a0 a1 a2 a3 a4 a5 a6 a7 a8 a9 a10 a11 a12 a13 a14 a15 (r.set n x) := rfl
theorem packS_cons : packS (a0 :: a1 :: a2 :: a3 :: a4 :: a5 :: a6 :: a7 :: a8 :: a9 :: a10 :: a11 :: a12 :: a13 :: a14 :: a15 :: r) = ch a0 a1 a2 a3 a4 a5 a6 a7 a8 a9 a10 a11 a12 a13 a14 a15 (packS r) := rfl
theorem packS_ch : packS (ch a0 a1 a2 a3 a4 a5 a6 a7 a8 a9 a10 a11 a12 a13 a14 a15 r) = ch a0 a1 a2 a3 a4 a5 a6 a7 a8 a9 a10 a11 a12 a13 a14 a15 (packS r) := rfl
theorem packS_0 : packS [] = [] := rfl
theorem packS_1 : packS [a0] = [a0] := rfl
theorem packS_2 : packS [a0, a1] = [a0, a1] := rfl
theorem packS_3 : packS [a0, a1, a2] = [a0, a1, a2] := rfl
theorem packS_4 : packS [a0, a1, a2, a3] = [a0, a1, a2, a3] := rfl
theorem packS_5 : packS [a0, a1, a2, a3, a4] = [a0, a1, a2, a3, a4] := rfl
theorem packS_6 : packS [a0, a1, a2, a3, a4, a5] = [a0, a1, a2, a3, a4, a5] := rfl
theorem packS_7 : packS [a0, a1, a2, a3, a4, a5, a6] = [a0, a1, a2, a3, a4, a5, a6] := rfl
theorem packS_8 : packS [a0, a1, a2, a3, a4, a5, a6, a7] = [a0, a1, a2, a3, a4, a5, a6, a7] := rfl
theorem packS_9 : packS [a0, a1, a2, a3, a4, a5, a6, a7, a8] = [a0, a1, a2, a3, a4, a5, a6, a7, a8] := rfl
theorem packS_10 : packS [a0, a1, a2, a3, a4, a5, a6, a7, a8, a9] = [a0, a1, a2, a3, a4, a5, a6, a7, a8, a9] := rfl
theorem packS_11 : packS [a0, a1, a2, a3, a4, a5, a6, a7, a8, a9, a10] = [a0, a1, a2, a3, a4, a5, a6, a7, a8, a9, a10] := rfl
theorem packS_12 : packS [a0, a1, a2, a3, a4, a5, a6, a7, a8, a9, a10, a11] = [a0, a1, a2, a3, a4, a5, a6, a7, a8, a9, a10, a11] := rfl
theorem packS_13 : packS [a0, a1, a2, a3, a4, a5, a6, a7, a8, a9, a10, a11, a12] = [a0, a1, a2, a3, a4, a5, a6, a7, a8, a9, a10, a11, a12] := rfl
theorem packS_14 : packS [a0, a1, a2, a3, a4, a5, a6, a7, a8, a9, a10, a11, a12, a13] = [a0, a1, a2, a3, a4, a5, a6, a7, a8, a9, a10, a11, a12, a13] := rfl
theorem packS_15 : packS [a0, a1, a2, a3, a4, a5, a6, a7, a8, a9, a10, a11, a12, a13, a14] = [a0, a1, a2, a3, a4, a5, a6, a7, a8, a9, a10, a11, a12, a13, a14] := rfl
theorem stripEff_ch {tk : List Nat} {i : Nat} : stripEff tk i (ch a0 a1 a2 a3 a4 a5 a6 a7 a8 a9 a10 a11 a12 a13 a14 a15 r) = stripEff tk i (a0 :: a1 :: a2 :: a3 :: a4 :: a5 :: a6 :: a7 :: a8 :: a9 :: a10 :: a11 :: a12 :: a13 :: a14 :: a15 :: r) := rfl
theorem dropEff_ch {s i : Nat} : dropEff s i (ch a0 a1 a2 a3 a4 a5 a6 a7 a8 a9 a10 a11 a12 a13 a14 a15 r) = dropEff s i (a0 :: a1 :: a2 :: a3 :: a4 :: a5 :: a6 :: a7 :: a8 :: a9 :: a10 :: a11 :: a12 :: a13 :: a14 :: a15 :: r) := rfl
theorem frzFrom_ch {s : Nat} {hv : AV} {i : Nat} : frzFrom s hv i (ch a0 a1 a2 a3 a4 a5 a6 a7 a8 a9 a10 a11 a12 a13 a14 a15 r) = frzFrom s hv i (a0 :: a1 :: a2 :: a3 :: a4 :: a5 :: a6 :: a7 :: a8 :: a9 :: a10 :: a11 :: a12 :: a13 :: a14 :: a15 :: r) := rfl
theorem dropFrom_ch {s i : Nat} : dropFrom s i (ch a0 a1 a2 a3 a4 a5 a6 a7 a8 a9 a10 a11 a12 a13 a14 a15 r) = dropFrom s i (a0 :: a1 :: a2 :: a3 :: a4 :: a5 :: a6 :: a7 :: a8 :: a9 :: a10 :: a11 :: a12 :: a13 :: a14 :: a15 :: r) := rfl
theorem onlyFrom_ch {ks : List Nat} {i : Nat} : onlyFrom ks i (ch a0 a1 a2 a3 a4 a5 a6 a7 a8 a9 a10 a11 a12 a13 a14 a15 r) = onlyFrom ks i (a0 :: a1 :: a2 :: a3 :: a4 :: a5 :: a6 :: a7 :: a8 :: a9 :: a10 :: a11 :: a12 :: a13 :: a14 :: a15 :: r) := rfl
end
attribute [go_sem] gt_ch0 nh_ch0 set_ch0 gt_ch1 nh_ch1 set_ch1 gt_ch2 nh_ch2 set_ch2 gt_ch3 nh_ch3 set_ch3 gt_ch4 nh_ch4 set_ch4 gt_ch5 nh_ch5 set_ch5 gt_ch6 nh_ch6 set_ch6 gt_ch7 nh_ch7 set_ch7 gt_ch8 nh_ch8 set_ch8 gt_ch9 nh_ch9 set_ch9 gt_ch10 nh_ch10 set_ch10 gt_ch11 nh_ch11 set_ch11 gt_ch12 nh_ch12 set_ch12 gt_ch13 nh_ch13 set_ch13 gt_ch14 nh_ch14 set_ch14 gt_ch15 nh_ch15 set_ch15 gt_chS nh_chS set_chS packS_cons packS_ch packS_0 packS_1 packS_2 packS_3 packS_4 packS_5 packS_6 packS_7 packS_8 packS_9 packS_10 packS_11 packS_12 packS_13 packS_14 packS_15 stripEff_ch dropEff_ch frzFrom_ch dropFrom_ch onlyFrom_ch
theorem app_nil {σ : List AV} : app [] σ = σ := rfl
theorem app_cons {σ : List AV} {p : Nat × AV} {r : List (Nat × AV)} : app (p :: r) σ = app r (σ.set p.1 p.2) := rfl
theorem opd_tmp {σ : List AV} {t : Nat} : opd σ (.tmp t) = gt σ t := rfl
theorem opd_int {σ : List AV} {k : IntKind} {n : Int} : opd σ (.const (.int k n)) = .one (.raw (.int k n)) := rfl
theorem opd_bool {σ : List AV} {b : Bool} : opd σ (.const (.bool b)) = .one (.raw (.bool b)) := rfl
theorem opd_string {σ : List AV} {s : ByteArray} : opd σ (.const (.string s)) = .one (.raw (.string s)) := rfl
theorem opd_slice {σ : List AV} {a : Option Addr} {l c : Nat} : opd σ (.const (.slice a l c)) = .one (.raw (.slice a l c)) := rfl
theorem opd_agg {σ : List AV} {vs : Array Value} : opd σ (.const (.agg vs)) = constAV (.agg vs) := rfl
theorem opd_func {σ : List AV} {f : FuncId} : opd σ (.func f) = .one (.raw (.func (.func f) #[] #[])) := rfl
theorem val_some {σ : List AV} {o : Oper} {rd : List Nat} {av : AV} : val σ o rd av = match o.dst with
  | some d => if nh σ d then some (d :: rd, [(d, av)]) else none
  | none => none := rfl
theorem of_some {x : List Nat × List (Nat × AV)} : OR.of (some x) = .eff x.1 [] x.2 := rfl
theorem of_none : OR.of none = .bad := rfl
theorem many_agg {s b : Nat} {z : List Cell} {sh : Sh} : TI.many ⟨s, b, z, sh⟩ = if sh.agg then some true else if sh.plain then some false else none := rfl
theorem withTI_of {t : TypeId} {ti : TI} (h : mkTI P t = some ti) {k : TI → OR} : withTI P t k = k ti := by unfold withTI; rw [h]
theorem ite_t {α : Type} {c : Prop} [Decidable c] {a b : α} (h : c) : (if c then a else b) = a := if_pos h
theorem ite_f {α : Type} {c : Prop} [Decidable c] {a b : α} (h : ¬ c) : (if c then a else b) = b := if_neg h
theorem w64 {n : Int} (h : -9223372036854775808 ≤ n ∧ n ≤ 9223372036854775807) : IntKind.i64.wrap n = n := by rw [IntKind.wrap_i64]; omega
theorem opt_map_some {α β : Type} (f : α → β) (a : α) : (some a).map f = some (f a) := rfl
theorem opt_map_none {α β : Type} (f : α → β) : (none : Option α).map f = none := rfl
theorem opt_bind_some {α β : Type} (f : α → Option β) (a : α) : (some a).bind f = f a := rfl

theorem beqI {a b : Int} : (a == b) = decide (a = b) := rfl
theorem bneI {a b : Int} : (a != b) = decide (a ≠ b) := by simp [bne, beqI]
theorem guardd {p : Prop} [Decidable p] {X Y : Bool → Prop} (hx : p → X true) (hy : ¬ p → Y true) : GuardK (decide p) true X Y := ⟨fun h => hx (of_decide_eq_true h), fun h => hy (of_decide_eq_false h)⟩
theorem guardn {p : Prop} [Decidable p] {X Y : Bool → Prop} (hx : ¬ p → X true) (hy : p → Y true) : GuardK (decide p) false X Y := ⟨fun h => hx (of_decide_eq_false h), fun h => hy (of_decide_eq_true h)⟩
theorem drawk {k : Bool → Prop} (h : P.follows .mixedOrders = true) (hk : k true) : DrawK P k := ⟨h, hk⟩
theorem bif_t {α : Type} {a b : α} : (bif true then a else b) = a := rfl
theorem bif_f {α : Type} {a b : α} : (bif false then a else b) = b := rfl

attribute [go_sem 100] ite_t ite_f
attribute [go_sem 10000] if_true if_false
attribute [go_sem] w64
attribute [go_sem] beqI bneI bif_t bif_f
attribute [go_sem ↓] rc_skip rc_region rc_regionD rc_seq rc_cond rc_block rc_loop rc_exit rc_ret
attribute [go_sem] runF_nil runF_cons runG_nil runG_cons nrm_nil nrm_cons nrm_ch nrmR_nil nrmR_cons
attribute [go_sem ↓] hide_1 hide_2 hide_4 hide_r hide_o hide_f
attribute [go_sem] tick_true tick_false tick_plain tick_when tick_skip tick_eff tick_call tick_fn tick_mk tick_own tick_bad tick_one
attribute [go_sem ↓] thenC_normal thenC_exit thenC_ret inBlockC_normal inBlockC_exit inBlockC_ret
attribute [go_sem] selE_t selE_f
attribute [go_sem] doF_eff doF_call doF_fn doF_mk doF_own ownF_some doF_bad retCX_ret retCX_normal onD_nil gdF_plain gdF_when gdF_skip
attribute [go_sem] guardK_tt guardK_ff guardK_tf guardK_ft condK_t condK_f condF_bool retC_ret retC_normal
attribute [congr] ltF_congr selE_congr seqF_congr joinK_congr ownK_congr ownF_congr doF_congr gdF_congr guardK_congr condK_congr condF_congr callK_congr fnK_congr mkK_congr indK_congr drawK_congr loopK_congr runF_congr runG_congr rc_congr
attribute [go_sem] gt_zero gt_succ nh_zero nh_succ app_nil app_cons opd_tmp opd_int opd_bool opd_string opd_slice opd_agg opd_func val_some of_some of_none many_agg
attribute [go_sem] opt_map_some opt_map_none opt_bind_some List.set_cons_zero List.set_cons_succ Option.getD_some Option.getD_none List.getElem?_cons_zero List.getElem?_cons_succ List.getElem?_nil
attribute [go_sem] ownView argsXA Cell.splice newSlot newRes ghOf ghL ghA setAny frz frzFrom frzOne AV.frzd Cell.sub Cell.at Cell.upd Cell.cnt Cell.esz AV.boxOf AV.reBox AV.fresh osliceA AV.isOwn ownRes
attribute [go_sem] ltF_t ltF_f seqF_t seqF_f joinAt firstR hasJoin onlyS onlyFrom anyH nextK pickK isK
attribute [go_sem] opA opA0 opL selO litA litB litE isNone hasLit emptyOf isZc zcAt ownN appendNA isX opX nilO nilV tiX valX maxV eqOp bothB bbA ownAtB ownAt appendOA nilA nilC emptyA dropEff_nil dropEff_cons hitB dropS dropFrom dropOne mvS AV.rf
attribute [go_sem] guardA skipF opB vofA vofB sliceOk elemTI arrOk cpy pickA cellsOfAV loadC loadA storeA fieldAddrA extractA elemAt indexAddrA abin binA aun unA convA lenC lenA lenOk lenFit Cell.isSl natA boundA orrO cutC sliceA makeA
attribute [go_sem] fillC avParts orrs placeOf buildA intsOf chunk repeatL buildSliceA toInts toRows joinC ownC stripEff_nil stripEff_cons consB appendA argA argsA orrL dstRd callEff nhDst plainFn orr AV.holder AV.isBox AV.isArr Sh.agg Sh.plain Cell.bare bareL constAV
attribute [go_sem] resOne resAll resAV AV.noTok noTokL Cell.noTok AV.stripAll
attribute [go_sem] List.take_succ_cons List.take_zero List.drop_succ_cons List.drop_zero List.drop_nil List.take_nil List.length_cons List.length_nil List.cons_append List.nil_append List.append_nil List.all_cons List.all_nil List.map_cons List.map_nil
theorem bq1 {b : Bool} : (true == b) = b := by cases b <;> rfl
theorem bq2 {b : Bool} : (b == true) = b := by cases b <;> rfl
theorem bq3 {b : Bool} : (false == b) = !b := by cases b <;> rfl
theorem bq4 {b : Bool} : (b == false) = !b := by cases b <;> rfl
theorem bq5 {b : Bool} : (true != b) = !b := by cases b <;> rfl
theorem bq6 {b : Bool} : (b != true) = !b := by cases b <;> rfl
theorem bq7 {b : Bool} : (false != b) = b := by cases b <;> rfl
theorem bq8 {b : Bool} : (b != false) = b := by cases b <;> rfl
attribute [go_sem] bq1 bq2 bq3 bq4 bq5 bq6 bq7 bq8 List.foldl_cons List.foldl_nil AV.strip Cell.strip stripL
attribute [go_sem] Bool.not_true Bool.not_false Bool.false_eq_true Bool.true_and Bool.and_true Bool.false_and Bool.and_false true_and and_true and_self cond_true cond_false not_true_eq_false not_false_eq_true
attribute [go_sem] Nat.zero_add Nat.add_zero List.drop_length List.take_length List.length_set List.length_replicate
attribute [go_sem] decide_true decide_false beq_self_eq_true bne_self_eq_false Option.toList Int.toNat_natCast List.toList_toArray
end Go.Slot

/- The slot machine, part X: arguments taken apart. -/
namespace Go.Slot
open Go Go.RowKit
variable {P : Program}
/-- an empty slice is nil or it is not -/
theorem CallsTo.nilInts {f : FuncId} {k : IntKind} {res : AV} (h : ∀ b, CallsTo P f [.one (.nn b)] res) : CallsTo P f [.one (.ints k [])] res := by
  refine ⟨(h true).1, fun M w vs hM hr => ?_⟩
  match vs, hr with
  | [v], hr =>
    have hv : RdC M w v (.ints k []) := hr.1
    cases hv with
    | @ints a len cap _ _ b off hl hc ha hh =>
      subst hl
      exact (h a.isNone).2 M w _ hM ⟨(RdC.nn : RdC M w (.slice a 0 cap) (.nn a.isNone)), trivial⟩
theorem CallsTo.nilRows {f : FuncId} {n : Nat} {res : AV} (h : ∀ b, CallsTo P f [.one (.nn b)] res) : CallsTo P f [.one (.sl n [])] res := by
  refine ⟨(h true).1, fun M w vs hM hr => ?_⟩
  match vs, hr with
  | [v], hr =>
    have hv : RdC M w v (.sl n []) := hr.1
    cases hv with
    | @sl a len cap _ _ b off u hl hc ha hn hm hrr =>
      subst hl
      exact (h a.isNone).2 M w _ hM ⟨(RdC.nn : RdC M w (.slice a 0 cap) (.nn a.isNone)), trivial⟩
end Go.Slot

/- The joint, first part: what a reading of an argument says in cells. -/
namespace Go.Slot
open Go Go.RowKit Go.ChangeShapes
variable {P : Program} {H : Type} {enc : TypeId × Value → H} {w : World} {spare : Nat → Bool} {held : Bool}

/-- what one cell of an argument holds -/
inductive Sp where
  | int (k : IntKind)
  | bool
  | str
  | ints (k : IntKind)
  | sl (l : List Sp)

def spFields (P : Program) (rec : TypeId → Option (List Sp)) : Nat → List Field → Option (List Sp)
  | _, [] => some []
  | off, f :: r => if f.offset = off then match rec f.type with
      | some l => if l.length = P.cellsOf f.type then (spFields P rec (off + l.length) r).map (l ++ ·) else none
      | none => none
    else none
/-- the cells of a type -/
def spOf (P : Program) : Nat → TypeId → Option (List Sp)
  | 0, _ => none
  | n + 1, t => match P.underlying t with
    | some .bool => some [.bool]
    | some (.int k) => some [.int k]
    | some .string => some [.str]
    | some (.slice e) => match P.underlying e with
      | some (.int k) => if P.cellsOf e = 1 then some [.ints k] else none
      | _ => match spOf P n e with
        | some l => if l.length = P.cellsOf e ∧ l.length ≠ 0 then some [.sl l] else none
        | none => none
    | some (.struct fs) => match spFields P (spOf P n) 0 fs.toList with
      | some l => if l.length = P.cellsOf t then some l else none
      | none => none
    | _ => none

inductive Fit (N : Nat) : Sp → Cell → Prop
  | int {k : IntKind} {n : Int} (h : k.min ≤ n ∧ n ≤ k.max) : Fit N (.int k) (.raw (.int k n))
  | bool {b : Bool} : Fit N .bool (.raw (.bool b))
  | str {s : ByteArray} (h : s.size ≤ N) : Fit N .str (.raw (.string s))
  | ints {k : IntKind} {L : List Int} (hl : L.length ≤ N) (h : ∀ x ∈ L, k.min ≤ x ∧ x ≤ k.max) : Fit N (.ints k) (.ints k L)
  | sl {l : List Sp} {rows : List (List Cell)} (hl : rows.length ≤ N) (hlen : ∀ r ∈ rows, r.length = l.length) (h : ∀ (r : List Cell), r ∈ rows → ∀ (i : Nat) (s : Sp) (c : Cell), l[i]? = some s → r[i]? = some c → Fit N s c) : Fit N (.sl l) (.sl l.length rows)
def FitL (N : Nat) (l : List Sp) (cs : List Cell) : Prop := cs.length = l.length ∧ ∀ (i : Nat) (s : Sp) (c : Cell), l[i]? = some s → cs[i]? = some c → Fit N s c

theorem FitL.cons {N : Nat} {s : Sp} {l : List Sp} {cs : List Cell} (h : FitL N (s :: l) cs) : ∃ c r, cs = c :: r ∧ Fit N s c ∧ FitL N l r := by
  obtain ⟨h1, h2⟩ := h
  cases cs with
  | nil => simp at h1
  | cons c r => exact ⟨c, r, rfl, h2 0 s c rfl rfl, by simpa using h1, fun i s' c' hs hc => h2 (i + 1) s' c' (by simpa using hs) (by simpa using hc)⟩
theorem FitL.nil {N : Nat} {cs : List Cell} (h : FitL N [] cs) : cs = [] := List.eq_nil_of_length_eq_zero h.1
theorem FitL.one {N : Nat} {s : Sp} {c : Cell} (h : Fit N s c) : FitL N [s] [c] := ⟨rfl, fun i s' c' hs hc => by
  cases i with
  | zero => simp at hs hc; subst hs hc; exact h
  | succ i => simp at hs⟩
theorem FitL.append {N : Nat} {l l' : List Sp} {cs cs' : List Cell} (h : FitL N l cs) (h' : FitL N l' cs') : FitL N (l ++ l') (cs ++ cs') := by
  refine ⟨by simp [h.1, h'.1], fun i s c hs hc => ?_⟩
  rcases Nat.lt_or_ge i l.length with hi | hi
  · rw [List.getElem?_append_left hi] at hs
    rw [List.getElem?_append_left (by rw [h.1]; exact hi)] at hc
    exact h.2 i s c hs hc
  · rw [List.getElem?_append_right hi] at hs
    rw [List.getElem?_append_right (by rw [h.1]; exact hi), h.1] at hc
    exact h'.2 _ s c hs hc

/-- what a measure of data must obey -/
structure Bulk (bk : DataW H → Nat) : Prop where
  str : ∀ b, b.length ≤ bk (.lit (.string b))
  elems : ∀ l r, l.length ≤ bk (.slice l r)
  elem : ∀ l r d, d ∈ l → bk d ≤ bk (.slice l r)
  part : ∀ l d, d ∈ l → bk d ≤ bk (.agg l)

theorem RdD.app0 {M : Nat → Nat → Prop} {w : World} : ∀ {vs us : List Value} {cs ds : List Cell}, RdD M w vs cs → RdD M w us ds → RdD M w (vs ++ us) (cs ++ ds)
  | [], _, [], _, _, h => h
  | _ :: _, _, _ :: _, _, h, h' => ⟨h.1, RdD.app0 h.2 h'⟩
theorem cellAt {a : Addr} {v : Value} (h : w.cell? a = some v) : a.spot = none := by
  unfold World.cell? at h
  split at h
  · split at h
    · cases h
    · rename_i hs; simpa using hs
  · cases h
theorem addrAt {a : Addr} (h : a.spot = none) (n : Nat) : a.add n = ⟨a.block, a.off + n, none⟩ := by
  unfold Addr.add
  split
  · rename_i e; subst e; cases a; simp at h; subst h; rfl
  · rfl

section
variable {bk : DataW H → Nat} {N : Nat}

theorem rd_fields {rec : TypeId → Option (List Sp)} {fuel : Nat} (hrec : ∀ (t : TypeId) (l : List Sp) (cs : List Value) (x : DataW H × List MemPlace), rec t = some l → DataW.trod enc P w 0 spare held fuel t cs = some x → bk x.1 ≤ N →
      ∃ cells, RdD (fun _ _ => False) w cs cells ∧ FitL N l cells) :
    ∀ (fs : List Field) (off : Nat) (l : List Sp) (cs : List Value) (xs : List (DataW H × List MemPlace)), spFields P rec off fs = some l → cs.length = off + l.length → xs.length = fs.length →
      (∀ (i : Nat) (f : Field), fs[i]? = some f → DataW.trod enc P w 0 spare held fuel f.type ((cs.drop f.offset).take (P.cellsOf f.type)) = xs[i]?) → (∀ x ∈ xs, bk x.1 ≤ N) →
      ∃ cells, RdD (fun _ _ => False) w (cs.drop off) cells ∧ FitL N l cells
  | [], off, l, cs, xs, hl, hlen, _, _, _ => by
    cases hl
    refine ⟨[], ?_, rfl, fun i s c hs => by simp at hs⟩
    rw [List.drop_eq_nil_of_le (by simp at hlen; omega)]
    exact trivial
  | f :: fs, off, l, cs, xs, hl, hlen, hxs, hx, hb => by
    unfold spFields at hl
    split at hl
    case isFalse => cases hl
    rename_i hoff
    split at hl
    case h_2 => cases hl
    rename_i l0 hl0
    split at hl
    case isFalse => cases hl
    rename_i hll
    simp only [Option.map_eq_some_iff] at hl
    obtain ⟨l1, hl1, rfl⟩ := hl
    rw [List.length_append] at hlen
    cases xs with
    | nil => simp at hxs
    | cons x xs =>
      have h0 := hx 0 f rfl
      simp only [List.getElem?_cons_zero] at h0
      obtain ⟨c0, r0, f0⟩ := hrec f.type l0 _ x hl0 h0 (hb x (by simp))
      obtain ⟨c1, r1, f1⟩ := rd_fields hrec fs (off + l0.length) l1 cs xs hl1 (by omega) (by simpa using hxs) (fun i f' hf => by
        have := hx (i + 1) f' (by simpa using hf)
        simpa using this) (fun y hy => hb y (by simp [hy]))
      refine ⟨c0 ++ c1, ?_, f0.append f1⟩
      have : cs.drop off = (cs.drop f.offset).take (P.cellsOf f.type) ++ cs.drop (off + l0.length) := by
        rw [hoff, ← hll, ← List.drop_drop, List.take_append_drop]
      rw [this]
      exact r0.app0 r1

theorem trod_rd (hB : Bulk bk) : ∀ (n : Nat) (t : TypeId) (l : List Sp) (fuel : Nat) (cs : List Value) (x : DataW H × List MemPlace), spOf P n t = some l → DataW.trod enc P w 0 spare held fuel t cs = some x → bk x.1 ≤ N →
    ∃ cells, RdD (fun _ _ => False) w cs cells ∧ FitL N l cells := by
  intro n
  induction n with
  | zero => intro t l fuel cs x h; cases h
  | succ n ih =>
    intro t l fuel cs x hl hx hb
    unfold spOf at hl
    split at hl
    · rename_i ht
      cases hl
      obtain ⟨b, rfl, rfl⟩ := DataW.trod_bool ht hx
      exact ⟨[.raw (.bool b)], ⟨.raw rfl, trivial⟩, .one .bool⟩
    · rename_i k ht
      cases hl
      obtain ⟨m, rfl, rfl, hw⟩ := DataW.trod_int ht hx
      exact ⟨[.raw (.int k m)], ⟨.raw rfl, trivial⟩, .one (.int (by simpa [Lit.wf] using hw))⟩
    · rename_i ht
      cases hl
      obtain ⟨s, rfl, rfl, _⟩ := DataW.trod_string ht hx
      refine ⟨[.raw (.string s)], ⟨.raw rfl, trivial⟩, .one (.str ?_)⟩
      have h1 := hB.str s.data.toList
      have e : s.data.toList.length = s.size := Array.length_toList
      have hb : bk (.lit (.string s.data.toList)) ≤ N := hb
      omega
    · rename_i e ht
      split at hl
      · rename_i k he
        split at hl
        case isFalse => cases hl
        rename_i hc
        cases hl
        rcases open_ints ht he hc hx with ⟨rfl, rfl⟩ | ⟨a, len, cap, zs, rfl, _, hlc, _, hzl, rfl, hcell, hwf⟩
        · exact ⟨[.ints k []], ⟨.ints 0 0 rfl (Nat.le_refl _) (fun h => absurd rfl h) (fun i hi => absurd hi (Nat.not_lt_zero i)), trivial⟩, .one (.ints (Nat.zero_le _) (fun x hx => by cases hx))⟩
        · have hle : len ≤ zs.length := by rw [hzl]; split <;> omega
          have htl : (zs.take len).length = len := by simp; omega
          refine ⟨[.ints k (zs.take len)], ⟨.ints a.block a.off htl.symm hlc (fun hne => ?_) (fun i hi => ⟨fun h => h, ?_⟩), trivial⟩, .one (.ints ?_ (fun x hx => ?_))⟩
          · have hpos : 0 < zs.length := by
              have := List.length_pos_iff.2 hne
              omega
            have h0 := cellAt (hcell 0 hpos)
            have h0 : a.spot = none := by simpa [Addr.add] using h0
            cases a; simp at h0; subst h0; rfl
          · have hi' : i < zs.length := by omega
            have h1 := hcell i hi'
            have hs : a.spot = none := by
              have h0 := cellAt (hcell 0 (by omega))
              simpa [Addr.add] using h0
            rw [addrAt hs] at h1
            rw [h1]
            simp [hi']
          · have := hB.elems (lits (H := H) k (zs.take len)) (lits k (zs.drop len))
            have e1 : (lits (H := H) k (zs.take len)).length = len := by simp [lits]; omega
            have hb : bk (.slice (lits k (zs.take len)) (lits k (zs.drop len))) ≤ N := hb
            omega
          · have := hwf x (List.mem_of_mem_take hx)
            simpa [Lit.wf] using this
      · split at hl
        case h_2 => cases hl
        rename_i l0 hl0
        split at hl
        case isFalse => cases hl
        rename_i hll0
        obtain ⟨hll, hl00⟩ := hll0
        cases hl
        rcases DataW.trod_slice ht hx with ⟨rfl, rfl⟩ | ⟨a, len, cap, elems, rest, m, _, rfl, rfl, _, hlc, _, hlen, hel, _, _⟩
        · exact ⟨[.sl l0.length []], ⟨.sl 0 0 (fun _ _ => Go.undef) rfl (Nat.le_refl _) (fun h => absurd rfl h) (fun r hr => by cases hr) (fun i hi => absurd hi (Nat.not_lt_zero i)) (fun i hi => absurd hi (Nat.not_lt_zero i)), trivial⟩,
            .one (.sl (Nat.zero_le _) (fun r hr => by cases hr) (fun r hr => by cases hr))⟩
        · have each : ∀ i, i < len → ∃ (vs : List Value) (row : List Cell), vs.length = P.cellsOf e ∧ (∀ j, j < P.cellsOf e → w.cell? ((a.add (i * P.cellsOf e)).add j) = vs[j]?) ∧ RdD (fun _ _ => False) w vs row ∧ FitL N l0 row := fun i hi => by
            have h1 := hel i hi
            have hi' : i < elems.length := by omega
            rw [List.getElem?_eq_getElem hi'] at h1
            simp only [Option.bind_eq_some_iff] at h1
            obtain ⟨vs, hvs, htr⟩ := h1
            obtain ⟨_, h2, h3⟩ := World.cells?_some hvs
            have hbe : bk elems[i].1 ≤ N := Nat.le_trans (hB.elem (elems.map (·.1)) (rest.map (·.1)) elems[i].1 (List.mem_map.2 ⟨_, List.getElem_mem hi', rfl⟩)) hb
            obtain ⟨row, r1, r2⟩ := ih e l0 m vs _ hl0 htr hbe
            exact ⟨vs, row, h2, h3, r1, r2⟩
          have hlN : len ≤ N := by
            have h1 := hB.elems (elems.map (·.1)) (rest.map (·.1))
            rw [List.length_map] at h1
            have hb : bk (.slice (elems.map (·.1)) (rest.map (·.1))) ≤ N := hb
            omega
          have pick : ∃ (V : Nat → List Value) (R : Nat → List Cell), ∀ i, i < len → (V i).length = P.cellsOf e ∧ (∀ j, j < P.cellsOf e → w.cell? ((a.add (i * P.cellsOf e)).add j) = (V i)[j]?) ∧ RdD (fun _ _ => False) w (V i) (R i) ∧ FitL N l0 (R i) := by
            refine ⟨fun i => if h : i < len then Classical.choose (each i h) else [], fun i => if h : i < len then Classical.choose (Classical.choose_spec (each i h)) else [], fun i hi => ?_⟩
            simp only [dif_pos hi]
            exact Classical.choose_spec (Classical.choose_spec (each i hi))
          obtain ⟨V, R, hVR⟩ := pick
          have hspot : ∀ i j, i < len → j < P.cellsOf e → a.spot = none := fun i j hi hj => by
            have h0 : 0 < len := by omega
            have h2 := (hVR 0 h0).2.1 0 (by omega)
            have hl0' : 0 < (V 0).length := by rw [(hVR 0 h0).1]; omega
            rw [List.getElem?_eq_getElem hl0'] at h2
            have := cellAt h2
            simpa [Addr.add] using this
          refine ⟨[.sl l0.length ((List.range len).map R)], ⟨.sl a.block a.off (fun i j => (V i).getD j Go.undef) (by simp) hlc (fun hne => ?_) (fun r hr => ?_) (fun i hi j hj => ⟨fun h => h, ?_⟩) (fun i hi j hj => ?_), trivial⟩, .one (.sl (by simpa using hlN) (fun r hr => ?_) (fun r hr => ?_))⟩
          · have h0 : 0 < len := by
              rcases Nat.eq_zero_or_pos len with h | h
              · subst h; simp at hne
              · exact h
            have h1 := hspot 0 0 h0 (by omega)
            cases a; simp at h1; subst h1; rfl
          · obtain ⟨i, hi, rfl⟩ := List.mem_map.1 hr
            exact (hVR i (List.mem_range.1 hi)).2.2.2.1
          · simp at hi
            rw [hll] at hj ⊢
            have h1 := (hVR i hi).2.1 j hj
            have hjl : j < (V i).length := by rw [(hVR i hi).1]; exact hj
            rw [addrAt (hspot i j hi hj), addrAt rfl] at h1
            simp only at h1
            rw [h1, List.getElem?_eq_getElem hjl]
            simp [hjl]
          · simp at hi
            simp only [List.getElem_map, List.getElem_range] at hj ⊢
            have gen : ∀ (vs : List Value) (cs : List Cell), RdD (fun _ _ => False) w vs cs → ∀ j (hj : j < cs.length), RdC (fun _ _ => False) w (vs.getD j Go.undef) cs[j] := by
              intro vs
              induction vs with
              | nil => intro cs h j hj; cases cs with
                | nil => simp at hj
                | cons c cs => exact h.elim
              | cons v vs ih => intro cs h j hj; cases cs with
                | nil => exact h.elim
                | cons c cs =>
                  cases j with
                  | zero => exact h.1
                  | succ j => exact ih cs h.2 j (by simpa using hj)
            exact gen _ _ (hVR i hi).2.2.1 j hj
          · obtain ⟨i, hi, rfl⟩ := List.mem_map.1 hr
            exact (hVR i (List.mem_range.1 hi)).2.2.2.1
          · obtain ⟨i, hi, rfl⟩ := List.mem_map.1 hr
            exact (hVR i (List.mem_range.1 hi)).2.2.2.2
    · rename_i fs ht
      split at hl
      case h_2 => cases hl
      rename_i l0 hl0
      split at hl
      case isFalse => cases hl
      rename_i hll
      cases hl
      obtain ⟨xs, m, _, rfl, hcl, hxl, hf⟩ := DataW.trod_struct ht hx
      obtain ⟨cells, h1, h2⟩ := rd_fields (fun t' l' cs' x' h1 h2 h3 => ih t' l' m cs' x' h1 h2 h3) fs.toList 0 _ cs xs hl0 (by omega) (by simpa using hxl) (fun i f hf' => hf i f (by simpa using hf')) (fun y hy =>
        Nat.le_trans (hB.part (xs.map (·.1)) y.1 (List.mem_map.2 ⟨y, hy, rfl⟩)) hb)
      exact ⟨cells, by simpa using h1, h2⟩
    · cases hl
end
end Go.Slot

/- The joint, second part: arguments as cells; what the call leaves as it was; a law's row from its contract. -/
namespace Go.Slot
open Go Go.RowKit Go.ChangeShapes Go.WideShapes
variable {P : Program} {H : Type} {enc : TypeId × Value → H}

/-- no cell may change -/
def M0 : Nat → Nat → Prop := fun _ _ => False
section
variable {w : World} {spare : Nat → Bool} {held : Bool} {bk : DataW H → Nat} {N : Nat} {r : Reach} {b0 : Nat}
theorem arg_struct (hB : Bulk bk) {n : Nat} {t : TypeId} {l : List Sp} {v : Value} {d : DataW H} {p : List MemPlace} {fs : Array Field} (ht : P.underlying t = some (.struct fs)) (hsp : spOf P n t = some l)
    (hval : Value.okWide P w r b0 t v) (hd : DataW.Trod enc P w 0 spare held t v d p) (hb : bk d ≤ N) : ∃ cells, FitL N l cells ∧ RdB M0 w v (.agg cells) := by
  obtain ⟨cs, rfl, _⟩ := okWide_struct ht hval
  obtain ⟨fuel, hf⟩ := hd
  obtain ⟨cells, h1, h2⟩ := trod_rd hB n t l fuel _ (d, p) hsp hf hb
  exact ⟨cells, h2, ⟨cs.toList, by simp, h1⟩⟩
theorem arg_one (hB : Bulk bk) {n : Nat} {t : TypeId} {s : Sp} {v : Value} {d : DataW H} {p : List MemPlace} (hv : v.cells = #[v]) (hsp : spOf P n t = some [s])
    (hd : DataW.Trod enc P w 0 spare held t v d p) (hb : bk d ≤ N) : ∃ c, Fit N s c ∧ RdB M0 w v (.one c) := by
  obtain ⟨fuel, hf⟩ := hd
  obtain ⟨cells, h1, h2⟩ := trod_rd hB n t [s] fuel _ (d, p) hsp hf hb
  obtain ⟨c, rr, rfl, hc, hr⟩ := h2.cons
  have := hr.nil
  subst this
  rw [hv] at h1
  exact ⟨c, hc, h1.1⟩
theorem arg_slice (hB : Bulk bk) {n : Nat} {t e : TypeId} {s : Sp} {v : Value} {d : DataW H} {p : List MemPlace} (ht : P.underlying t = some (.slice e)) (hsp : spOf P n t = some [s])
    (hval : Value.okWide P w r b0 t v) (hd : DataW.Trod enc P w 0 spare held t v d p) (hb : bk d ≤ N) : ∃ c, Fit N s c ∧ RdB M0 w v (.one c) := by
  obtain ⟨a, len, cap, rfl⟩ := okWide_slice ht hval
  exact arg_one hB rfl hsp hd hb
theorem arg_int (hB : Bulk bk) {n : Nat} {t : TypeId} {k : IntKind} {s : Sp} {v : Value} {d : DataW H} {p : List MemPlace} (ht : P.underlying t = some (.int k)) (hsp : spOf P n t = some [s])
    (hval : Value.okWide P w r b0 t v) (hd : DataW.Trod enc P w 0 spare held t v d p) (hb : bk d ≤ N) : ∃ c, Fit N s c ∧ RdB M0 w v (.one c) := by
  obtain ⟨m, rfl⟩ := okWide_int ht hval
  exact arg_one hB rfl hsp hd hb
theorem arg_string (hB : Bulk bk) {n : Nat} {t : TypeId} {s : Sp} {v : Value} {d : DataW H} {p : List MemPlace} (ht : P.underlying t = some .string) (hsp : spOf P n t = some [s])
    (hval : Value.okWide P w r b0 t v) (hd : DataW.Trod enc P w 0 spare held t v d p) (hb : bk d ≤ N) : ∃ c, Fit N s c ∧ RdB M0 w v (.one c) := by
  obtain ⟨m, rfl⟩ := okWide_string ht hval
  exact arg_one hB rfl hsp hd hb
end

theorem trods_stay (hl : laidOutB P = true) {W W' : World} (hb : Below W.heap.size W W') {sp : Nat → Bool} : ∀ {ts : List TypeId} {vs : List Value} {ds : List (DataW H)} {ps : List MemPlace}, (∀ t ∈ ts, P.readableRec t = true ∧ t < P.types.size) →
    DataW.TrodAll enc P W 0 (fun _ => true) true ts vs ds ps → (∀ p ∈ ps, p.block < W.heap.size) → (∀ p ∈ ps, sp p.block = true) → DataW.TrodAll enc P W' 0 sp true ts vs ds ps
  | [], vs, ds, ps, _, h, _, _ => by
    obtain ⟨rfl, rfl, rfl⟩ := trodAll_nil h
    exact trodAll_mk0
  | t :: ts, vs, ds, ps, hts, h, hlt, hsp => by
    obtain ⟨v, vs', d, ds', p, q, rfl, rfl, rfl, ⟨fuel, h1⟩, h2⟩ := trodAll_cons h
    have ht := hts t (by simp)
    exact ⟨p, q, ⟨fuel, DataW.trod_stays (kids_book hl ht.1) (book_sized ht.1) (fun h => by cases h) ⟨ht.2, book_self t⟩ h1 (fun x hx => hb.same (hlt x (by simp [hx]))) (fun x hx => hsp x (by simp [hx]))⟩,
      trods_stay hl hb (fun u hu => hts u (by simp [hu])) h2 (fun x hx => hlt x (by simp [hx])) (fun x hx => hsp x (by simp [hx])), rfl⟩
theorem keptBut_below {W W' : World} {may : MemPlace → Prop} (hb : Below W.heap.size W W') : W.keptBut W' may := by
  refine ⟨hb.os, hb.output, fun i hi => ?_⟩
  rw [hb.block i hi]
  split
  · rename_i h1 h2
    rw [h1] at h2; cases h2
    exact ⟨rfl, rfl, rfl, fun _ _ => rfl⟩
  · rename_i h1 h2
    rw [h1] at h2; cases h2
    exact .inr ⟨rfl, rfl⟩
  · rfl
theorem frozen_below {W W' : World} (hb : Below W.heap.size W W') {a : Addr} (h : a.block < W.heap.size) : W'.frozen? a = W.frozen? a := by
  unfold World.frozen?
  rw [hb.block _ h]
theorem law_post (hl : laidOutB P = true) {f : Func} {s : ChangeSpec} {apart fresh handsOn again : Bool} {W W' : World} {args : Array Value} {ds gs : List (DataW H)} {before : List MemPlace} {tb : TypeId}
    (hts : ∀ t ∈ f.params.toList, P.readableRec t = true ∧ t < P.types.size) (hv : s.vars = []) (hrt : f.resultTypes = #[tb]) (htb : P.underlying tb = some .bool)
    (hfn : ∀ ds gs : List (DataW H), DataW.TrodAll enc P W 0 (fun _ => true) true f.params.toList args.toList ds before → gs = [] → (s.fn H (ds ++ gs)).results = [.lit (.bool true)] ∧ (s.fn H (ds ++ gs)).args = ds ∧ (s.fn H (ds ++ gs)).vars = [])
    (hW : DataW.Whole enc P f.params.toList s.vars apart W args.toList ds gs before) (hb : Below W.heap.size W W') : s.post enc P f apart fresh handsOn again W args (.bool true) W' := by
  have hlt : ∀ p ∈ before, p.block < W.heap.size := fun p hp => hW.lt p hp
  have hW' := hW
  obtain ⟨p, q, hA, hV, rfl, hfz, hnd⟩ := hW
  rw [hv] at hV
  obtain ⟨rfl, rfl⟩ := trodVars_none hV
  rw [List.append_nil] at hW' hlt hfz hnd hfn
  obtain ⟨e1, e2, e3⟩ := hfn ds [] hA rfl
  have hres : ∀ (b : Nat) (sp : Nat → Bool) (hd : Bool), DataW.TrodAll enc P W' b sp hd f.resultTypes.toList ((Value.bool true).resultList f.resultTypes.size) (s.fn H (ds ++ [])).results [] := fun b sp hd => by
    rw [e1, hrt]
    exact trodAll_cons_mk (shut_bool htb true) trodAll_mk0
  have hargs : ∀ sp : Nat → Bool, (∀ x ∈ p, sp x.block = true) → DataW.TrodAll enc P W' 0 sp true f.params.toList args.toList (s.fn H (ds ++ [])).args p := fun sp hsp => by
    rw [e2]
    exact trods_stay hl hb hts hA hlt hsp
  have hvars : ∀ sp : Nat → Bool, DataW.TrodVars enc P W' sp s.vars (s.fn H (ds ++ [])).vars [] := fun sp => by
    rw [e3, hv]; exact rfl
  refine ⟨ds, [], p, [], p, [], hW', hres _ _ _, hargs _ (fun x hx => by simpa using hlt x hx), hvars _, keptBut_below hb, fun _ => ⟨?_, _, _, ([] ++ p) ++ [], ⟨[] ++ p, [], trodAll_append (hargs _ (fun _ _ => rfl)) (hres _ _ _), hvars _, rfl, ?_, ?_⟩, ?_⟩⟩
  · exact ok_one hrt rfl (okWide_bool_mk htb true)
  · intro b off hp
    have hp' : MemPlace.cell b off ∈ p := by simpa using hp
    rw [frozen_below hb (hlt _ hp')]
    exact hfz b off hp'
  · intro ha
    simpa using hnd ha
  · intro x hx _
    simpa using hx
end Go.Slot
