/- Parts of the proofs of the statements of this seat: Sort1Tt, SortB, Sort2Tt, Sort3Tt, Sort4Tt, Sort5Tt, Sort6Tt, Sort7Tt, SpansD, TtOrderUnits, TtOrderD, AmCut, AmOwnQ, TtOrderW, AmMap, TtOrderW2, TtCoresMul, TtLocalW, TtLocalW2, TtLocalW3, TtLocalW4. No conditions. -/
import Derived.Test.YtaoebjknldmkiaaGreatDoorTopTwoPart5
import Derived.Test.YtaoebjknldmkiaaGreatDoorTopTwoPart3
import Derived.Sort.Walk13a
set_option linter.unusedVariables false
set_option linter.unusedSimpArgs false

/- Sorting a row at local_entry (Tt): insertion, reversal, the pivot. Printed out of SortT1.tmpl by sortgen.py. -/
set_option linter.unusedVariables false
set_option linter.unusedSimpArgs false
namespace Go.Am
open Go.Sort
variable {α : Type} [Inhabited α] {S : SortC R α 3} {m : Mem} {d : Array α}

theorem so_ins1 {a j : Nat} {vb vi : Value} (h : S.Row m d) (hj : j < S.n) (ha : a < 2000000) :
    WL R [0, 1, 2, 3, 8, 9] RB.slices_insertionSortCmpFunc_local_entry_1 [(0, S.sv), (1, .int .i64 a), (2, vb), (3, S.cv), (8, vi), (9, .int .i64 j)] m fun x e m' =>
      x = .exit 2 ∧ (∃ q, e = [(0, S.sv), (1, .int .i64 a), (2, vb), (3, S.cv), (8, vi), (9, q), (34, .bool false)]) ∧ S.Row m' (insInner S.lt a j d) := by
  have hn := S.small
  refine WL.of (fun r e m' => ∃ (k : Nat) (d' : Array α), k < S.n ∧ r = k ∧ e = [(0, S.sv), (1, .int .i64 a), (2, vb), (3, S.cv), (8, vi), (9, .int .i64 k)] ∧ S.Row m' d' ∧ insInner S.lt a k d' = insInner S.lt a j d) j
    ⟨j, d, hj, rfl, by simp only [go_sem] <;> rfl, h, rfl⟩ ?_
  rintro n _ m1 ⟨k, d', hk, hr, rfl, h1, he⟩
  simp only [RB.slices_insertionSortCmpFunc_local_entry_1, go_sem]
  refine gT.of (fun g1' => ?_) (fun g1' => ?_) <;> (have g1 := g1'; try simp only [decide_eq_true_eq, decide_eq_false_iff_not, beq_iff_eq, bne_iff_ne, beq_eq_false_iff_ne, ne_eq, Bool.not_eq_true', Bool.not_eq_false', bne_eq_false_iff_eq, Int.not_lt, Int.not_le] at g1)
  · obtain ⟨k, rfl⟩ : ∃ k', k = k' + 1 := ⟨k - 1, by omega⟩
    have hk0 : k < S.n := by omega
    have e1 := nsub1 (i := k + 1) (by omega) (by omega)
    simp only [Nat.add_sub_cancel] at e1
    simp only [go_sem, g1', e1, S.ix hk, S.ix hk0, h1.ld hk, h1.ld hk0]
    refine gC.of (S.cmp m1 d'[k + 1]! d'[k]!) ?_
    rintro _ m2 ⟨rfl, hx2⟩
    simp only [go_sem]
    have h2 := h1.keep hx2
    refine gT.of (fun g2' => ?_) (fun g2' => ?_) <;> (have g2 := g2'; try simp only [decide_eq_true_eq, decide_eq_false_iff_not, beq_iff_eq, bne_iff_ne, beq_eq_false_iff_ne, ne_eq, Bool.not_eq_true', Bool.not_eq_false', bne_eq_false_iff_eq, Int.not_lt, Int.not_le] at g2)
    · obtain ⟨n1, n2, t1, t2, h3⟩ := h2.sw hk hk0
      simp only [go_sem, g2', e1, S.ix hk, S.ix hk0, h2.ld hk, h2.ld hk0, t1, t2]
      refine ⟨k, by omega, k, _, hk0, rfl, rfl, h3, ?_⟩
      rw [← he]
      simp only [insInner, S.lt_t g2]
      rw [if_pos (by simp; omega)]
    · simp only [go_sem, g2']
      rw [← he]
      simp only [insInner, S.lt_f' g2, Bool.and_false, Bool.false_eq_true, if_false]
      exact ⟨⟨_, rfl⟩, h1.keep hx2⟩
  · simp only [go_sem, g1']
    rw [← he]
    cases k with
    | zero => exact ⟨⟨_, rfl⟩, by simpa [insInner] using h1⟩
    | succ k =>
      simp only [insInner]
      rw [if_neg (by simp; omega)]
      exact ⟨⟨_, rfl⟩, h1⟩

theorem so_ins {a b : Nat} (h : S.Row m d) (hb : b ≤ S.n) (ha : a ≤ b) : WC R F.slices_insertionSortCmpFunc_local_entry [S.sv, .int .i64 a, .int .i64 b, S.cv] m fun r m' => S.Row m' (insertionSort S.lt d a b) := by
  refine WC.of R.slices_insertionSortCmpFunc_local_entry rfl ?_
  have hn := S.small
  simp only [RC.slices_insertionSortCmpFunc_local_entry, go_sem, nadd1 (show a < 4000000 by omega)]
  refine WL.of (fun r e m' => ∃ (k : Nat) (d' : Array α), r = b - k ∧ k ≤ b + 1 ∧ e = [(0, S.sv), (1, .int .i64 a), (2, .int .i64 b), (3, S.cv), (8, .int .i64 k)] ∧ S.Row m' d' ∧ insOuter S.lt a b k d' = insertionSort S.lt d a b) (b - (a + 1))
    ⟨a + 1, d, rfl, by omega, by simp only [go_sem] <;> rfl, h, rfl⟩ ?_
  rintro _ _ m1 ⟨k, d', rfl, hk, rfl, h1, he⟩
  simp only [RB.slices_insertionSortCmpFunc_local_entry_2, go_sem]
  refine gT.of (fun g1' => ?_) (fun g1' => ?_) <;> (have g1 := g1'; try simp only [decide_eq_true_eq, decide_eq_false_iff_not, beq_iff_eq, bne_iff_ne, beq_eq_false_iff_ne, ne_eq, Bool.not_eq_true', Bool.not_eq_false', bne_eq_false_iff_eq, Int.not_lt, Int.not_le] at g1)
  · simp only [go_sem, g1']
    refine WL.mono (so_ins1 h1 (show k < S.n by omega) (by omega)) ?_
    rintro _ _ m2 ⟨rfl, ⟨q, rfl⟩, h2⟩
    simp only [go_sem, nadd1 (show k < 4000000 by omega)]
    refine ⟨b - (k + 1), by omega, k + 1, _, rfl, by omega, rfl, h2, ?_⟩
    rw [← he]
    conv => rhs; rw [insOuter, if_pos (by omega)]
  · simp only [go_sem, g1']
    rw [← he, insOuter, if_neg (by omega)]
    exact h1

theorem so_rev {a b : Nat} {cv : Value} (h : S.Row m d) (hb : b ≤ S.n) (ha : a < b) : WC R F.slices_reverseRangeCmpFunc_local_entry [S.sv, .int .i64 a, .int .i64 b, cv] m fun r m' => S.Row m' (reverseRange d a b) := by
  refine WC.of R.slices_reverseRangeCmpFunc_local_entry rfl ?_
  have hn := S.small
  simp only [RC.slices_reverseRangeCmpFunc_local_entry, go_sem, nsub1 (show 0 < b by omega) (show b < 4000000 by omega)]
  refine WL.of (fun r e m' => ∃ (i j : Nat) (d' : Array α), r = j - i ∧ i < S.n ∧ j < S.n ∧ e = [(0, S.sv), (8, .int .i64 i), (9, .int .i64 j)] ∧ S.Row m' d' ∧ reverseLoop i j d' = reverseRange d a b) (b - 1 - a)
    ⟨a, b - 1, d, rfl, by omega, by omega, by simp only [go_sem] <;> rfl, h, rfl⟩ ?_
  rintro _ _ m1 ⟨i, j, d', rfl, hi, hj, rfl, h1, he⟩
  simp only [RB.slices_reverseRangeCmpFunc_local_entry_1, go_sem]
  refine gT.of (fun g1' => ?_) (fun g1' => ?_) <;> (have g1 := g1'; try simp only [decide_eq_true_eq, decide_eq_false_iff_not, beq_iff_eq, bne_iff_ne, beq_eq_false_iff_ne, ne_eq, Bool.not_eq_true', Bool.not_eq_false', bne_eq_false_iff_eq, Int.not_lt, Int.not_le] at g1)
  · obtain ⟨n1, n2, t1, t2, h3⟩ := h1.sw hi hj
    simp only [go_sem, g1', S.ix hi, S.ix hj, h1.ld hi, h1.ld hj, t1, t2, nadd1 (show i < 4000000 by omega), nsub1 (show 0 < j by omega) (show j < 4000000 by omega)]
    refine ⟨j - 1 - (i + 1), by omega, i + 1, j - 1, _, rfl, by omega, by omega, rfl, h3, ?_⟩
    rw [← he]
    conv => rhs; rw [reverseLoop, if_pos (by omega)]
  · simp only [go_sem, g1']
    rw [← he, reverseLoop, if_neg (by omega)]
    exact h1

/-- A counter in a block of its own. -/
structure so_Cnt (m : Mem) (q s : Nat) : Prop where
  at_ : m.blk q = some (.cells [.int .i64 s] (some 1))
  lt : q < m.next
theorem so_Cnt.keep {m m' : Mem} {q s : Nat} (h : so_Cnt m q s) (hx : Ext m m') : so_Cnt m' q s := ⟨by rw [hx.same _ h.lt]; exact h.at_, Nat.lt_of_lt_of_le h.lt hx.next⟩

theorem SortC.Row.so_other {m' : Mem} {q : Nat} (h : S.Row m d) (hx : Upd m m' [q]) (hq : S.b ≠ q) (h0 : S.m0.next ≤ q) : S.Row m' d :=
  ⟨by rw [hx.same _ h.lt (by simpa using hq)]; exact h.at_, Nat.lt_of_lt_of_le h.lt hx.next, h.size, h.upd.trans hx (fun _ h => h) (fun x hx => by simp at hx; subst hx; exact .inr h0)⟩

theorem so_order2 {a b s q : Nat} (h : S.Row m d) (hc : so_Cnt m q s) (hq : S.b ≠ q) (h0 : S.m0.next ≤ q) (ha : a < S.n) (hb : b < S.n) (hs : s < 1000) : WC R F.slices_order2CmpFunc_local_entry [S.sv, .int .i64 a, .int .i64 b, .pointer (some ⟨q, 0, none⟩), S.cv] m fun r m' =>
    r = .tuple #[.int .i64 (order2 S.lt d a b s).1, .int .i64 (order2 S.lt d a b s).2.1] ∧ S.Row m' d ∧ so_Cnt m' q (order2 S.lt d a b s).2.2 := by
  refine WC.of R.slices_order2CmpFunc_local_entry rfl ?_
  have hn := S.small
  simp only [RC.slices_order2CmpFunc_local_entry, go_sem, S.ix ha, S.ix hb, h.ld ha, h.ld hb]
  refine gC.of (S.cmp m d[b]! d[a]!) ?_
  rintro _ m2 ⟨rfl, hx2⟩
  simp only [go_sem]
  have h2 := h.keep hx2
  have hc2 := hc.keep hx2
  refine gT.of (fun g' => ?_) (fun g' => ?_) <;> (have g := g'; try simp only [decide_eq_true_eq, decide_eq_false_iff_not, beq_iff_eq, bne_iff_ne, beq_eq_false_iff_ne, ne_eq, Bool.not_eq_true', Bool.not_eq_false', bne_eq_false_iff_eq, Int.not_lt, Int.not_le] at g)
  · have ho : order2 S.lt d a b s = (b, a, s + 1) := by simp [order2, S.lt_t g]
    rw [ho]
    simp only [go_sem, ruB, g', hc2.at_, nadd1 (show s < 4000000 by omega)]
    have hu : Upd m2 (m2.set q (some (.cells [.int .i64 ((s + 1 : Nat) : Int)] (some 1)))) [q] := Upd.set (by simp)
    exact ⟨h2.so_other hu hq h0, ⟨by simp [Mem.set], hc2.lt⟩⟩
  · have ho : order2 S.lt d a b s = (a, b, s) := by simp [order2, S.lt_f' g]
    rw [ho]
    simp only [go_sem, ruB, g']
    exact ⟨h2, hc2⟩

theorem so_order2_lt {a b s : Nat} (ha : a < S.n) (hb : b < S.n) : (order2 S.lt d a b s).1 < S.n ∧ (order2 S.lt d a b s).2.1 < S.n ∧ (order2 S.lt d a b s).2.2 ≤ s + 1 := by
  unfold order2; split <;> simp <;> omega

theorem so_median {a b c s q : Nat} (h : S.Row m d) (hc : so_Cnt m q s) (hq : S.b ≠ q) (h0 : S.m0.next ≤ q) (ha : a < S.n) (hb : b < S.n) (hcc : c < S.n) (hs : s < 100) : WC R F.slices_medianCmpFunc_local_entry [S.sv, .int .i64 a, .int .i64 b, .int .i64 c, .pointer (some ⟨q, 0, none⟩), S.cv] m fun r m' =>
    r = .int .i64 (median S.lt d a b c s).1 ∧ S.Row m' d ∧ so_Cnt m' q (median S.lt d a b c s).2 ∧ (median S.lt d a b c s).1 < S.n ∧ (median S.lt d a b c s).2 ≤ s + 3 := by
  refine WC.of R.slices_medianCmpFunc_local_entry rfl ?_
  simp only [RC.slices_medianCmpFunc_local_entry, go_sem]
  obtain ⟨l1, l2, l3⟩ := so_order2_lt (S := S) (d := d) (s := s) ha hb
  refine gC.of (so_order2 h hc hq h0 ha hb (by omega)) ?_
  rintro _ m1 ⟨rfl, h1, hc1⟩
  obtain ⟨p1, p2, p3⟩ := so_order2_lt (S := S) (d := d) (s := (order2 S.lt d a b s).2.2) l2 hcc
  simp only [go_sem, aExt0, aExt1]
  refine gC.of (so_order2 h1 hc1 hq h0 l2 hcc (by omega)) ?_
  rintro _ m2 ⟨rfl, h2, hc2⟩
  obtain ⟨q1, q2, q3⟩ := so_order2_lt (S := S) (d := d) (s := (order2 S.lt d (order2 S.lt d a b s).2.1 c (order2 S.lt d a b s).2.2).2.2) l1 p1
  simp only [go_sem, aExt0, aExt1]
  refine gC.of (so_order2 h2 hc2 hq h0 l1 p1 (by omega)) ?_
  rintro _ m3 ⟨rfl, h3, hc3⟩
  simp only [go_sem, aExt0, aExt1]
  refine ⟨rfl, h3, hc3, q2, ?_⟩
  show _ ≤ _
  unfold median
  simp only
  omega

theorem so_medianAdj {a s q : Nat} (h : S.Row m d) (hc : so_Cnt m q s) (hq : S.b ≠ q) (h0 : S.m0.next ≤ q) (ha : 0 < a) (hb : a + 1 < S.n) (hs : s < 100) : WC R F.slices_medianAdjacentCmpFunc_local_entry [S.sv, .int .i64 a, .pointer (some ⟨q, 0, none⟩), S.cv] m fun r m' =>
    r = .int .i64 (medianAdjacent S.lt d a s).1 ∧ S.Row m' d ∧ so_Cnt m' q (medianAdjacent S.lt d a s).2 ∧ (medianAdjacent S.lt d a s).1 < S.n ∧ (medianAdjacent S.lt d a s).2 ≤ s + 3 := by
  refine WC.of R.slices_medianAdjacentCmpFunc_local_entry rfl ?_
  have hn := S.small
  simp only [RC.slices_medianAdjacentCmpFunc_local_entry, go_sem, nadd1 (show a < 4000000 by omega), nsub1 (show 0 < a by omega) (show a < 4000000 by omega)]
  refine gC.of (so_median h hc hq h0 (show a - 1 < S.n by omega) (show a < S.n by omega) hb hs) ?_
  rintro _ m1 ⟨rfl, h1, hc1, h2, h3⟩
  simp only [go_sem]
  exact ⟨rfl, h1, hc1, h2, h3⟩
end Go.Am


/- Numbers of a sort. -/
set_option linter.unusedVariables false
namespace Go.Am
open Go.Sort

def hintN : Hint → Int
  | .unknown => 0
  | .increasing => 1
  | .decreasing => 2

theorem nq (k : Nat) (hk : 0 < k) {l : Nat} (h : l < 4000000) : IntKind.wrap .i64 ((l : Int).tdiv (k : Nat)) = ((l / k : Nat) : Int) := by
  have e : (l : Int).tdiv (k : Nat) = ((l / k : Nat) : Int) := by
    rw [Int.tdiv_eq_ediv_of_nonneg (by omega)]; simp
  have : l / k ≤ l := Nat.div_le_self _ _
  rw [e]
  generalize l / k = q at this ⊢
  rw [wrap_i64 (by omega) (by omega)]
theorem nq2 {l : Nat} (h : l < 4000000) : IntKind.wrap .i64 ((l : Int).tdiv 2) = ((l / 2 : Nat) : Int) := nq 2 (by omega) h
theorem nq4 {l : Nat} (h : l < 4000000) : IntKind.wrap .i64 ((l : Int).tdiv 4) = ((l / 4 : Nat) : Int) := nq 4 (by omega) h
theorem nq8 {l : Nat} (h : l < 4000000) : IntKind.wrap .i64 ((l : Int).tdiv 8) = ((l / 8 : Nat) : Int) := nq 8 (by omega) h
theorem nm (k : Nat) {l : Nat} (h : l * k < 4000000) : IntKind.wrap .i64 ((l : Int) * (k : Nat)) = ((l * k : Nat) : Int) := by
  have e : (l : Int) * (k : Nat) = ((l * k : Nat) : Int) := by simp
  rw [e]
  generalize l * k = q at h ⊢
  rw [wrap_i64 (by omega) (by omega)]
theorem nm1 {l : Nat} (h : l < 1000000) : IntKind.wrap .i64 ((l : Int) * 1) = ((l * 1 : Nat) : Int) := nm 1 (by omega)
theorem nm2 {l : Nat} (h : l < 1000000) : IntKind.wrap .i64 ((l : Int) * 2) = ((l * 2 : Nat) : Int) := nm 2 (by omega)
theorem nm3 {l : Nat} (h : l < 1000000) : IntKind.wrap .i64 ((l : Int) * 3) = ((l * 3 : Nat) : Int) := nm 3 (by omega)
theorem nmm2 {l : Nat} (h : l < 1000000) : IntKind.wrap .i64 (2 * (l : Int)) = ((2 * l : Nat) : Int) := by
  have e : 2 * (l : Int) = ((2 * l : Nat) : Int) := by simp
  rw [e, wrap_i64 (by omega) (by omega)]

theorem aStore_next {sz : Nat} {m m' : Mem} {p v : Value} (h : aStore sz m p v = some m') : m'.next = m.next := by
  unfold aStore at h
  split at h
  · split at h
    · exact (aWrite_upd h).2
    · cases h
  · cases h
theorem aStore_keep {sz b o : Nat} {m m' : Mem} {v : Value} (h : aStore sz m (.pointer (some ⟨b, o, none⟩)) v = some m') : ∀ k, k ≠ b → m'.blk k = m.blk k := by
  intro k hk
  simp only [aStore] at h
  split at h
  · unfold aWrite at h
    split at h
    · split at h
      · cases h; simp [Mem.set, hk]
      · cases h
    · cases h
  · cases h
theorem partLoop_le {R : Nat → Option FEnt} {α : Type} [Inhabited α] {u : Nat} {S : SortC R α u} {a : Nat} : ∀ (n i j : Nat) (d : Array α), j + 1 - i ≤ n → (partLoop S.lt a i j d).1 ≤ j := by
  intro n
  induction n with
  | zero =>
    intro i j d hn
    rw [partLoop_eq]
    have w1 := scanDown_le (fun x => !S.lt x d[a]!) d (scanUp (fun x => S.lt x d[a]!) d j i) j
    have u1 := scanUp_ge (fun x => S.lt x d[a]!) d j i
    split
    · exact w1
    · omega
  | succ n ih =>
    intro i j d hn
    rw [partLoop_eq]
    have w1 := scanDown_le (fun x => !S.lt x d[a]!) d (scanUp (fun x => S.lt x d[a]!) d j i) j
    have u1 := scanUp_ge (fun x => S.lt x d[a]!) d j i
    split
    · exact w1
    · refine Nat.le_trans (ih _ _ _ (by omega)) (by omega)
theorem ne_of_scans {R : Nat → Option FEnt} {α : Type} [Inhabited α] {p q : α → Bool} {d : Array α} {i j : Nat} (hpq : ∀ x, q x = !p x) (h1 : 1 ≤ i) (hij : i ≤ j + 1) : scanUp p d j i ≠ scanDown q d (scanUp p d j i) j := by
  intro e
  have u1 := scanUp_spec p d j _ i rfl
  have w1 := scanDown_spec q d (scanUp p d j i) j
  rw [← e] at w1
  have a1 := u1.2.2.2 w1.1
  have a2 := w1.2.2.2 (Nat.le_refl _) (by omega)
  rw [hpq, a1] at a2
  simp at a2

section
variable {α : Type} [Inhabited α] {lt : α → α → Bool} {a : Nat}
theorem partLoop_rng : ∀ (n i j : Nat) (d : Array α), j + 1 - i ≤ n → 1 ≤ i → i ≤ j + 1 → i - 1 ≤ (partLoop lt a i j d).1 ∧ (partLoop lt a i j d).1 ≤ j := by
  intro n
  induction n with
  | zero =>
    intro i j d hn h1 h2
    rw [partLoop_eq]
    have w1 := scanDown_le (fun x => !lt x d[a]!) d (scanUp (fun x => lt x d[a]!) d j i) j
    have u1 := scanUp_ge (fun x => lt x d[a]!) d j i
    have u2 := (scanUp_spec (fun x => lt x d[a]!) d j _ i rfl).2.1 h2
    have w2 := (scanDown_spec (fun x => !lt x d[a]!) d (scanUp (fun x => lt x d[a]!) d j i) j).2.1 u2
    split
    · simp only; omega
    · omega
  | succ n ih =>
    intro i j d hn h1 h2
    rw [partLoop_eq]
    have w1 := scanDown_le (fun x => !lt x d[a]!) d (scanUp (fun x => lt x d[a]!) d j i) j
    have u1 := scanUp_ge (fun x => lt x d[a]!) d j i
    have u2 := (scanUp_spec (fun x => lt x d[a]!) d j _ i rfl).2.1 h2
    have w2 := (scanDown_spec (fun x => !lt x d[a]!) d (scanUp (fun x => lt x d[a]!) d j i) j).2.1 u2
    have hne := ne_of_scans (R := fun _ => none) (d := d) (p := fun x => lt x d[a]!) (q := fun x => !lt x d[a]!) (fun x => rfl) h1 h2
    split
    · simp only; omega
    · have := ih (scanUp (fun x => lt x d[a]!) d j i + 1) (scanDown (fun x => !lt x d[a]!) d (scanUp (fun x => lt x d[a]!) d j i) j - 1) (swp d (scanUp (fun x => lt x d[a]!) d j i) (scanDown (fun x => !lt x d[a]!) d (scanUp (fun x => lt x d[a]!) d j i) j)) (by omega) (by omega) (by omega)
      omega
theorem partEqLoop_rng : ∀ (n i j : Nat) (d : Array α), j + 1 - i ≤ n → 1 ≤ i → i ≤ j + 1 → i ≤ (partEqLoop lt a i j d).1 ∧ (partEqLoop lt a i j d).1 ≤ j + 1 := by
  intro n
  induction n with
  | zero =>
    intro i j d hn h1 h2
    rw [partEqLoop_eq]
    have w1 := scanDown_le (fun x => lt d[a]! x) d (scanUp (fun x => !lt d[a]! x) d j i) j
    have u1 := scanUp_ge (fun x => !lt d[a]! x) d j i
    have u2 := (scanUp_spec (fun x => !lt d[a]! x) d j _ i rfl).2.1 h2
    split
    · simp only; omega
    · omega
  | succ n ih =>
    intro i j d hn h1 h2
    rw [partEqLoop_eq]
    have w1 := scanDown_le (fun x => lt d[a]! x) d (scanUp (fun x => !lt d[a]! x) d j i) j
    have u1 := scanUp_ge (fun x => !lt d[a]! x) d j i
    have u2 := (scanUp_spec (fun x => !lt d[a]! x) d j _ i rfl).2.1 h2
    have hne := ne_of_scans (R := fun _ => none) (d := d) (p := fun x => !lt d[a]! x) (q := fun x => lt d[a]! x) (fun x => by simp) h1 h2
    split
    · simp only; omega
    · have := ih (scanUp (fun x => !lt d[a]! x) d j i + 1) (scanDown (fun x => lt d[a]! x) d (scanUp (fun x => !lt d[a]! x) d j i) j - 1) (swp d (scanUp (fun x => !lt d[a]! x) d j i) (scanDown (fun x => lt d[a]! x) d (scanUp (fun x => !lt d[a]! x) d j i) j)) (by omega) (by omega) (by omega)
      omega
theorem part_rng {d : Array α} {b p : Nat} (h : a < b) : a ≤ (partition lt d a b p).1 ∧ (partition lt d a b p).1 < b := by
  rw [partition_fst]
  have := partLoop_rng (lt := lt) (a := a) _ (a + 1) (b - 1) (swp d a p) (Nat.le_refl _) (by omega) (by omega)
  omega
theorem parte_rng {d : Array α} {b p : Nat} (h : a < b) : a < (partitionEqual lt d a b p).1 ∧ (partitionEqual lt d a b p).1 ≤ b := by
  unfold partitionEqual
  have := partEqLoop_rng (lt := lt) (a := a) _ (a + 1) (b - 1) (swp d a p) (Nat.le_refl _) (by omega) (by omega)
  omega
end

/-! ### bits.Len -/
theorem bitsLen_shr {n k : Nat} (h : 2 ^ k ≤ n) : bitsLen n = bitsLen (n / 2 ^ k) + k := by
  have hq : 0 < n / 2 ^ k := Nat.div_pos h (Nat.two_pow_pos k)
  have h1 := lt_two_pow_bitsLen (n / 2 ^ k)
  have h2 : bitsLen n ≤ bitsLen (n / 2 ^ k) + k := by
    rw [bitsLen_le_iff, Nat.pow_add]
    exact (Nat.div_lt_iff_lt_mul (Nat.two_pow_pos k)).1 h1
  have h3 : bitsLen (n / 2 ^ k) + k ≤ bitsLen n := by
    have a1 := lt_two_pow_bitsLen n
    have hk : k ≤ bitsLen n := by
      apply Classical.byContradiction
      intro hc
      have : n < 2 ^ k := Nat.lt_of_lt_of_le a1 (Nat.pow_le_pow_right (by omega) (by omega))
      omega
    have : bitsLen (n / 2 ^ k) ≤ bitsLen n - k := by
      rw [bitsLen_le_iff, Nat.div_lt_iff_lt_mul (Nat.two_pow_pos k), ← Nat.pow_add, Nat.sub_add_cancel hk]
      exact a1
    omega
  omega

theorem lenTab_size : lenTab.size = 256 := by decide +kernel
set_option maxRecDepth 20000 in
theorem lenTab_get : ∀ i : _root_.Fin 256, (lenTab.data[i.val]?.map (·.toNat)) = some (bitsLen i.val) := by decide +kernel
theorem len8 {i : Nat} (h : i < 256) : aIdxStr (.string lenTab) (.int .u8 (i : Nat)) = some (.int .u8 (bitsLen i : Nat)) := by
  simp only [aIdxStr]
  have hs := lenTab_size
  rw [dif_pos ⟨by omega, by rw [Int.toNat_natCast]; omega⟩]
  have g := lenTab_get ⟨i, h⟩
  simp only at g
  rw [Array.getElem?_eq_getElem (by show i < lenTab.size; omega)] at g
  simp only [Option.map_some, Option.some.injEq] at g
  rw [← g]
  rfl
theorem bitsLen8 {i : Nat} (h : i < 256) : bitsLen i ≤ 8 := (bitsLen_le_iff i 8).2 (by omega)
theorem conv_u8 {x : BitVec 64} : aConv .u8 (u64 x) = some (.int .u8 (IntKind.wrap .u8 x.toNat)) := (rfl)
theorem wrap_u8 {n : Nat} (h : n < 256) : IntKind.wrap .u8 (n : Int) = n := by
  simp only [IntKind.wrap, IntKind.bits, IntKind.signed, Bool.false_and, Bool.false_eq_true, if_false]; omega
theorem conv_i64_u8 {a : Int} : aConv .i64 (.int .u8 a) = some (.int .i64 (IntKind.wrap .i64 a)) := (rfl)

/-! ### the generator -/
theorem xor_bv (r : UInt64) : (xorNext r).toBitVec = (r.toBitVec ^^^ r.toBitVec <<< 13) ^^^ (r.toBitVec ^^^ r.toBitVec <<< 13) >>> 7 ^^^ ((r.toBitVec ^^^ r.toBitVec <<< 13) ^^^ (r.toBitVec ^^^ r.toBitVec <<< 13) >>> 7) <<< 17 := by
  unfold xorNext
  simp only [UInt64.toBitVec_xor, UInt64.toBitVec_shiftLeft, UInt64.toBitVec_shiftRight]
  rfl

/-- So many rounds are left. -/
def bpN {α : Type} [Inhabited α] (a length modulus : Nat) : Nat → UInt64 → Array α → Nat → Array α
  | 0, _, d, _ => d
  | k + 1, r, d, idx => bpN a length modulus k (breakStep a length modulus (r, d) idx).1 (breakStep a length modulus (r, d) idx).2 (idx + 1)
theorem bpN_eq {α : Type} [Inhabited α] {d : Array α} {a b : Nat} (h : b - a ≥ 8) : breakPatterns d a b = bpN a (b - a) (1 <<< bitsLen (b - a)) 3 (UInt64.ofNat (b - a)) d (a + (b - a) / 4 * 2 - 1) := by
  unfold breakPatterns
  simp only
  rw [if_pos h]
  rfl

/-- Two ways that come together again. -/
theorem gT_mid {R : Nat → Option FEnt} {b : Bool} {A B : RCode} {e : Env} {m : Mem} {Q : Ex → Env → Mem → Prop} {K : Env → Mem → Prop} (P : Env → Mem → Prop)
    (h1 : b = true → gp R A e m (gN Q P ph ph)) (h2 : b = false → gp R B e m (gN Q P ph ph)) (h3 : ∀ e' m', P e' m' → K e' m') : gT b (gp R A e m (gN Q K ph ph)) (gp R B e m (gN Q K ph ph)) :=
  ⟨fun h => wp.mono (fun x e' m' hx => onNormal.mono (fun _ _ _ h => h) h3 hx) (h1 h), fun h => wp.mono (fun x e' m' hx => onNormal.mono (fun _ _ _ h => h) h3 hx) (h2 h)⟩
theorem gp_seq_mid {R : Nat → Option FEnt} {A B : RCode} {e : Env} {m : Mem} {Q : Ex → Env → Mem → Prop} (P : Env → Mem → Prop)
    (h1 : gp R A e m (gN Q P ph ph)) (h3 : ∀ e' m', P e' m' → gp R B e' m' Q) : gp R (.seq A B) e m Q := by
  show wp R A e m (onNormal Q fun e' m' => wp R B e' m' Q)
  exact wp.mono (fun x e' m' hx => onNormal.mono (fun _ _ _ h => h) h3 hx) h1
end Go.Am


/- Sorting a row at local_entry (Tt): the pivot is chosen; by a heap. Printed out of SortT2.tmpl by sortgen.py. -/
set_option linter.unusedVariables false
set_option linter.unusedSimpArgs false
namespace Go.Am
open Go.Sort
variable {α : Type} [Inhabited α] {S : SortC R α 3} {m : Mem} {d : Array α}

theorem so_choose {a b : Nat} (h : S.Row m d) (hb : b ≤ S.n) (ha : a < b) (hm : S.m0.next ≤ m.next) : WC R F.slices_choosePivotCmpFunc_local_entry [S.sv, .int .i64 a, .int .i64 b, S.cv] m fun r m' =>
    r = .tuple #[.int .i64 (choosePivot S.lt d a b).1, .int .i64 (hintN (choosePivot S.lt d a b).2)] ∧ S.Row m' d := by
  refine WC.of R.slices_choosePivotCmpFunc_local_entry rfl ?_
  have hn := S.small
  have i1 : (b - a) / 4 ≤ b - a := Nat.div_le_self _ _
  simp only [RC.slices_choosePivotCmpFunc_local_entry, go_sem, nsub (show a ≤ b by omega) (show b < 4000000 by omega), nq4 (show b - a < 4000000 by omega), nm1 (show (b - a) / 4 < 1000000 by omega), nm2 (show (b - a) / 4 < 1000000 by omega), nm3 (show (b - a) / 4 < 1000000 by omega),
    nadd (show a + (b - a) / 4 < 4000000 by omega), nadd (show a + (b - a) / 4 * 2 < 4000000 by omega), nadd (show a + (b - a) / 4 * 3 < 4000000 by omega)]
  have hx1 : Ext m (m.new (.cells [.int .i64 0] (some 1))) := Ext.new
  have hc : so_Cnt (m.new (.cells [.int .i64 0] (some 1))) m.next 0 := ⟨by simp [Mem.new], by simp [Mem.new]⟩
  have hq : S.b ≠ m.next := by have := h.lt; omega
  generalize m.new (.cells [.int .i64 0] (some 1)) = m1 at hx1 hc ⊢
  have h1 := h.keep hx1
  have fin : ∀ (m2 : Mem) (j s : Nat), S.Row m2 d → so_Cnt m2 m.next s → s ≤ 12 → choosePivot S.lt d a b = (j, if s = 0 then .increasing else if s = 12 then .decreasing else .unknown) →
      ∀ (K : Value → Mem → Prop), (∀ r m', r = .tuple #[.int .i64 (choosePivot S.lt d a b).1, .int .i64 (hintN (choosePivot S.lt d a b).2)] ∧ S.Row m' d → K r m') →
      (s = 0 → K (.tuple #[.int .i64 j, .int .i64 1]) m2) ∧ (s = 12 → K (.tuple #[.int .i64 j, .int .i64 2]) m2) ∧ (s ≠ 0 → s ≠ 12 → K (.tuple #[.int .i64 j, .int .i64 0]) m2) := by
    intro m2 j s hr hcn hs he K hK
    refine ⟨fun e => hK _ _ ⟨?_, hr⟩, fun e => hK _ _ ⟨?_, hr⟩, fun e e2 => hK _ _ ⟨?_, hr⟩⟩
    · rw [he, if_pos e]; rfl
    · rw [he, if_neg (by omega), if_pos e]; rfl
    · rw [he, if_neg e, if_neg e2]; rfl
  refine ⟨by omega, by omega, by omega, ?_⟩
  refine gT.of (fun g1' => ?_) (fun g1' => ?_) <;> (have g1 := g1'; try simp only [decide_eq_true_eq, decide_eq_false_iff_not, beq_iff_eq, bne_iff_ne, beq_eq_false_iff_ne, ne_eq, Bool.not_eq_true', Bool.not_eq_false', bne_eq_false_iff_eq, Int.not_lt, Int.not_le] at g1)
  · simp only [go_sem, g1']
    refine gT.of (fun g2' => ?_) (fun g2' => ?_) <;> (have g2 := g2'; try simp only [decide_eq_true_eq, decide_eq_false_iff_not, beq_iff_eq, bne_iff_ne, beq_eq_false_iff_ne, ne_eq, Bool.not_eq_true', Bool.not_eq_false', bne_eq_false_iff_eq, Int.not_lt, Int.not_le] at g2)
    · simp only [go_sem, g2']
      refine gC.of (so_medianAdj h1 hc hq hm (show 0 < a + (b - a) / 4 by omega) (show a + (b - a) / 4 + 1 < S.n by omega) (by omega)) ?_
      rintro _ m2 ⟨rfl, h2, hc2, p1, p2⟩
      generalize hA : medianAdjacent S.lt d (a + (b - a) / 4) 0 = A at hc2 p1 p2 ⊢
      simp only [go_sem]
      refine gC.of (so_medianAdj h2 hc2 hq hm (show 0 < a + (b - a) / 4 * 2 by omega) (show a + (b - a) / 4 * 2 + 1 < S.n by omega) (by omega)) ?_
      rintro _ m3 ⟨rfl, h3, hc3, p3, p4⟩
      generalize hB : medianAdjacent S.lt d (a + (b - a) / 4 * 2) A.2 = B at hc3 p3 p4 ⊢
      simp only [go_sem]
      refine gC.of (so_medianAdj h3 hc3 hq hm (show 0 < a + (b - a) / 4 * 3 by omega) (show a + (b - a) / 4 * 3 + 1 < S.n by omega) (by omega)) ?_
      rintro _ m4 ⟨rfl, h4, hc4, p5, p6⟩
      generalize hC : medianAdjacent S.lt d (a + (b - a) / 4 * 3) B.2 = C at hc4 p5 p6 ⊢
      simp only [go_sem]
      refine gC.of (so_median h4 hc4 hq hm p1 p3 p5 (by omega)) ?_
      rintro _ m5 ⟨rfl, h5, hc5, p7, p8⟩
      generalize hM : median S.lt d A.1 B.1 C.1 C.2 = M at hc5 p7 p8 ⊢
      have he : choosePivot S.lt d a b = (M.1, if M.2 = 0 then .increasing else if M.2 = 12 then .decreasing else .unknown) := by
        unfold choosePivot
        simp only [Nat.mul_one, hA, hB, hC, hM]
        rw [if_pos (show b - a ≥ 8 by omega), if_pos (show b - a ≥ 50 by omega)]
      obtain ⟨k1, k2, k3⟩ := fin m5 _ _ h5 hc5 (by omega) he _ (fun r m' h => h)
      simp only [go_sem, ruB, hc5.at_]
      refine gT.of (fun g3' => ?_) (fun g3' => ?_) <;> (have g3 := g3'; try simp only [decide_eq_true_eq, decide_eq_false_iff_not, beq_iff_eq, bne_iff_ne, beq_eq_false_iff_ne, ne_eq, Bool.not_eq_true', Bool.not_eq_false', bne_eq_false_iff_eq, Int.not_lt, Int.not_le] at g3)
      · simp only [go_sem, g3']
        exact k1 (by omega)
      · simp only [go_sem, g3']
        refine gT.of (fun g4' => ?_) (fun g4' => ?_) <;> (have g4 := g4'; try simp only [decide_eq_true_eq, decide_eq_false_iff_not, beq_iff_eq, bne_iff_ne, beq_eq_false_iff_ne, ne_eq, Bool.not_eq_true', Bool.not_eq_false', bne_eq_false_iff_eq, Int.not_lt, Int.not_le] at g4)
        · simp only [go_sem, g4']
          exact k2 (by omega)
        · simp only [go_sem, g4']
          exact k3 (by omega) (by omega)
    · simp only [go_sem, g2']
      refine gC.of (so_median h1 hc hq hm (show a + (b - a) / 4 < S.n by omega) (show a + (b - a) / 4 * 2 < S.n by omega) (show a + (b - a) / 4 * 3 < S.n by omega) (by omega)) ?_
      rintro _ m5 ⟨rfl, h5, hc5, p7, p8⟩
      generalize hM : median S.lt d (a + (b - a) / 4) (a + (b - a) / 4 * 2) (a + (b - a) / 4 * 3) 0 = M at hc5 p7 p8 ⊢
      have he : choosePivot S.lt d a b = (M.1, if M.2 = 0 then .increasing else if M.2 = 12 then .decreasing else .unknown) := by
        unfold choosePivot
        simp only [Nat.mul_one, hM]
        rw [if_pos (show b - a ≥ 8 by omega), if_neg (show ¬ b - a ≥ 50 by omega)]
      obtain ⟨k1, k2, k3⟩ := fin m5 _ _ h5 hc5 (by omega) he _ (fun r m' h => h)
      simp only [go_sem, ruB, hc5.at_]
      refine gT.of (fun g3' => ?_) (fun g3' => ?_) <;> (have g3 := g3'; try simp only [decide_eq_true_eq, decide_eq_false_iff_not, beq_iff_eq, bne_iff_ne, beq_eq_false_iff_ne, ne_eq, Bool.not_eq_true', Bool.not_eq_false', bne_eq_false_iff_eq, Int.not_lt, Int.not_le] at g3)
      · simp only [go_sem, g3']
        exact k1 (by omega)
      · simp only [go_sem, g3']
        refine gT.of (fun g4' => ?_) (fun g4' => ?_) <;> (have g4 := g4'; try simp only [decide_eq_true_eq, decide_eq_false_iff_not, beq_iff_eq, bne_iff_ne, beq_eq_false_iff_ne, ne_eq, Bool.not_eq_true', Bool.not_eq_false', bne_eq_false_iff_eq, Int.not_lt, Int.not_le] at g4)
        · simp only [go_sem, g4']
          exact k2 (by omega)
        · simp only [go_sem, g4']
          exact k3 (by omega) (by omega)
  · have he : choosePivot S.lt d a b = (a + (b - a) / 4 * 2, .increasing) := by
      unfold choosePivot
      simp only
      rw [if_neg (show ¬ b - a ≥ 8 by omega)]
      rfl
    obtain ⟨k1, k2, k3⟩ := fin m1 _ 0 h1 hc (by omega) he _ (fun r m' h => h)
    simp only [go_sem, ruB, g1', hc.at_]
    exact k1 rfl

theorem so_sift {lo hi first : Nat} (h : S.Row m d) (hb : first + hi ≤ S.n) (hl : lo < 1000000) : WC R F.slices_siftDownCmpFunc_local_entry [S.sv, .int .i64 lo, .int .i64 hi, .int .i64 first, S.cv] m fun r m' => S.Row m' (siftDown S.lt hi first lo d) ∧ m.next ≤ m'.next := by
  refine WC.of R.slices_siftDownCmpFunc_local_entry rfl ?_
  have hn := S.small
  simp only [RC.slices_siftDownCmpFunc_local_entry, go_sem]
  refine WL.of (fun r e m' => ∃ (k : Nat) (d' : Array α), r = hi - k ∧ k < 1000000 ∧ e = [(0, S.sv), (2, .int .i64 hi), (3, .int .i64 first), (4, S.cv), (10, .int .i64 k)] ∧ S.Row m' d' ∧ m.next ≤ m'.next ∧ siftDown S.lt hi first k d' = siftDown S.lt hi first lo d) (hi - lo)
    ⟨lo, d, rfl, by omega, by simp only [go_sem] <;> rfl, h, Nat.le_refl _, rfl⟩ ?_
  rintro n0 _ m1 ⟨k, d', hr, hk, rfl, h1, hm1, he⟩
  simp only [RB.slices_siftDownCmpFunc_local_entry_1, go_sem, nmm2 (show k < 1000000 by omega), nadd1 (show 2 * k < 4000000 by omega)]
  refine gT.of (fun g1' => ?_) (fun g1' => ?_) <;> (have g1 := g1'; try simp only [decide_eq_true_eq, decide_eq_false_iff_not, beq_iff_eq, bne_iff_ne, beq_eq_false_iff_ne, ne_eq, Bool.not_eq_true', Bool.not_eq_false', bne_eq_false_iff_eq, Int.not_lt, Int.not_le] at g1)
  · simp only [go_sem, g1']
    rw [siftDown, dif_pos (by omega)] at he
    rw [← he]
    exact ⟨h1, hm1⟩
  · have c1 : first + (2 * k + 1) < S.n := by omega
    have c0 : first + k < S.n := by omega
    rw [siftDown, dif_neg (by omega)] at he
    simp only [go_sem, g1', nadd1 (show 2 * k + 1 < 4000000 by omega)]
    refine gT.of (fun g2' => ?_) (fun g2' => ?_) <;> (have g2 := g2'; try simp only [decide_eq_true_eq, decide_eq_false_iff_not, beq_iff_eq, bne_iff_ne, beq_eq_false_iff_ne, ne_eq, Bool.not_eq_true', Bool.not_eq_false', bne_eq_false_iff_eq, Int.not_lt, Int.not_le] at g2)
    · have c2 : first + (2 * k + 1 + 1) < S.n := by omega
      have hl1 := h1.ld c1
      have hl2 := h1.ld c2
      simp only [go_sem, g2', nadd (show first + (2 * k + 1) < 4000000 by omega), nadd1 (show first + (2 * k + 1) < 4000000 by omega), Nat.add_assoc first (2 * k + 1) 1, S.ix c1, S.ix c2, hl1, hl2]
      refine gC.of (S.cmp m1 d'[first + (2 * k + 1)]! d'[first + (2 * k + 1 + 1)]!) ?_
      rintro _ m2 ⟨rfl, hx2⟩
      simp only [go_sem]
      have h2 := h1.keep hx2
      have hm2 := Nat.le_trans hm1 hx2.next
      refine gT.of (fun g3' => ?_) (fun g3' => ?_) <;> (have g3 := g3'; try simp only [decide_eq_true_eq, decide_eq_false_iff_not, beq_iff_eq, bne_iff_ne, beq_eq_false_iff_ne, ne_eq, Bool.not_eq_true', Bool.not_eq_false', bne_eq_false_iff_eq, Int.not_lt, Int.not_le] at g3)
      · have hlt := S.lt_t g3
        rw [if_pos (show (decide (2 * k + 1 + 1 < hi) && S.lt d'[first + (2 * k + 1)]! d'[first + (2 * k + 1) + 1]!) = true by rw [Bool.and_eq_true, decide_eq_true_eq]; exact ⟨by omega, hlt⟩)] at he
        simp only [go_sem, g3', nadd1 (show 2 * k + 1 < 4000000 by omega), nadd (show first + k < 4000000 by omega), nadd (show first + (2 * k + 1 + 1) < 4000000 by omega), S.ix c0, S.ix c2, h2.ld c0, h2.ld c2]
        refine gC.of (S.cmp m2 d'[first + k]! d'[first + (2 * k + 1 + 1)]!) ?_
        rintro _ m3 ⟨rfl, hx3⟩
        simp only [go_sem]
        have h3 := h2.keep hx3
        have hm3 := Nat.le_trans hm2 hx3.next
        refine gT.of (fun g4' => ?_) (fun g4' => ?_) <;> (have g4 := g4'; try simp only [decide_eq_true_eq, decide_eq_false_iff_not, beq_iff_eq, bne_iff_ne, beq_eq_false_iff_ne, ne_eq, Bool.not_eq_true', Bool.not_eq_false', bne_eq_false_iff_eq, Int.not_lt, Int.not_le] at g4)
        · rw [show (2 * k + 2) = (2 * k + 1 + 1) from rfl, S.lt_f' (by simpa using g4)] at he
          simp only [go_sem, g4']
          rw [← he]
          exact ⟨h3, hm3⟩
        · have g4 : S.cf d'[first + k]! d'[first + (2 * k + 1 + 1)]! < 0 := by simpa using g4
          rw [show (2 * k + 2) = (2 * k + 1 + 1) from rfl, S.lt_t g4, if_neg (by simp), dif_pos (by omega)] at he
          obtain ⟨n1, n2, t1, t2, h5⟩ := h3.sw c0 c2
          simp only [go_sem, g4', nadd (show first + k < 4000000 by omega), nadd (show first + (2 * k + 1 + 1) < 4000000 by omega), S.ix c0, S.ix c2, h3.ld c0, h3.ld c2, t1, t2]
          exact ⟨hi - (2 * k + 1 + 1), by omega, 2 * k + 1 + 1, _, rfl, by omega, rfl, h5, by rw [aStore_next t2, aStore_next t1]; exact hm3, he⟩
      · have hlf := S.lt_f' (by simpa using g3)
        rw [if_neg (show ¬ (decide (2 * k + 1 + 1 < hi) && S.lt d'[first + (2 * k + 1)]! d'[first + (2 * k + 1) + 1]!) = true by rw [Bool.and_eq_true]; intro hh; exact absurd (hlf.symm.trans hh.2) (by simp))] at he
        simp only [go_sem, g3', nadd (show first + k < 4000000 by omega), nadd (show first + (2 * k + 1) < 4000000 by omega), S.ix c0, S.ix c1, h2.ld c0, h2.ld c1]
        refine gC.of (S.cmp m2 d'[first + k]! d'[first + (2 * k + 1)]!) ?_
        rintro _ m3 ⟨rfl, hx3⟩
        simp only [go_sem]
        have h3 := h2.keep hx3
        have hm3 := Nat.le_trans hm2 hx3.next
        refine gT.of (fun g4' => ?_) (fun g4' => ?_) <;> (have g4 := g4'; try simp only [decide_eq_true_eq, decide_eq_false_iff_not, beq_iff_eq, bne_iff_ne, beq_eq_false_iff_ne, ne_eq, Bool.not_eq_true', Bool.not_eq_false', bne_eq_false_iff_eq, Int.not_lt, Int.not_le] at g4)
        · rw [S.lt_f' (by simpa using g4)] at he
          simp only [go_sem, g4']
          rw [← he]
          exact ⟨h3, hm3⟩
        · have g4 : S.cf d'[first + k]! d'[first + (2 * k + 1)]! < 0 := by simpa using g4
          rw [S.lt_t g4, if_neg (by simp)] at he
          obtain ⟨n1, n2, t1, t2, h5⟩ := h3.sw c0 c1
          simp only [go_sem, g4', nadd (show first + k < 4000000 by omega), nadd (show first + (2 * k + 1) < 4000000 by omega), S.ix c0, S.ix c1, h3.ld c0, h3.ld c1, t1, t2]
          exact ⟨hi - (2 * k + 1), by omega, 2 * k + 1, _, rfl, by omega, rfl, h5, by rw [aStore_next t2, aStore_next t1]; exact hm3, he⟩
    · rw [if_neg (by simp; omega)] at he
      simp only [go_sem, g2', nadd (show first + k < 4000000 by omega), nadd (show first + (2 * k + 1) < 4000000 by omega), S.ix c0, S.ix c1, h1.ld c0, h1.ld c1]
      refine gC.of (S.cmp m1 d'[first + k]! d'[first + (2 * k + 1)]!) ?_
      rintro _ m3 ⟨rfl, hx3⟩
      simp only [go_sem]
      have h3 := h1.keep hx3
      have hm3 := Nat.le_trans hm1 hx3.next
      refine gT.of (fun g4' => ?_) (fun g4' => ?_) <;> (have g4 := g4'; try simp only [decide_eq_true_eq, decide_eq_false_iff_not, beq_iff_eq, bne_iff_ne, beq_eq_false_iff_ne, ne_eq, Bool.not_eq_true', Bool.not_eq_false', bne_eq_false_iff_eq, Int.not_lt, Int.not_le] at g4)
      · rw [S.lt_f' (by simpa using g4)] at he
        simp only [go_sem, g4']
        rw [← he]
        exact ⟨h3, hm3⟩
      · have g4 : S.cf d'[first + k]! d'[first + (2 * k + 1)]! < 0 := by simpa using g4
        rw [S.lt_t g4, if_neg (by simp)] at he
        obtain ⟨n1, n2, t1, t2, h5⟩ := h3.sw c0 c1
        simp only [go_sem, g4', nadd (show first + k < 4000000 by omega), nadd (show first + (2 * k + 1) < 4000000 by omega), S.ix c0, S.ix c1, h3.ld c0, h3.ld c1, t1, t2]
        exact ⟨hi - (2 * k + 1), by omega, 2 * k + 1, _, rfl, by omega, rfl, h5, by rw [aStore_next t2, aStore_next t1]; exact hm3, he⟩

theorem so_heap {a b : Nat} (h : S.Row m d) (hb : b ≤ S.n) (ha : a < b) : WC R F.slices_heapSortCmpFunc_local_entry [S.sv, .int .i64 a, .int .i64 b, S.cv] m fun r m' => S.Row m' (heapSort S.lt d a b) := by
  refine WC.of R.slices_heapSortCmpFunc_local_entry rfl ?_
  have hn := S.small
  simp only [RC.slices_heapSortCmpFunc_local_entry, go_sem, nsub (show a ≤ b by omega) (show b < 4000000 by omega), nsub1 (show 0 < b - a by omega) (show b - a < 4000000 by omega), nq2 (show b - a - 1 < 4000000 by omega)]
  refine ⟨by omega, ?_⟩
  have e0 : ((((b - a - 1) / 2 + 1 : Nat) : Int) - 1) = (((b - a - 1) / 2 : Nat) : Int) := by omega
  have e9 : ((((b - a) : Nat) : Int) - 1) = (((b - a - 1) : Nat) : Int) := by omega
  refine WL.of (fun r e m' => ∃ (k : Nat) (d' : Array α), r = k ∧ k ≤ (b - a - 1) / 2 + 1 ∧ e = [(0, S.sv), (3, S.cv), (8, .int .i64 a), (9, .int .i64 0), (10, .int .i64 (b - a : Nat)), (11, .int .i64 ((k : Int) - 1))] ∧ S.Row m' d' ∧ heapBuild S.lt (b - a) a k d' = heapBuild S.lt (b - a) a ((b - a - 1) / 2 + 1) d) ((b - a - 1) / 2 + 1)
    ⟨(b - a - 1) / 2 + 1, d, rfl, Nat.le_refl _, by rw [e0]; simp only [go_sem] <;> rfl, h, rfl⟩ ?_
  rintro n0 _ m1 ⟨k, d', hr, hk, rfl, h1, he⟩
  simp only [RB.slices_heapSortCmpFunc_local_entry_2, go_sem]
  refine gT.of (fun g1' => ?_) (fun g1' => ?_) <;> (have g1 := g1'; try simp only [decide_eq_true_eq, decide_eq_false_iff_not, beq_iff_eq, bne_iff_ne, beq_eq_false_iff_ne, ne_eq, Bool.not_eq_true', Bool.not_eq_false', bne_eq_false_iff_eq, Int.not_lt, Int.not_le] at g1)
  · obtain ⟨k, rfl⟩ : ∃ k', k = k' + 1 := ⟨k - 1, by omega⟩
    have e1 : (((k + 1 : Nat) : Int) - 1) = (k : Int) := by omega
    rw [e1] at g1'
    simp only [go_sem, e1, g1']
    refine gC.of (so_sift (lo := k) (hi := b - a) (first := a) h1 (by omega) (by omega)) ?_
    rintro _ m2 ⟨h2, hm2⟩
    have e2 : IntKind.wrap .i64 ((k : Int) - 1) = (k : Int) - 1 := wrap_i64 (by omega) (by omega)
    simp only [go_sem, e2]
    exact ⟨k, by omega, k, _, rfl, by omega, rfl, h2, he⟩
  · have : k = 0 := by omega
    subst this
    simp only [heapBuild] at he
    simp only [go_sem, g1', nsub1 (show 0 < b - a by omega) (show b - a < 4000000 by omega)]
    refine WL.of (fun r e m' => ∃ (k : Nat) (d'' : Array α), r = k ∧ k ≤ b - a ∧ e = [(0, S.sv), (3, S.cv), (8, .int .i64 a), (9, .int .i64 0), (12, .int .i64 ((k : Int) - 1))] ∧ S.Row m' d'' ∧ heapPop S.lt a k d'' = heapPop S.lt a (b - a) d') (b - a)
      ⟨b - a, d', rfl, Nat.le_refl _, by rw [e9]; simp only [go_sem] <;> rfl, h1, rfl⟩ ?_
    rintro n1 _ m2 ⟨k, d'', hr2, hk2, rfl, h2, he2⟩
    simp only [RB.slices_heapSortCmpFunc_local_entry_1, go_sem]
    refine gT.of (fun g2' => ?_) (fun g2' => ?_) <;> (have g2 := g2'; try simp only [decide_eq_true_eq, decide_eq_false_iff_not, beq_iff_eq, bne_iff_ne, beq_eq_false_iff_ne, ne_eq, Bool.not_eq_true', Bool.not_eq_false', bne_eq_false_iff_eq, Int.not_lt, Int.not_le] at g2)
    · obtain ⟨k, rfl⟩ : ∃ k', k = k' + 1 := ⟨k - 1, by omega⟩
      have e1 : (((k + 1 : Nat) : Int) - 1) = (k : Int) := by omega
      rw [e1] at g2'
      have c0 : a < S.n := by omega
      have c1 : a + k < S.n := by omega
      obtain ⟨n1, n2, t1, t2, h5⟩ := h2.sw c0 c1
      have e2 : IntKind.wrap .i64 ((k : Int) - 1) = (k : Int) - 1 := wrap_i64 (by omega) (by omega)
      simp only [go_sem, e1, g2', nadd (show a + k < 4000000 by omega), S.ix c0, S.ix c1, h2.ld c0, h2.ld c1, t1, t2]
      refine gC.of (so_sift (lo := 0) (hi := k) (first := a) h5 (by omega) (by omega)) ?_
      rintro _ m3 ⟨h3, hm3⟩
      simp only [go_sem, e2]
      exact ⟨k, by omega, k, _, rfl, by omega, rfl, h3, he2⟩
    · have : k = 0 := by omega
      subst this
      simp only [heapPop] at he2
      simp only [go_sem, g2']
      rw [show heapSort S.lt d a b = d'' by rw [he2, he]; rfl]
      exact h2
end Go.Am


/- Sorting a row at local_entry (Tt): partitions. Printed out of SortT3.tmpl by sortgen.py. -/
set_option linter.unusedVariables false
set_option linter.unusedSimpArgs false
namespace Go.Am
open Go.Sort
variable {α : Type} [Inhabited α] {S : SortC R α 3} {m : Mem} {d : Array α}

theorem so_pa2 {a i j : Nat} (h : S.Row m d) (ha : a < S.n) (hj : j < S.n) (hi : i ≤ S.n) :
    WL R [0, 1, 4, 12, 13] RB.slices_partitionCmpFunc_local_entry_2 [(0, S.sv), (1, .int .i64 a), (4, S.cv), (12, .int .i64 i), (13, .int .i64 j)] m fun x e m' =>
      x = .exit 6 ∧ e = [(0, S.sv), (1, .int .i64 a), (4, S.cv), (12, .int .i64 (scanUp (fun x => S.lt x d[a]!) d j i)), (13, .int .i64 j), (120, .bool false)] ∧ S.Row m' d := by
  have hn := S.small
  refine WL.of (fun r e m' => ∃ (k : Nat), r = S.n + 1 - k ∧ k ≤ S.n ∧ e = [(0, S.sv), (1, .int .i64 a), (4, S.cv), (12, .int .i64 k), (13, .int .i64 j)] ∧ S.Row m' d ∧ scanUp (fun x => S.lt x d[a]!) d j k = scanUp (fun x => S.lt x d[a]!) d j i) (S.n + 1 - i)
    ⟨i, rfl, hi, by simp only [go_sem] <;> rfl, h, rfl⟩ ?_
  rintro n0 _ m1 ⟨k, hr, hk, rfl, h1, he⟩
  rw [scanUp] at he
  simp only [RB.slices_partitionCmpFunc_local_entry_2, go_sem]
  refine gT.of (fun g1' => ?_) (fun g1' => ?_) <;> (have g1 := g1'; try simp only [decide_eq_true_eq, decide_eq_false_iff_not, beq_iff_eq, bne_iff_ne, beq_eq_false_iff_ne, ne_eq, Bool.not_eq_true', Bool.not_eq_false', bne_eq_false_iff_eq, Int.not_lt, Int.not_le] at g1)
  · have hk2 : k < S.n := by omega
    simp only [go_sem, g1', S.ix hk2, S.ix ha, h1.ld hk2, h1.ld ha]
    refine gC.of (S.cmp m1 d[k]! d[a]!) ?_
    rintro _ m2 ⟨rfl, hx2⟩
    simp only [go_sem]
    have h2 := h1.keep hx2
    refine gT.of (fun g2' => ?_) (fun g2' => ?_) <;> (have g2 := g2'; try simp only [decide_eq_true_eq, decide_eq_false_iff_not, beq_iff_eq, bne_iff_ne, beq_eq_false_iff_ne, ne_eq, Bool.not_eq_true', Bool.not_eq_false', bne_eq_false_iff_eq, Int.not_lt, Int.not_le] at g2)
    · rw [if_pos (by rw [S.lt_t g2]; simp; omega)] at he
      simp only [go_sem, g2', nadd1 (show k < 4000000 by omega)]
      exact ⟨S.n + 1 - (k + 1), by omega, k + 1, rfl, by omega, rfl, h2, he⟩
    · rw [if_neg (by rw [S.lt_f' g2]; simp)] at he
      rw [← he]
      simp only [go_sem, g2']
      exact h2
  · rw [if_neg (by simp; omega)] at he
    rw [← he]
    simp only [go_sem, g1']
    exact h1

theorem so_pa5 {a i j : Nat} (h : S.Row m d) (ha : a < S.n) (hj : j < S.n) (hi : i ≤ S.n) :
    WL R [0, 1, 4, 12, 13] RB.slices_partitionCmpFunc_local_entry_5 [(0, S.sv), (1, .int .i64 a), (4, S.cv), (12, .int .i64 i), (13, .int .i64 j)] m fun x e m' =>
      x = .exit 0 ∧ e = [(0, S.sv), (1, .int .i64 a), (4, S.cv), (12, .int .i64 (scanUp (fun x => S.lt x d[a]!) d j i)), (13, .int .i64 j), (47, .bool false)] ∧ S.Row m' d := by
  have hn := S.small
  refine WL.of (fun r e m' => ∃ (k : Nat), r = S.n + 1 - k ∧ k ≤ S.n ∧ e = [(0, S.sv), (1, .int .i64 a), (4, S.cv), (12, .int .i64 k), (13, .int .i64 j)] ∧ S.Row m' d ∧ scanUp (fun x => S.lt x d[a]!) d j k = scanUp (fun x => S.lt x d[a]!) d j i) (S.n + 1 - i)
    ⟨i, rfl, hi, by simp only [go_sem] <;> rfl, h, rfl⟩ ?_
  rintro n0 _ m1 ⟨k, hr, hk, rfl, h1, he⟩
  rw [scanUp] at he
  simp only [RB.slices_partitionCmpFunc_local_entry_5, go_sem]
  refine gT.of (fun g1' => ?_) (fun g1' => ?_) <;> (have g1 := g1'; try simp only [decide_eq_true_eq, decide_eq_false_iff_not, beq_iff_eq, bne_iff_ne, beq_eq_false_iff_ne, ne_eq, Bool.not_eq_true', Bool.not_eq_false', bne_eq_false_iff_eq, Int.not_lt, Int.not_le] at g1)
  · have hk2 : k < S.n := by omega
    simp only [go_sem, g1', S.ix hk2, S.ix ha, h1.ld hk2, h1.ld ha]
    refine gC.of (S.cmp m1 d[k]! d[a]!) ?_
    rintro _ m2 ⟨rfl, hx2⟩
    simp only [go_sem]
    have h2 := h1.keep hx2
    refine gT.of (fun g2' => ?_) (fun g2' => ?_) <;> (have g2 := g2'; try simp only [decide_eq_true_eq, decide_eq_false_iff_not, beq_iff_eq, bne_iff_ne, beq_eq_false_iff_ne, ne_eq, Bool.not_eq_true', Bool.not_eq_false', bne_eq_false_iff_eq, Int.not_lt, Int.not_le] at g2)
    · rw [if_pos (by rw [S.lt_t g2]; simp; omega)] at he
      simp only [go_sem, g2', nadd1 (show k < 4000000 by omega)]
      exact ⟨S.n + 1 - (k + 1), by omega, k + 1, rfl, by omega, rfl, h2, he⟩
    · rw [if_neg (by rw [S.lt_f' g2]; simp)] at he
      rw [← he]
      simp only [go_sem, g2']
      exact h2
  · rw [if_neg (by simp; omega)] at he
    rw [← he]
    simp only [go_sem, g1']
    exact h1

theorem so_pa1 {a i j : Nat} (h : S.Row m d) (ha : a < S.n) (hj : j < S.n) (hi : 1 ≤ i) :
    WL R [0, 1, 4, 12, 13] RB.slices_partitionCmpFunc_local_entry_1 [(0, S.sv), (1, .int .i64 a), (4, S.cv), (12, .int .i64 i), (13, .int .i64 j)] m fun x e m' =>
      x = .exit 8 ∧ e = [(0, S.sv), (1, .int .i64 a), (4, S.cv), (12, .int .i64 i), (13, .int .i64 (scanDown (fun x => !S.lt x d[a]!) d i j)), (139, .bool false)] ∧ S.Row m' d := by
  have hn := S.small
  refine WL.of (fun r e m' => ∃ (k : Nat), r = k ∧ k < S.n ∧ e = [(0, S.sv), (1, .int .i64 a), (4, S.cv), (12, .int .i64 i), (13, .int .i64 k)] ∧ S.Row m' d ∧ scanDown (fun x => !S.lt x d[a]!) d i k = scanDown (fun x => !S.lt x d[a]!) d i j) j
    ⟨j, rfl, hj, by simp only [go_sem] <;> rfl, h, rfl⟩ ?_
  rintro n0 _ m1 ⟨k, hr, hk, rfl, h1, he⟩
  simp only [RB.slices_partitionCmpFunc_local_entry_1, go_sem]
  refine gT.of (fun g1' => ?_) (fun g1' => ?_) <;> (have g1 := g1'; try simp only [decide_eq_true_eq, decide_eq_false_iff_not, beq_iff_eq, bne_iff_ne, beq_eq_false_iff_ne, ne_eq, Bool.not_eq_true', Bool.not_eq_false', bne_eq_false_iff_eq, Int.not_lt, Int.not_le] at g1)
  · obtain ⟨k, rfl⟩ : ∃ k', k = k' + 1 := ⟨k - 1, by omega⟩
    simp only [scanDown] at he
    have e1 := nsub1 (i := k + 1) (by omega) (by omega)
    simp only [Nat.add_sub_cancel] at e1
    simp only [go_sem, g1', S.ix hk, S.ix ha, h1.ld hk, h1.ld ha]
    refine gC.of (S.cmp m1 d[k + 1]! d[a]!) ?_
    rintro _ m2 ⟨rfl, hx2⟩
    simp only [go_sem]
    have h2 := h1.keep hx2
    refine gT.of (fun g2' => ?_) (fun g2' => ?_) <;> (have g2 := g2'; try simp only [decide_eq_true_eq, decide_eq_false_iff_not, beq_iff_eq, bne_iff_ne, beq_eq_false_iff_ne, ne_eq, Bool.not_eq_true', Bool.not_eq_false', bne_eq_false_iff_eq, Int.not_lt, Int.not_le] at g2)
    · rw [if_pos (by rw [S.lt_f' (by simpa using g2)]; simp; omega)] at he
      simp only [go_sem, g2', e1]
      exact ⟨k, by omega, k, rfl, by omega, rfl, h2, he⟩
    · rw [if_neg (by rw [S.lt_t (by simpa using g2)]; simp)] at he
      rw [← he]
      simp only [go_sem, g2']
      exact h2
  · have he2 : scanDown (fun x => !S.lt x d[a]!) d i k = k := by
      cases k with
      | zero => rfl
      | succ k => simp only [scanDown]; rw [if_neg (by simp; omega)]
    rw [← he, he2]
    simp only [go_sem, g1']
    exact h1

theorem so_pa4 {a i j : Nat} (h : S.Row m d) (ha : a < S.n) (hj : j < S.n) (hi : 1 ≤ i) :
    WL R [0, 1, 4, 12, 13] RB.slices_partitionCmpFunc_local_entry_4 [(0, S.sv), (1, .int .i64 a), (4, S.cv), (12, .int .i64 i), (13, .int .i64 j)] m fun x e m' =>
      x = .exit 2 ∧ e = [(0, S.sv), (1, .int .i64 a), (4, S.cv), (12, .int .i64 i), (13, .int .i64 (scanDown (fun x => !S.lt x d[a]!) d i j)), (66, .bool false)] ∧ S.Row m' d := by
  have hn := S.small
  refine WL.of (fun r e m' => ∃ (k : Nat), r = k ∧ k < S.n ∧ e = [(0, S.sv), (1, .int .i64 a), (4, S.cv), (12, .int .i64 i), (13, .int .i64 k)] ∧ S.Row m' d ∧ scanDown (fun x => !S.lt x d[a]!) d i k = scanDown (fun x => !S.lt x d[a]!) d i j) j
    ⟨j, rfl, hj, by simp only [go_sem] <;> rfl, h, rfl⟩ ?_
  rintro n0 _ m1 ⟨k, hr, hk, rfl, h1, he⟩
  simp only [RB.slices_partitionCmpFunc_local_entry_4, go_sem]
  refine gT.of (fun g1' => ?_) (fun g1' => ?_) <;> (have g1 := g1'; try simp only [decide_eq_true_eq, decide_eq_false_iff_not, beq_iff_eq, bne_iff_ne, beq_eq_false_iff_ne, ne_eq, Bool.not_eq_true', Bool.not_eq_false', bne_eq_false_iff_eq, Int.not_lt, Int.not_le] at g1)
  · obtain ⟨k, rfl⟩ : ∃ k', k = k' + 1 := ⟨k - 1, by omega⟩
    simp only [scanDown] at he
    have e1 := nsub1 (i := k + 1) (by omega) (by omega)
    simp only [Nat.add_sub_cancel] at e1
    simp only [go_sem, g1', S.ix hk, S.ix ha, h1.ld hk, h1.ld ha]
    refine gC.of (S.cmp m1 d[k + 1]! d[a]!) ?_
    rintro _ m2 ⟨rfl, hx2⟩
    simp only [go_sem]
    have h2 := h1.keep hx2
    refine gT.of (fun g2' => ?_) (fun g2' => ?_) <;> (have g2 := g2'; try simp only [decide_eq_true_eq, decide_eq_false_iff_not, beq_iff_eq, bne_iff_ne, beq_eq_false_iff_ne, ne_eq, Bool.not_eq_true', Bool.not_eq_false', bne_eq_false_iff_eq, Int.not_lt, Int.not_le] at g2)
    · rw [if_pos (by rw [S.lt_f' (by simpa using g2)]; simp; omega)] at he
      simp only [go_sem, g2', e1]
      exact ⟨k, by omega, k, rfl, by omega, rfl, h2, he⟩
    · rw [if_neg (by rw [S.lt_t (by simpa using g2)]; simp)] at he
      rw [← he]
      simp only [go_sem, g2']
      exact h2
  · have he2 : scanDown (fun x => !S.lt x d[a]!) d i k = k := by
      cases k with
      | zero => rfl
      | succ k => simp only [scanDown]; rw [if_neg (by simp; omega)]
    rw [← he, he2]
    simp only [go_sem, g1']
    exact h1

theorem so_pa3 {a i j : Nat} (h : S.Row m d) (ha : a < S.n) (hj : j < S.n) (hi : 1 ≤ i) (hij : i ≤ j + 1) :
    WL R [0, 1, 4, 12, 13] RB.slices_partitionCmpFunc_local_entry_3 [(0, S.sv), (1, .int .i64 a), (4, S.cv), (12, .int .i64 i), (13, .int .i64 j)] m fun x e m' =>
      x = .exit 4 ∧ (∃ q b, e = [(0, S.sv), (1, .int .i64 a), (4, S.cv), (12, q), (13, .int .i64 (partLoop S.lt a i j d).1), (144, b)]) ∧ S.Row m' (partLoop S.lt a i j d).2 := by
  have hn := S.small
  refine WL.of (fun r e m' => ∃ (i' j' : Nat) (d' : Array α), r = j' + 1 - i' ∧ 1 ≤ i' ∧ i' ≤ j' + 1 ∧ j' < S.n ∧ e = [(0, S.sv), (1, .int .i64 a), (4, S.cv), (12, .int .i64 i'), (13, .int .i64 j')] ∧ S.Row m' d' ∧ partLoop S.lt a i' j' d' = partLoop S.lt a i j d) (j + 1 - i)
    ⟨i, j, d, rfl, hi, hij, hj, by simp only [go_sem] <;> rfl, h, rfl⟩ ?_
  rintro n0 _ m1 ⟨i', j', d', hr, hi', hij', hj', rfl, h1, he⟩
  simp only [RB.slices_partitionCmpFunc_local_entry_3, go_sem]
  rw [partLoop_eq] at he
  have u1 := scanUp_ge (fun x => S.lt x d'[a]!) d' j' i'
  have u2 := (scanUp_spec (fun x => S.lt x d'[a]!) d' j' _ i' rfl).2.1 hij'
  have u3 := (scanUp_spec (fun x => S.lt x d'[a]!) d' j' _ i' rfl).2.2.2
  refine WL.mono (so_pa2 h1 ha hj' (by omega)) ?_
  rintro _ _ m2 ⟨rfl, rfl, h2⟩
  generalize scanUp (fun x => S.lt x d'[a]!) d' j' i' = i2 at u1 u2 u3 he ⊢
  simp only [go_sem]
  have w1 := scanDown_le (fun x => !S.lt x d'[a]!) d' i2 j'
  have w2 := (scanDown_spec (fun x => !S.lt x d'[a]!) d' i2 j').2.1 (by omega)
  have w3 := (scanDown_spec (fun x => !S.lt x d'[a]!) d' i2 j').2.2.2
  refine WL.mono (so_pa1 h2 ha hj' (by omega)) ?_
  rintro _ _ m3 ⟨rfl, rfl, h3⟩
  generalize scanDown (fun x => !S.lt x d'[a]!) d' i2 j' = j2 at w1 w2 w3 he ⊢
  have hne : i2 ≠ j2 := by
    intro e
    subst e
    have q1 := u3 (by omega)
    have q2 := w3 (by omega) (by omega)
    first | (simp [q1] at q2; done) | (cases hh : S.lt d'[a]! d'[i2]! <;> simp [hh] at q1 q2)
  simp only [go_sem]
  refine gT.of (fun g1' => ?_) (fun g1' => ?_) <;> (have g1 := g1'; try simp only [decide_eq_true_eq, decide_eq_false_iff_not, beq_iff_eq, bne_iff_ne, beq_eq_false_iff_ne, ne_eq, Bool.not_eq_true', Bool.not_eq_false', bne_eq_false_iff_eq, Int.not_lt, Int.not_le] at g1)
  · rw [if_pos (by omega)] at he
    simp only [go_sem, g1']
    rw [← he]
    exact ⟨⟨_, _, rfl⟩, h3⟩
  · rw [if_neg (by omega)] at he
    have c1 : i2 < S.n := by omega
    have c2 : j2 < S.n := by omega
    obtain ⟨n1, n2, t1, t2, h5⟩ := h3.sw c1 c2
    simp only [go_sem, g1', S.ix c1, S.ix c2, h3.ld c1, h3.ld c2, t1, t2, nadd1 (show i2 < 4000000 by omega), nsub1 (show 0 < j2 by omega) (show j2 < 4000000 by omega)]
    exact ⟨j2 - 1 + 1 - (i2 + 1), by omega, i2 + 1, j2 - 1, _, rfl, by omega, by omega, by omega, rfl, h5, he⟩

theorem so_part {a b p : Nat} (h : S.Row m d) (hb : b ≤ S.n) (hp : a ≤ p) (hp2 : p < b) : WC R F.slices_partitionCmpFunc_local_entry [S.sv, .int .i64 a, .int .i64 b, .int .i64 p, S.cv] m fun r m' =>
    r = .tuple #[.int .i64 (partition S.lt d a b p).1, .bool (partition S.lt d a b p).2.1] ∧ S.Row m' (partition S.lt d a b p).2.2 := by
  refine WC.of R.slices_partitionCmpFunc_local_entry rfl ?_
  have hn := S.small
  have ca : a < S.n := by omega
  have cp : p < S.n := by omega
  obtain ⟨n1, n2, t1, t2, h1⟩ := h.sw ca cp
  simp only [RC.slices_partitionCmpFunc_local_entry, go_sem, S.ix ca, S.ix cp, h.ld ca, h.ld cp, t1, t2, nadd1 (show a < 4000000 by omega), nsub1 (show 0 < b by omega) (show b < 4000000 by omega)]
  have u1 := scanUp_ge (fun x => S.lt x (swp d a p)[a]!) (swp d a p) (b - 1) (a + 1)
  have u2 := (scanUp_spec (fun x => S.lt x (swp d a p)[a]!) (swp d a p) (b - 1) _ (a + 1) rfl).2.1 (by omega)
  have w1 := scanDown_le (fun x => !S.lt x (swp d a p)[a]!) (swp d a p) (scanUp (fun x => S.lt x (swp d a p)[a]!) (swp d a p) (b - 1) (a + 1)) (b - 1)
  have w2 := (scanDown_spec (fun x => !S.lt x (swp d a p)[a]!) (swp d a p) (scanUp (fun x => S.lt x (swp d a p)[a]!) (swp d a p) (b - 1) (a + 1)) (b - 1)).2.1 (by omega)
  have u3 := (scanUp_spec (fun x => S.lt x (swp d a p)[a]!) (swp d a p) (b - 1) _ (a + 1) rfl).2.2.2
  have w3 := (scanDown_spec (fun x => !S.lt x (swp d a p)[a]!) (swp d a p) (scanUp (fun x => S.lt x (swp d a p)[a]!) (swp d a p) (b - 1) (a + 1)) (b - 1)).2.2.2
  have hpe : partition S.lt d a b p = (if scanUp (fun x => S.lt x (swp d a p)[a]!) (swp d a p) (b - 1) (a + 1) > scanDown (fun x => !S.lt x (swp d a p)[a]!) (swp d a p) (scanUp (fun x => S.lt x (swp d a p)[a]!) (swp d a p) (b - 1) (a + 1)) (b - 1) then
      (scanDown (fun x => !S.lt x (swp d a p)[a]!) (swp d a p) (scanUp (fun x => S.lt x (swp d a p)[a]!) (swp d a p) (b - 1) (a + 1)) (b - 1), true, swp (swp d a p) (scanDown (fun x => !S.lt x (swp d a p)[a]!) (swp d a p) (scanUp (fun x => S.lt x (swp d a p)[a]!) (swp d a p) (b - 1) (a + 1)) (b - 1)) a)
      else ((partLoop S.lt a (scanUp (fun x => S.lt x (swp d a p)[a]!) (swp d a p) (b - 1) (a + 1) + 1) (scanDown (fun x => !S.lt x (swp d a p)[a]!) (swp d a p) (scanUp (fun x => S.lt x (swp d a p)[a]!) (swp d a p) (b - 1) (a + 1)) (b - 1) - 1) (swp (swp d a p) (scanUp (fun x => S.lt x (swp d a p)[a]!) (swp d a p) (b - 1) (a + 1)) (scanDown (fun x => !S.lt x (swp d a p)[a]!) (swp d a p) (scanUp (fun x => S.lt x (swp d a p)[a]!) (swp d a p) (b - 1) (a + 1)) (b - 1)))).1, false,
        swp (partLoop S.lt a (scanUp (fun x => S.lt x (swp d a p)[a]!) (swp d a p) (b - 1) (a + 1) + 1) (scanDown (fun x => !S.lt x (swp d a p)[a]!) (swp d a p) (scanUp (fun x => S.lt x (swp d a p)[a]!) (swp d a p) (b - 1) (a + 1)) (b - 1) - 1) (swp (swp d a p) (scanUp (fun x => S.lt x (swp d a p)[a]!) (swp d a p) (b - 1) (a + 1)) (scanDown (fun x => !S.lt x (swp d a p)[a]!) (swp d a p) (scanUp (fun x => S.lt x (swp d a p)[a]!) (swp d a p) (b - 1) (a + 1)) (b - 1)))).2
          (partLoop S.lt a (scanUp (fun x => S.lt x (swp d a p)[a]!) (swp d a p) (b - 1) (a + 1) + 1) (scanDown (fun x => !S.lt x (swp d a p)[a]!) (swp d a p) (scanUp (fun x => S.lt x (swp d a p)[a]!) (swp d a p) (b - 1) (a + 1)) (b - 1) - 1) (swp (swp d a p) (scanUp (fun x => S.lt x (swp d a p)[a]!) (swp d a p) (b - 1) (a + 1)) (scanDown (fun x => !S.lt x (swp d a p)[a]!) (swp d a p) (scanUp (fun x => S.lt x (swp d a p)[a]!) (swp d a p) (b - 1) (a + 1)) (b - 1)))).1 a)) := rfl
  rw [hpe]
  refine WL.mono (so_pa5 h1 ca (show b - 1 < S.n by omega) (by omega)) ?_
  rintro _ _ m2 ⟨rfl, rfl, h2⟩
  generalize scanUp (fun x => S.lt x (swp d a p)[a]!) (swp d a p) (b - 1) (a + 1) = i2 at u1 u2 u3 w1 w2 w3 ⊢
  simp only [go_sem]
  refine WL.mono (so_pa4 h2 ca (show b - 1 < S.n by omega) (by omega)) ?_
  rintro _ _ m3 ⟨rfl, rfl, h3⟩
  generalize scanDown (fun x => !S.lt x (swp d a p)[a]!) (swp d a p) i2 (b - 1) = j2 at w1 w2 w3 ⊢
  have hne : i2 ≠ j2 := by
    intro e
    subst e
    have q1 := u3 (by omega)
    have q2 := w3 (by omega) (by omega)
    first | (simp [q1] at q2; done) | (cases hh : S.lt d'[a]! d'[i2]! <;> simp [hh] at q1 q2)
  clear u3 w3
  generalize swp d a p = d1 at *
  simp only [go_sem]
  have c2 : j2 < S.n := by omega
  refine gT.of (fun g1' => ?_) (fun g1' => ?_) <;> (have g1 := g1'; try simp only [decide_eq_true_eq, decide_eq_false_iff_not, beq_iff_eq, bne_iff_ne, beq_eq_false_iff_ne, ne_eq, Bool.not_eq_true', Bool.not_eq_false', bne_eq_false_iff_eq, Int.not_lt, Int.not_le] at g1)
  · rw [if_pos (by omega)]
    obtain ⟨k1, k2, r1, r2, h5⟩ := h3.sw c2 ca
    simp only [go_sem, g1', S.ix c2, S.ix ca, h3.ld c2, h3.ld ca, r1, r2]
    exact h5
  · rw [if_neg (by omega)]
    have c1 : i2 < S.n := by omega
    obtain ⟨k1, k2, r1, r2, h5⟩ := h3.sw c1 c2
    simp only [go_sem, g1', S.ix c1, S.ix c2, h3.ld c1, h3.ld c2, r1, r2, nadd1 (show i2 < 4000000 by omega), nsub1 (show 0 < j2 by omega) (show j2 < 4000000 by omega)]
    refine WL.mono (so_pa3 h5 ca (show j2 - 1 < S.n by omega) (by omega) (by omega)) ?_
    rintro _ _ m4 ⟨rfl, ⟨q, bb, rfl⟩, h6⟩
    have hle := partLoop_le (S := S) (a := a) (j2 - 1 + 1 - (i2 + 1)) (i2 + 1) (j2 - 1) (swp d1 i2 j2) (Nat.le_refl _)
    generalize partLoop S.lt a (i2 + 1) (j2 - 1) (swp d1 i2 j2) = P at *
    have c3 : P.1 < S.n := by omega
    obtain ⟨k3, k4, r3, r4, h7⟩ := h6.sw c3 ca
    simp only [go_sem, S.ix c3, S.ix ca, h6.ld c3, h6.ld ca, r3, r4]
    exact h7

theorem so_pe2 {a i j : Nat} (h : S.Row m d) (ha : a < S.n) (hj : j < S.n) (hi : i ≤ S.n) :
    WL R [0, 1, 4, 11, 12] RB.slices_partitionEqualCmpFunc_local_entry_2 [(0, S.sv), (1, .int .i64 a), (4, S.cv), (11, .int .i64 i), (12, .int .i64 j)] m fun x e m' =>
      x = .exit 2 ∧ e = [(0, S.sv), (1, .int .i64 a), (4, S.cv), (11, .int .i64 (scanUp (fun x => !S.lt d[a]! x) d j i)), (12, .int .i64 j), (47, .bool false)] ∧ S.Row m' d := by
  have hn := S.small
  refine WL.of (fun r e m' => ∃ (k : Nat), r = S.n + 1 - k ∧ k ≤ S.n ∧ e = [(0, S.sv), (1, .int .i64 a), (4, S.cv), (11, .int .i64 k), (12, .int .i64 j)] ∧ S.Row m' d ∧ scanUp (fun x => !S.lt d[a]! x) d j k = scanUp (fun x => !S.lt d[a]! x) d j i) (S.n + 1 - i)
    ⟨i, rfl, hi, by simp only [go_sem] <;> rfl, h, rfl⟩ ?_
  rintro n0 _ m1 ⟨k, hr, hk, rfl, h1, he⟩
  rw [scanUp] at he
  simp only [RB.slices_partitionEqualCmpFunc_local_entry_2, go_sem]
  refine gT.of (fun g1' => ?_) (fun g1' => ?_) <;> (have g1 := g1'; try simp only [decide_eq_true_eq, decide_eq_false_iff_not, beq_iff_eq, bne_iff_ne, beq_eq_false_iff_ne, ne_eq, Bool.not_eq_true', Bool.not_eq_false', bne_eq_false_iff_eq, Int.not_lt, Int.not_le] at g1)
  · have hk2 : k < S.n := by omega
    simp only [go_sem, g1', S.ix hk2, S.ix ha, h1.ld hk2, h1.ld ha]
    refine gC.of (S.cmp m1 d[a]! d[k]!) ?_
    rintro _ m2 ⟨rfl, hx2⟩
    simp only [go_sem]
    have h2 := h1.keep hx2
    refine gT.of (fun g2' => ?_) (fun g2' => ?_) <;> (have g2 := g2'; try simp only [decide_eq_true_eq, decide_eq_false_iff_not, beq_iff_eq, bne_iff_ne, beq_eq_false_iff_ne, ne_eq, Bool.not_eq_true', Bool.not_eq_false', bne_eq_false_iff_eq, Int.not_lt, Int.not_le] at g2)
    · rw [if_pos (by rw [S.lt_f' (by simpa using g2)]; simp; omega)] at he
      simp only [go_sem, g2', nadd1 (show k < 4000000 by omega)]
      exact ⟨S.n + 1 - (k + 1), by omega, k + 1, rfl, by omega, rfl, h2, he⟩
    · rw [if_neg (by rw [S.lt_t (by simpa using g2)]; simp)] at he
      rw [← he]
      simp only [go_sem, g2']
      exact h2
  · rw [if_neg (by simp; omega)] at he
    rw [← he]
    simp only [go_sem, g1']
    exact h1

theorem so_pe1 {a i j : Nat} (h : S.Row m d) (ha : a < S.n) (hj : j < S.n) (hi : 1 ≤ i) :
    WL R [0, 1, 4, 11, 12] RB.slices_partitionEqualCmpFunc_local_entry_1 [(0, S.sv), (1, .int .i64 a), (4, S.cv), (11, .int .i64 i), (12, .int .i64 j)] m fun x e m' =>
      x = .exit 4 ∧ e = [(0, S.sv), (1, .int .i64 a), (4, S.cv), (11, .int .i64 i), (12, .int .i64 (scanDown (fun x => S.lt d[a]! x) d i j)), (65, .bool false)] ∧ S.Row m' d := by
  have hn := S.small
  refine WL.of (fun r e m' => ∃ (k : Nat), r = k ∧ k < S.n ∧ e = [(0, S.sv), (1, .int .i64 a), (4, S.cv), (11, .int .i64 i), (12, .int .i64 k)] ∧ S.Row m' d ∧ scanDown (fun x => S.lt d[a]! x) d i k = scanDown (fun x => S.lt d[a]! x) d i j) j
    ⟨j, rfl, hj, by simp only [go_sem] <;> rfl, h, rfl⟩ ?_
  rintro n0 _ m1 ⟨k, hr, hk, rfl, h1, he⟩
  simp only [RB.slices_partitionEqualCmpFunc_local_entry_1, go_sem]
  refine gT.of (fun g1' => ?_) (fun g1' => ?_) <;> (have g1 := g1'; try simp only [decide_eq_true_eq, decide_eq_false_iff_not, beq_iff_eq, bne_iff_ne, beq_eq_false_iff_ne, ne_eq, Bool.not_eq_true', Bool.not_eq_false', bne_eq_false_iff_eq, Int.not_lt, Int.not_le] at g1)
  · obtain ⟨k, rfl⟩ : ∃ k', k = k' + 1 := ⟨k - 1, by omega⟩
    simp only [scanDown] at he
    have e1 := nsub1 (i := k + 1) (by omega) (by omega)
    simp only [Nat.add_sub_cancel] at e1
    simp only [go_sem, g1', S.ix hk, S.ix ha, h1.ld hk, h1.ld ha]
    refine gC.of (S.cmp m1 d[a]! d[k + 1]!) ?_
    rintro _ m2 ⟨rfl, hx2⟩
    simp only [go_sem]
    have h2 := h1.keep hx2
    refine gT.of (fun g2' => ?_) (fun g2' => ?_) <;> (have g2 := g2'; try simp only [decide_eq_true_eq, decide_eq_false_iff_not, beq_iff_eq, bne_iff_ne, beq_eq_false_iff_ne, ne_eq, Bool.not_eq_true', Bool.not_eq_false', bne_eq_false_iff_eq, Int.not_lt, Int.not_le] at g2)
    · rw [if_pos (by rw [S.lt_t g2]; simp; omega)] at he
      simp only [go_sem, g2', e1]
      exact ⟨k, by omega, k, rfl, by omega, rfl, h2, he⟩
    · rw [if_neg (by rw [S.lt_f' g2]; simp)] at he
      rw [← he]
      simp only [go_sem, g2']
      exact h2
  · have he2 : scanDown (fun x => S.lt d[a]! x) d i k = k := by
      cases k with
      | zero => rfl
      | succ k => simp only [scanDown]; rw [if_neg (by simp; omega)]
    rw [← he, he2]
    simp only [go_sem, g1']
    exact h1

theorem so_pe3 {a i j : Nat} (h : S.Row m d) (ha : a < S.n) (hj : j < S.n) (hi : 1 ≤ i) (hij : i ≤ j + 1) :
    WL R [0, 1, 4, 11, 12] RB.slices_partitionEqualCmpFunc_local_entry_3 [(0, S.sv), (1, .int .i64 a), (4, S.cv), (11, .int .i64 i), (12, .int .i64 j)] m fun x e m' =>
      x = .exit 0 ∧ (∃ q b, e = [(0, S.sv), (1, .int .i64 a), (4, S.cv), (11, .int .i64 (partEqLoop S.lt a i j d).1), (12, q), (70, b)]) ∧ S.Row m' (partEqLoop S.lt a i j d).2 := by
  have hn := S.small
  refine WL.of (fun r e m' => ∃ (i' j' : Nat) (d' : Array α), r = j' + 1 - i' ∧ 1 ≤ i' ∧ i' ≤ j' + 1 ∧ j' < S.n ∧ e = [(0, S.sv), (1, .int .i64 a), (4, S.cv), (11, .int .i64 i'), (12, .int .i64 j')] ∧ S.Row m' d' ∧ partEqLoop S.lt a i' j' d' = partEqLoop S.lt a i j d) (j + 1 - i)
    ⟨i, j, d, rfl, hi, hij, hj, by simp only [go_sem] <;> rfl, h, rfl⟩ ?_
  rintro n0 _ m1 ⟨i', j', d', hr, hi', hij', hj', rfl, h1, he⟩
  simp only [RB.slices_partitionEqualCmpFunc_local_entry_3, go_sem]
  rw [partEqLoop_eq] at he
  have u1 := scanUp_ge (fun x => !S.lt d'[a]! x) d' j' i'
  have u2 := (scanUp_spec (fun x => !S.lt d'[a]! x) d' j' _ i' rfl).2.1 hij'
  have u3 := (scanUp_spec (fun x => !S.lt d'[a]! x) d' j' _ i' rfl).2.2.2
  refine WL.mono (so_pe2 h1 ha hj' (by omega)) ?_
  rintro _ _ m2 ⟨rfl, rfl, h2⟩
  generalize scanUp (fun x => !S.lt d'[a]! x) d' j' i' = i2 at u1 u2 u3 he ⊢
  simp only [go_sem]
  have w1 := scanDown_le (fun x => S.lt d'[a]! x) d' i2 j'
  have w2 := (scanDown_spec (fun x => S.lt d'[a]! x) d' i2 j').2.1 (by omega)
  have w3 := (scanDown_spec (fun x => S.lt d'[a]! x) d' i2 j').2.2.2
  refine WL.mono (so_pe1 h2 ha hj' (by omega)) ?_
  rintro _ _ m3 ⟨rfl, rfl, h3⟩
  generalize scanDown (fun x => S.lt d'[a]! x) d' i2 j' = j2 at w1 w2 w3 he ⊢
  have hne : i2 ≠ j2 := by
    intro e
    subst e
    have q1 := u3 (by omega)
    have q2 := w3 (by omega) (by omega)
    first | (simp [q1] at q2; done) | (cases hh : S.lt d'[a]! d'[i2]! <;> simp [hh] at q1 q2)
  simp only [go_sem]
  refine gT.of (fun g1' => ?_) (fun g1' => ?_) <;> (have g1 := g1'; try simp only [decide_eq_true_eq, decide_eq_false_iff_not, beq_iff_eq, bne_iff_ne, beq_eq_false_iff_ne, ne_eq, Bool.not_eq_true', Bool.not_eq_false', bne_eq_false_iff_eq, Int.not_lt, Int.not_le] at g1)
  · rw [if_pos (by omega)] at he
    simp only [go_sem, g1']
    rw [← he]
    exact ⟨⟨_, _, rfl⟩, h3⟩
  · rw [if_neg (by omega)] at he
    have c1 : i2 < S.n := by omega
    have c2 : j2 < S.n := by omega
    obtain ⟨n1, n2, t1, t2, h5⟩ := h3.sw c1 c2
    simp only [go_sem, g1', S.ix c1, S.ix c2, h3.ld c1, h3.ld c2, t1, t2, nadd1 (show i2 < 4000000 by omega), nsub1 (show 0 < j2 by omega) (show j2 < 4000000 by omega)]
    exact ⟨j2 - 1 + 1 - (i2 + 1), by omega, i2 + 1, j2 - 1, _, rfl, by omega, by omega, by omega, rfl, h5, he⟩

theorem so_parte {a b p : Nat} (h : S.Row m d) (hb : b ≤ S.n) (hp : a ≤ p) (hp2 : p < b) : WC R F.slices_partitionEqualCmpFunc_local_entry [S.sv, .int .i64 a, .int .i64 b, .int .i64 p, S.cv] m fun r m' =>
    r = .int .i64 (partitionEqual S.lt d a b p).1 ∧ S.Row m' (partitionEqual S.lt d a b p).2 := by
  refine WC.of R.slices_partitionEqualCmpFunc_local_entry rfl ?_
  have hn := S.small
  have ca : a < S.n := by omega
  have cp : p < S.n := by omega
  obtain ⟨n1, n2, t1, t2, h1⟩ := h.sw ca cp
  simp only [RC.slices_partitionEqualCmpFunc_local_entry, go_sem, S.ix ca, S.ix cp, h.ld ca, h.ld cp, t1, t2, nadd1 (show a < 4000000 by omega), nsub1 (show 0 < b by omega) (show b < 4000000 by omega)]
  refine WL.mono (so_pe3 h1 ca (show b - 1 < S.n by omega) (by omega) (by omega)) ?_
  rintro _ _ m2 ⟨rfl, ⟨q, bb, rfl⟩, h2⟩
  simp only [go_sem]
  exact ⟨rfl, h2⟩
end Go.Am


/- Sorting a row at local_entry (Tt): insertion of a few. Printed out of SortT4.tmpl by sortgen.py. -/
set_option linter.unusedVariables false
set_option linter.unusedSimpArgs false
namespace Go.Am
open Go.Sort
variable {α : Type} [Inhabited α] {S : SortC R α 3} {m : Mem} {d : Array α}

theorem so_pi3 {a b i : Nat} {v10 : Value} {rest : Env} (h : S.Row m d) (hb : b ≤ S.n) (hi : 1 ≤ i) (hib : i ≤ b) :
    WL R [0, 1, 2, 3, 9, 10] RB.slices_partialInsertionSortCmpFunc_local_entry_3 ((0, S.sv) :: (1, .int .i64 a) :: (2, .int .i64 b) :: (3, S.cv) :: (9, .int .i64 i) :: (10, v10) :: rest) m fun x e m' =>
      x = .exit 2 ∧ e = [(0, S.sv), (1, .int .i64 a), (2, .int .i64 b), (3, S.cv), (9, .int .i64 (scanSorted S.lt d b i)), (10, v10), (36, .bool false)] ∧ S.Row m' d ∧ i ≤ scanSorted S.lt d b i ∧ scanSorted S.lt d b i ≤ b := by
  have hn := S.small
  refine WL.of (fun r e m' => ∃ (k : Nat), r = b - k ∧ 1 ≤ k ∧ i ≤ k ∧ k ≤ b ∧ e = [(0, S.sv), (1, .int .i64 a), (2, .int .i64 b), (3, S.cv), (9, .int .i64 k), (10, v10)] ∧ S.Row m' d ∧ scanSorted S.lt d b k = scanSorted S.lt d b i) (b - i)
    ⟨i, rfl, hi, Nat.le_refl _, hib, by simp only [go_sem] <;> rfl, h, rfl⟩ ?_
  rintro n0 _ m1 ⟨k, hr, hk1, hik, hkb, rfl, h1, he⟩
  rw [scanSorted] at he
  simp only [RB.slices_partialInsertionSortCmpFunc_local_entry_3, go_sem]
  refine gT.of (fun g1' => ?_) (fun g1' => ?_) <;> (have g1 := g1'; try simp only [decide_eq_true_eq, decide_eq_false_iff_not, beq_iff_eq, bne_iff_ne, beq_eq_false_iff_ne, ne_eq, Bool.not_eq_true', Bool.not_eq_false', bne_eq_false_iff_eq, Int.not_lt, Int.not_le] at g1)
  · have c1 : k < S.n := by omega
    have c0 : k - 1 < S.n := by omega
    simp only [go_sem, g1', nsub1 (show 0 < k by omega) (show k < 4000000 by omega), S.ix c1, S.ix c0, h1.ld c1, h1.ld c0]
    refine gC.of (S.cmp m1 d[k]! d[k - 1]!) ?_
    rintro _ m2 ⟨rfl, hx2⟩
    simp only [go_sem]
    have h2 := h1.keep hx2
    refine gT.of (fun g2' => ?_) (fun g2' => ?_) <;> (have g2 := g2'; try simp only [decide_eq_true_eq, decide_eq_false_iff_not, beq_iff_eq, bne_iff_ne, beq_eq_false_iff_ne, ne_eq, Bool.not_eq_true', Bool.not_eq_false', bne_eq_false_iff_eq, Int.not_lt, Int.not_le] at g2)
    · rw [if_pos (by rw [S.lt_f' (by simpa using g2)]; simp; omega)] at he
      simp only [go_sem, g2', nadd1 (show k < 4000000 by omega)]
      exact ⟨b - (k + 1), by omega, k + 1, rfl, by omega, by omega, by omega, rfl, h2, he⟩
    · rw [if_neg (by rw [S.lt_t (by simpa using g2)]; simp)] at he
      rw [← he]
      simp only [go_sem, g2']
      exact ⟨h2, hik, hkb⟩
  · rw [if_neg (by simp; omega)] at he
    rw [← he]
    simp only [go_sem, g1']
    exact ⟨h1, hik, hkb⟩

theorem so_pi2 {j : Nat} {v1 v2 v9 v10 : Value} (h : S.Row m d) (hj : j < S.n) :
    WL R [0, 1, 2, 3, 9, 10, 11] RB.slices_partialInsertionSortCmpFunc_local_entry_2 [(0, S.sv), (1, v1), (2, v2), (3, S.cv), (9, v9), (10, v10), (11, .int .i64 j)] m fun x e m' =>
      x = .exit 4 ∧ (∃ rest, e = (0, S.sv) :: (1, v1) :: (2, v2) :: (3, S.cv) :: (9, v9) :: (10, v10) :: rest) ∧ S.Row m' (shiftDown S.lt j d) := by
  have hn := S.small
  refine WL.of (fun r e m' => ∃ (k : Nat) (d' : Array α), r = k ∧ k < S.n ∧ e = [(0, S.sv), (1, v1), (2, v2), (3, S.cv), (9, v9), (10, v10), (11, .int .i64 k)] ∧ S.Row m' d' ∧ shiftDown S.lt k d' = shiftDown S.lt j d) j
    ⟨j, d, rfl, hj, by simp only [go_sem] <;> rfl, h, rfl⟩ ?_
  rintro n0 _ m1 ⟨k, d', hr, hk, rfl, h1, he⟩
  simp only [RB.slices_partialInsertionSortCmpFunc_local_entry_2, go_sem]
  refine gT.of (fun g1' => ?_) (fun g1' => ?_) <;> (have g1 := g1'; try simp only [decide_eq_true_eq, decide_eq_false_iff_not, beq_iff_eq, bne_iff_ne, beq_eq_false_iff_ne, ne_eq, Bool.not_eq_true', Bool.not_eq_false', bne_eq_false_iff_eq, Int.not_lt, Int.not_le] at g1)
  · obtain ⟨k, rfl⟩ : ∃ k', k = k' + 1 := ⟨k - 1, by omega⟩
    simp only [shiftDown] at he
    have c0 : k < S.n := by omega
    have e1 := nsub1 (i := k + 1) (by omega) (by omega)
    simp only [Nat.add_sub_cancel] at e1
    simp only [go_sem, g1', e1, S.ix hk, S.ix c0, h1.ld hk, h1.ld c0]
    refine gC.of (S.cmp m1 d'[k + 1]! d'[k]!) ?_
    rintro _ m2 ⟨rfl, hx2⟩
    simp only [go_sem]
    have h2 := h1.keep hx2
    refine gT.of (fun g2' => ?_) (fun g2' => ?_) <;> (have g2 := g2'; try simp only [decide_eq_true_eq, decide_eq_false_iff_not, beq_iff_eq, bne_iff_ne, beq_eq_false_iff_ne, ne_eq, Bool.not_eq_true', Bool.not_eq_false', bne_eq_false_iff_eq, Int.not_lt, Int.not_le] at g2)
    · rw [if_pos (by rw [S.lt_f' (by simpa using g2)]; rfl)] at he
      rw [← he]
      simp only [go_sem, g2']
      exact ⟨⟨_, rfl⟩, h2⟩
    · rw [if_neg (by rw [S.lt_t (by simpa using g2)]; simp)] at he
      obtain ⟨n1, n2, t1, t2, h5⟩ := h2.sw hk c0
      simp only [go_sem, g2', e1, S.ix hk, S.ix c0, h2.ld hk, h2.ld c0, t1, t2]
      exact ⟨k, by omega, k, _, rfl, c0, rfl, h5, he⟩
  · have hk0 : k = 0 := by omega
    subst hk0
    simp only [shiftDown] at he
    rw [← he]
    simp only [go_sem, g1']
    exact ⟨⟨_, rfl⟩, h1⟩

theorem so_pi1 {b j : Nat} {v1 v9 v10 : Value} (h : S.Row m d) (hj : 1 ≤ j) (hb : b ≤ S.n) (hjb : j ≤ b) :
    WL R [0, 1, 2, 3, 9, 10, 12] RB.slices_partialInsertionSortCmpFunc_local_entry_1 [(0, S.sv), (1, v1), (2, .int .i64 b), (3, S.cv), (9, v9), (10, v10), (12, .int .i64 j)] m fun x e m' =>
      x = .exit 6 ∧ (∃ rest, e = (0, S.sv) :: (1, v1) :: (2, .int .i64 b) :: (3, S.cv) :: (9, v9) :: (10, v10) :: rest) ∧ S.Row m' (shiftUp S.lt b j d) := by
  have hn := S.small
  refine WL.of (fun r e m' => ∃ (k : Nat) (d' : Array α), r = b - k ∧ 1 ≤ k ∧ k ≤ b ∧ e = [(0, S.sv), (1, v1), (2, .int .i64 b), (3, S.cv), (9, v9), (10, v10), (12, .int .i64 k)] ∧ S.Row m' d' ∧ shiftUp S.lt b k d' = shiftUp S.lt b j d) (b - j)
    ⟨j, d, rfl, hj, hjb, by simp only [go_sem] <;> rfl, h, rfl⟩ ?_
  rintro n0 _ m1 ⟨k, d', hr, hk1, hkb, rfl, h1, he⟩
  rw [shiftUp] at he
  simp only [RB.slices_partialInsertionSortCmpFunc_local_entry_1, go_sem]
  refine gT.of (fun g1' => ?_) (fun g1' => ?_) <;> (have g1 := g1'; try simp only [decide_eq_true_eq, decide_eq_false_iff_not, beq_iff_eq, bne_iff_ne, beq_eq_false_iff_ne, ne_eq, Bool.not_eq_true', Bool.not_eq_false', bne_eq_false_iff_eq, Int.not_lt, Int.not_le] at g1)
  · rw [if_pos (by omega)] at he
    have c1 : k < S.n := by omega
    have c0 : k - 1 < S.n := by omega
    have e1 := nsub1 (show 0 < k by omega) (show k < 4000000 by omega)
    simp only [go_sem, g1', e1, S.ix c1, S.ix c0, h1.ld c1, h1.ld c0]
    refine gC.of (S.cmp m1 d'[k]! d'[k - 1]!) ?_
    rintro _ m2 ⟨rfl, hx2⟩
    simp only [go_sem]
    have h2 := h1.keep hx2
    refine gT.of (fun g2' => ?_) (fun g2' => ?_) <;> (have g2 := g2'; try simp only [decide_eq_true_eq, decide_eq_false_iff_not, beq_iff_eq, bne_iff_ne, beq_eq_false_iff_ne, ne_eq, Bool.not_eq_true', Bool.not_eq_false', bne_eq_false_iff_eq, Int.not_lt, Int.not_le] at g2)
    · rw [if_pos (by rw [S.lt_f' (by simpa using g2)]; rfl)] at he
      rw [← he]
      simp only [go_sem, g2']
      exact ⟨⟨_, rfl⟩, h2⟩
    · rw [if_neg (by rw [S.lt_t (by simpa using g2)]; simp)] at he
      obtain ⟨n1, n2, t1, t2, h5⟩ := h2.sw c1 c0
      simp only [go_sem, g2', e1, S.ix c1, S.ix c0, h2.ld c1, h2.ld c0, t1, t2, nadd1 (show k < 4000000 by omega)]
      exact ⟨b - (k + 1), by omega, k + 1, _, rfl, by omega, by omega, rfl, h5, he⟩
  · rw [if_neg (by omega)] at he
    rw [← he]
    simp only [go_sem, g1']
    exact ⟨⟨_, rfl⟩, h1⟩

theorem so_pins {a b : Nat} (h : S.Row m d) (hb : b ≤ S.n) (hab : a < b) : WC R F.slices_partialInsertionSortCmpFunc_local_entry [S.sv, .int .i64 a, .int .i64 b, S.cv] m fun r m' =>
    r = .bool (partialInsertionSort S.lt d a b).2 ∧ S.Row m' (partialInsertionSort S.lt d a b).1 := by
  refine WC.of R.slices_partialInsertionSortCmpFunc_local_entry rfl ?_
  have hn := S.small
  simp only [RC.slices_partialInsertionSortCmpFunc_local_entry, go_sem, nadd1 (show a < 4000000 by omega)]
  refine WL.of (fun r e m' => ∃ (s i : Nat) (d' : Array α), r = s ∧ s ≤ 5 ∧ a < i ∧ i ≤ b ∧ e = [(0, S.sv), (1, .int .i64 a), (2, .int .i64 b), (3, S.cv), (9, .int .i64 i), (10, .int .i64 (5 - s : Nat))] ∧ S.Row m' d' ∧ partialIns S.lt a b s i d' = partialInsertionSort S.lt d a b) 5
    ⟨5, a + 1, d, rfl, by omega, by omega, by omega, by simp only [go_sem] <;> rfl, h, rfl⟩ ?_
  rintro n0 _ m1 ⟨s, i, d', hr, hs, hai, hib, rfl, h1, he⟩
  simp only [RB.slices_partialInsertionSortCmpFunc_local_entry_4, go_sem]
  refine gT.of (fun g1' => ?_) (fun g1' => ?_) <;> (have g1 := g1'; try simp only [decide_eq_true_eq, decide_eq_false_iff_not, beq_iff_eq, bne_iff_ne, beq_eq_false_iff_ne, ne_eq, Bool.not_eq_true', Bool.not_eq_false', bne_eq_false_iff_eq, Int.not_lt, Int.not_le] at g1)
  · obtain ⟨s, rfl⟩ : ∃ s', s = s' + 1 := ⟨s - 1, by omega⟩
    simp only [go_sem, g1']
    refine WL.mono (so_pi3 h1 hb (by omega) hib) ?_
    rintro _ _ m2 ⟨rfl, rfl, h2, p1, p2⟩
    simp only [partialIns] at he
    generalize scanSorted S.lt d' b i = i2 at p1 p2 he ⊢
    simp only [go_sem]
    refine gT.of (fun g2' => ?_) (fun g2' => ?_) <;> (have g2 := g2'; try simp only [decide_eq_true_eq, decide_eq_false_iff_not, beq_iff_eq, bne_iff_ne, beq_eq_false_iff_ne, ne_eq, Bool.not_eq_true', Bool.not_eq_false', bne_eq_false_iff_eq, Int.not_lt, Int.not_le] at g2)
    · rw [if_pos (by omega)] at he
      simp only [go_sem, g2']
      rw [← he]
      exact ⟨rfl, h2⟩
    · rw [if_neg (by omega)] at he
      simp only [go_sem, g2', nsub (show a ≤ b by omega) (show b < 4000000 by omega)]
      refine gT.of (fun g3' => ?_) (fun g3' => ?_) <;> (have g3 := g3'; try simp only [decide_eq_true_eq, decide_eq_false_iff_not, beq_iff_eq, bne_iff_ne, beq_eq_false_iff_ne, ne_eq, Bool.not_eq_true', Bool.not_eq_false', bne_eq_false_iff_eq, Int.not_lt, Int.not_le] at g3)
      · rw [if_pos (by omega)] at he
        simp only [go_sem, g3']
        rw [← he]
        exact ⟨rfl, h2⟩
      · rw [if_neg (by omega)] at he
        have c1 : i2 < S.n := by omega
        have c0 : i2 - 1 < S.n := by omega
        have e1 := nsub1 (show 0 < i2 by omega) (show i2 < 4000000 by omega)
        obtain ⟨n1, n2, t1, t2, h5⟩ := h2.sw c1 c0
        simp only [go_sem, g3', e1, S.ix c1, S.ix c0, h2.ld c1, h2.ld c0, t1, t2, nsub (show a ≤ i2 by omega) (show i2 < 4000000 by omega)]
        have se : IntKind.wrap .i64 (((5 - (s + 1) : Nat) : Int) + 1) = ((5 - s : Nat) : Int) := by rw [wrap_i64 (by omega) (by omega)]; omega
        refine gT.of (fun g4' => ?_) (fun g4' => ?_) <;> (have g4 := g4'; try simp only [decide_eq_true_eq, decide_eq_false_iff_not, beq_iff_eq, bne_iff_ne, beq_eq_false_iff_ne, ne_eq, Bool.not_eq_true', Bool.not_eq_false', bne_eq_false_iff_eq, Int.not_lt, Int.not_le] at g4)
        · rw [if_pos (show i2 - a ≥ 2 by omega)] at he
          simp only [go_sem, g4', e1]
          refine WL.mono (so_pi2 h5 c0) ?_
          rintro _ _ m3 ⟨rfl, ⟨rest, rfl⟩, h6⟩
          simp only [go_sem, nsub (show i2 ≤ b by omega) (show b < 4000000 by omega)]
          refine gT.of (fun g5' => ?_) (fun g5' => ?_) <;> (have g5 := g5'; try simp only [decide_eq_true_eq, decide_eq_false_iff_not, beq_iff_eq, bne_iff_ne, beq_eq_false_iff_ne, ne_eq, Bool.not_eq_true', Bool.not_eq_false', bne_eq_false_iff_eq, Int.not_lt, Int.not_le] at g5)
          · rw [if_pos (show b - i2 ≥ 2 by omega)] at he
            simp only [go_sem, g5', nadd1 (show i2 < 4000000 by omega)]
            refine WL.mono (so_pi1 h6 (by omega) hb (by omega)) ?_
            rintro _ _ m4 ⟨rfl, ⟨rest, rfl⟩, h7⟩
            simp only [go_sem, se]
            exact ⟨s, by omega, s, i2, _, rfl, by omega, by omega, by omega, rfl, h7, he⟩
          · rw [if_neg (show ¬ b - i2 ≥ 2 by omega)] at he
            simp only [go_sem, g5', se]
            exact ⟨s, by omega, s, i2, _, rfl, by omega, by omega, by omega, rfl, h6, he⟩
        · rw [if_neg (show ¬ i2 - a ≥ 2 by omega)] at he
          simp only [go_sem, g4', nsub (show i2 ≤ b by omega) (show b < 4000000 by omega)]
          refine gT.of (fun g5' => ?_) (fun g5' => ?_) <;> (have g5 := g5'; try simp only [decide_eq_true_eq, decide_eq_false_iff_not, beq_iff_eq, bne_iff_ne, beq_eq_false_iff_ne, ne_eq, Bool.not_eq_true', Bool.not_eq_false', bne_eq_false_iff_eq, Int.not_lt, Int.not_le] at g5)
          · rw [if_pos (show b - i2 ≥ 2 by omega)] at he
            simp only [go_sem, g5', nadd1 (show i2 < 4000000 by omega)]
            refine WL.mono (so_pi1 h5 (by omega) hb (by omega)) ?_
            rintro _ _ m4 ⟨rfl, ⟨rest, rfl⟩, h7⟩
            simp only [go_sem, se]
            exact ⟨s, by omega, s, i2, _, rfl, by omega, by omega, by omega, rfl, h7, he⟩
          · rw [if_neg (show ¬ b - i2 ≥ 2 by omega)] at he
            simp only [go_sem, g5', se]
            exact ⟨s, by omega, s, i2, _, rfl, by omega, by omega, by omega, rfl, h5, he⟩
  · have hs0 : s = 0 := by omega
    subst hs0
    simp only [partialIns] at he
    simp only [go_sem, g1']
    rw [← he]
    exact ⟨rfl, h1⟩
end Go.Am


/- Sorting a row at local_entry (Tt): patterns are broken. Printed out of SortT5.tmpl by sortgen.py. -/
set_option linter.unusedVariables false
set_option linter.unusedSimpArgs false
namespace Go.Am
open Go.Sort
variable {α : Type} [Inhabited α] {S : SortC R α 3} {m : Mem} {d : Array α}

set_option maxRecDepth 20000 in
theorem so_len64 {x : BitVec 64} (hx : x.toNat < 1000000) : WC R F.math_bits_Len64 [u64 x] m fun r m' => r = .int .i64 (bitsLen x.toNat : Nat) ∧ m' = m := by
  refine WC.of R.math_bits_Len64 rfl ?_
  have e32 : (4294967296#64).toNat = 4294967296 := rfl
  have e16 : (65536#64).toNat = 65536 := rfl
  have e8 : (256#64).toNat = 256 := rfl
  have s16 : (16#64).toNat = 16 := rfl
  have s8 : (8#64).toNat = 8 := rfl
  have q16 : (x >>> 16).toNat = x.toNat / 2 ^ 16 := by rw [BitVec.toNat_ushiftRight, Nat.shiftRight_eq_div_pow]
  have q8 : (x >>> 8).toNat = x.toNat / 2 ^ 8 := by rw [BitVec.toNat_ushiftRight, Nat.shiftRight_eq_div_pow]
  have g32 : decide (4294967296 ≤ x.toNat) = false := by simp; omega
  simp only [RC.math_bits_Len64, go_sem, e32, g32, e16]
  refine gT.of (fun h1' => ?_) (fun h1' => ?_) <;> (have h1 := h1'; try simp only [decide_eq_true_eq, decide_eq_false_iff_not, beq_iff_eq, bne_iff_ne, beq_eq_false_iff_ne, ne_eq, Bool.not_eq_true', Bool.not_eq_false', bne_eq_false_iff_eq, Int.not_lt, Int.not_le] at h1)
  · have c1 : x.toNat / 2 ^ 16 < 256 := by omega
    have g8 : decide (256 ≤ x.toNat / 2 ^ 16) = false := by simp; omega
    have l8 := len8 c1
    have b8 := bitsLen8 c1
    have bb := bitsLen_shr (n := x.toNat) (k := 16) h1
    have w1 : IntKind.wrap .i64 (0 + 16) = 16 := rfl
    have w2 : IntKind.wrap .i64 ((bitsLen (x.toNat / 2 ^ 16) : Nat) : Int) = (bitsLen (x.toNat / 2 ^ 16) : Nat) := wrap_i64 (by omega) (by omega)
    have w3 : IntKind.wrap .i64 (16 + (bitsLen (x.toNat / 2 ^ 16) : Nat)) = ((bitsLen x.toNat : Nat) : Int) := by rw [wrap_i64 (by omega) (by omega)]; omega
    simp only [go_sem, h1', s16, e8, q16, g8, w1, conv_u8, wrap_u8 c1, l8, conv_i64_u8, w2, w3]
  · simp only [go_sem, h1', e8]
    refine gT.of (fun h2' => ?_) (fun h2' => ?_) <;> (have h2 := h2'; try simp only [decide_eq_true_eq, decide_eq_false_iff_not, beq_iff_eq, bne_iff_ne, beq_eq_false_iff_ne, ne_eq, Bool.not_eq_true', Bool.not_eq_false', bne_eq_false_iff_eq, Int.not_lt, Int.not_le] at h2)
    · have c1 : x.toNat / 2 ^ 8 < 256 := by omega
      have l8 := len8 c1
      have b8 := bitsLen8 c1
      have bb := bitsLen_shr (n := x.toNat) (k := 8) h2
      have w1 : IntKind.wrap .i64 (0 + 8) = 8 := rfl
      have w2 : IntKind.wrap .i64 ((bitsLen (x.toNat / 2 ^ 8) : Nat) : Int) = (bitsLen (x.toNat / 2 ^ 8) : Nat) := wrap_i64 (by omega) (by omega)
      have w3 : IntKind.wrap .i64 (8 + (bitsLen (x.toNat / 2 ^ 8) : Nat)) = ((bitsLen x.toNat : Nat) : Int) := by rw [wrap_i64 (by omega) (by omega)]; omega
      simp only [go_sem, h2', s8, w1, conv_u8, q8, wrap_u8 c1, l8, conv_i64_u8, w2, w3]
    · have c1 : x.toNat < 256 := by omega
      have l8 := len8 c1
      have b8 := bitsLen8 c1
      have w2 : IntKind.wrap .i64 ((bitsLen x.toNat : Nat) : Int) = (bitsLen x.toNat : Nat) := wrap_i64 (by omega) (by omega)
      have w3 : IntKind.wrap .i64 (0 + (bitsLen x.toNat : Nat)) = ((bitsLen x.toNat : Nat) : Int) := by rw [wrap_i64 (by omega) (by omega)]; omega
      simp only [go_sem, h2', conv_u8, wrap_u8 c1, l8, conv_i64_u8, w2, w3]

theorem so_len {x : BitVec 64} (hx : x.toNat < 1000000) : WC R F.math_bits_Len [u64 x] m fun r m' => r = .int .i64 (bitsLen x.toNat : Nat) ∧ m' = m := by
  refine WC.of R.math_bits_Len rfl ?_
  simp only [RC.math_bits_Len, go_sem]
  refine gC.of (so_len64 hx) ?_
  rintro _ m1 ⟨rfl, hm⟩
  subst hm
  simp only [go_sem]

theorem so_pow2 {n : Nat} (hx : n < 1000000) : WC R F.slices_nextPowerOfTwo [.int .i64 (n : Nat)] m fun r m' => r = u64 (1#64 <<< bitsLen n) ∧ m' = m := by
  refine WC.of R.slices_nextPowerOfTwo rfl ?_
  have e : (BitVec.ofInt 64 (n : Int)).toNat = n := by rw [BitVec.ofInt_natCast, BitVec.toNat_ofNat, Nat.mod_eq_of_lt (by omega)]
  simp only [RC.slices_nextPowerOfTwo, go_sem]
  refine gC.of (so_len (x := BitVec.ofInt 64 (n : Int)) (by omega)) ?_
  rintro _ m1 ⟨rfl, hm⟩
  subst hm
  rw [e]
  have h0 : (0 : Int) ≤ (bitsLen n : Nat) := by omega
  simp only [go_sem, h0, Int.toNat_natCast]

structure so_Gen (m : Mem) (q : Nat) (x : BitVec 64) : Prop where
  at_ : m.blk q = some (.cells [u64 x] (some 1))
  lt : q < m.next
theorem so_Gen.ld {q : Nat} {x : BitVec 64} (h : so_Gen m q x) : aLoad false 1 m (.pointer (some ⟨q, 0, none⟩)) = some (u64 x) := by
  rw [load_w, h.at_]; rfl
theorem so_Gen.st {q : Nat} {x : BitVec 64} (h : so_Gen m q x) (y : BitVec 64) : ∃ m', aStore 1 m (.pointer (some ⟨q, 0, none⟩)) (u64 y) = some m' ∧ so_Gen m' q y ∧ Upd m m' [q] := by
  refine ⟨m.set q (some (.cells [u64 y] (some 1))), ?_, ⟨by simp [Mem.set], h.lt⟩, Upd.set (by simp)⟩
  rw [store_b, h.at_]
  rfl

theorem so_next {q : Nat} {r : UInt64} (h : so_Gen m q r.toBitVec) : WC R F.slices_xorshift_Next [.pointer (some ⟨q, 0, none⟩)] m fun v m' => v = u64 (xorNext r).toBitVec ∧ so_Gen m' q (xorNext r).toBitVec ∧ Upd m m' [q] := by
  refine WC.of R.slices_xorshift_Next rfl ?_
  have e13 : (13#64).toNat = 13 := rfl
  have e7 : (7#64).toNat = 7 := rfl
  have e17 : (17#64).toNat = 17 := rfl
  rw [xor_bv]
  obtain ⟨m1, t1, h1, u1⟩ := h.st (r.toBitVec ^^^ r.toBitVec <<< 13)
  generalize hy : r.toBitVec ^^^ r.toBitVec <<< 13 = y at t1 h1 ⊢
  obtain ⟨m2, t2, h2, u2⟩ := h1.st (y ^^^ y >>> 7)
  generalize hz : y ^^^ y >>> 7 = z at t2 h2 ⊢
  obtain ⟨m3, t3, h3, u3⟩ := h2.st (z ^^^ z <<< 17)
  simp only [RC.slices_xorshift_Next, go_sem, h.ld, e13, hy, t1, h1.ld, e7, hz, t2, h2.ld, e17, t3, h3.ld]
  exact ⟨h3, (u1.trans u2 (fun _ h => h) (fun _ h => .inl h)).trans u3 (fun _ h => h) (fun _ h => .inl h)⟩

set_option maxHeartbeats 2000000 in
theorem so_brk {a b : Nat} {cv : Value} (h : S.Row m d) (hb : b ≤ S.n) (hab : a ≤ b) (hm : S.m0.next ≤ m.next) : WC R F.slices_breakPatternsCmpFunc_local_entry [S.sv, .int .i64 a, .int .i64 b, cv] m fun r m' => S.Row m' (breakPatterns d a b) := by
  refine WC.of R.slices_breakPatternsCmpFunc_local_entry rfl ?_
  have hn := S.small
  simp only [RC.slices_breakPatternsCmpFunc_local_entry, go_sem, nsub hab (show b < 4000000 by omega)]
  refine gT.of (fun g1' => ?_) (fun g1' => ?_) <;> (have g1 := g1'; try simp only [decide_eq_true_eq, decide_eq_false_iff_not, beq_iff_eq, bne_iff_ne, beq_eq_false_iff_ne, ne_eq, Bool.not_eq_true', Bool.not_eq_false', bne_eq_false_iff_eq, Int.not_lt, Int.not_le] at g1)
  · rw [bpN_eq (by omega)]
    have eof : BitVec.ofInt 64 ((b - a : Nat) : Int) = (UInt64.ofNat (b - a)).toBitVec := by rw [BitVec.ofInt_natCast]; rfl
    have i1 : (b - a) / 4 ≤ b - a := Nat.div_le_self _ _
    have hx0 : Ext m (m.new (.cells [u64 0#64] (some 1))) := Ext.new
    have hg0 : so_Gen (m.new (.cells [u64 0#64] (some 1))) m.next 0#64 := ⟨by simp [Mem.new], by simp [Mem.new]⟩
    obtain ⟨m1, t0, hg1, u1⟩ := hg0.st (UInt64.ofNat (b - a)).toBitVec
    have hx1 : Ext m m1 := Upd.ext_of hx0 u1 (by simp)
    simp only [go_sem, g1', eof, conv_u, t0]
    have hq : S.b ≠ m.next := by have := h.lt; omega
    refine gC.of (so_pow2 (n := b - a) (by omega)) ?_
    rintro _ m2 ⟨rfl, hmm⟩
    subst hmm
    have p2 := two_pow_bitsLen_le (n := b - a) (by omega)
    have p0 : 0 < 2 ^ bitsLen (b - a) := Nat.two_pow_pos _
    have em : (1#64 <<< bitsLen (b - a)).toNat = 1 <<< bitsLen (b - a) := by
      rw [BitVec.toNat_shiftLeft]
      have e1 : (1#64).toNat = 1 := rfl
      rw [e1, Nat.one_shiftLeft, Nat.mod_eq_of_lt (by omega)]
    have em1 : (1#64 <<< bitsLen (b - a) - 1#64).toNat = (1 <<< bitsLen (b - a)) - 1 := by
      rw [BitVec.toNat_sub, em, Nat.one_shiftLeft]
      have e1 : (1#64).toNat = 1 := rfl
      rw [e1]; omega
    rw [← Nat.one_shiftLeft] at p2 p0
    generalize hM : 1#64 <<< bitsLen (b - a) = M at em em1 ⊢
    generalize hK : 1 <<< bitsLen (b - a) = K at em em1 p2 p0 ⊢
    clear hM hK em
    clear u1 hx0 hg0
    obtain ⟨i0, hi0⟩ : ∃ i0, i0 = a + (b - a) / 4 * 2 - 1 := ⟨_, rfl⟩
    have hi1 : a + (b - a) / 4 * 2 = i0 + 1 := by omega
    have hi2 : i0 + 3 ≤ b := by omega
    rw [← hi0]
    simp only [go_sem, nq4 (show b - a < 4000000 by omega), nm2 (show (b - a) / 4 < 1000000 by omega), nadd (show a + (b - a) / 4 * 2 < 4000000 by omega), nsub1 (show 0 < a + (b - a) / 4 * 2 by omega) (show a + (b - a) / 4 * 2 < 4000000 by omega), ← hi0]
    refine ⟨by omega, ?_⟩
    generalize hfin : bpN a (b - a) K 3 (UInt64.ofNat (b - a)) d i0 = fin
    refine WL.of (fun r e m' => ∃ (k : Nat) (s : UInt64) (d' : Array α), r = k ∧ k ≤ 3 ∧ e = [(0, S.sv), (1, .int .i64 a), (8, .int .i64 (b - a : Nat)), (9, .pointer (some ⟨m.next, 0, none⟩)), (10, u64 M), (11, .int .i64 (i0 + (3 - k) : Nat))] ∧ S.Row m' d' ∧ so_Gen m' m.next s.toBitVec ∧
        bpN a (b - a) K k s d' (i0 + (3 - k)) = fin) 3
      ⟨3, _, d, rfl, by omega, by simp only [go_sem] <;> rfl, h.keep hx1, hg1, hfin⟩ ?_
    rintro n0 _ m3 ⟨k, s, d', hr, hk, rfl, h3, hg3, he⟩
    simp only [RB.slices_breakPatternsCmpFunc_local_entry_1, go_sem, nq4 (show b - a < 4000000 by omega), nm2 (show (b - a) / 4 < 1000000 by omega), nadd (show a + (b - a) / 4 * 2 < 4000000 by omega), nadd1 (show a + (b - a) / 4 * 2 < 4000000 by omega)]
    refine ⟨by omega, ?_⟩
    refine gT.of (fun g2' => ?_) (fun g2' => ?_) <;> (have g2 := g2'; try simp only [decide_eq_true_eq, decide_eq_false_iff_not, beq_iff_eq, bne_iff_ne, beq_eq_false_iff_ne, ne_eq, Bool.not_eq_true', Bool.not_eq_false', bne_eq_false_iff_eq, Int.not_lt, Int.not_le] at g2)
    · obtain ⟨k, rfl⟩ : ∃ k', k = k' + 1 := ⟨k - 1, by omega⟩
      simp only [go_sem, g2']
      refine gC.of (so_next hg3) ?_
      rintro _ m4 ⟨rfl, hg4, hu4⟩
      have h4 := h3.so_other hu4 hq hm
      simp only [bpN, breakStep] at he
      generalize xorNext s = s' at hg4 he ⊢
      have ea : (s'.toBitVec &&& (M - 1#64)).toNat = s'.toNat &&& (K - 1) := by rw [BitVec.toNat_and, em1]; rfl
      have hle : s'.toNat &&& (K - 1) ≤ K - 1 := Nat.and_le_right
      generalize s'.toNat &&& (K - 1) = o at ea he hle
      have wo : IntKind.wrap .i64 ((o : Nat) : Int) = (o : Nat) := wrap_i64 (by omega) (by omega)
      have c0 : i0 + (3 - (k + 1)) < S.n := by omega
      have es : i0 + (3 - (k + 1)) + 1 = i0 + (3 - k) := by omega
      have n1 := nadd1 (show i0 + (3 - (k + 1)) < 4000000 by omega)
      rw [es] at n1 he
      simp only [go_sem, ea, wo]
      refine gT.of (fun g3' => ?_) (fun g3' => ?_) <;> (have g3 := g3'; try simp only [decide_eq_true_eq, decide_eq_false_iff_not, beq_iff_eq, bne_iff_ne, beq_eq_false_iff_ne, ne_eq, Bool.not_eq_true', Bool.not_eq_false', bne_eq_false_iff_eq, Int.not_lt, Int.not_le] at g3)
      · rw [if_pos (by omega)] at he
        have c1 : a + (o - (b - a)) < S.n := by omega
        obtain ⟨n1', n2', t1, t2, h5⟩ := h4.sw c0 c1
        simp only [go_sem, g3', nsub (show b - a ≤ o by omega) (show o < 4000000 by omega), nadd (show a + (o - (b - a)) < 4000000 by omega), S.ix c0, S.ix c1, h4.ld c0, h4.ld c1, t1, t2, n1]
        refine ⟨k, by omega, k, _, _, rfl, by omega, rfl, h5, ?_, he⟩
        exact ⟨by rw [(aStore_keep t2) _ (by simpa using fun e => hq e.symm), (aStore_keep t1) _ (by simpa using fun e => hq e.symm)]; exact hg4.at_, by rw [aStore_next t2, aStore_next t1]; exact hg4.lt⟩
      · rw [if_neg (by omega)] at he
        have c1 : a + o < S.n := by omega
        obtain ⟨n1', n2', t1, t2, h5⟩ := h4.sw c0 c1
        simp only [go_sem, g3', nadd (show a + o < 4000000 by omega), S.ix c0, S.ix c1, h4.ld c0, h4.ld c1, t1, t2, n1]
        refine ⟨k, by omega, k, _, _, rfl, by omega, rfl, h5, ?_, he⟩
        exact ⟨by rw [(aStore_keep t2) _ (by simpa using fun e => hq e.symm), (aStore_keep t1) _ (by simpa using fun e => hq e.symm)]; exact hg4.at_, by rw [aStore_next t2, aStore_next t1]; exact hg4.lt⟩
    · have hk0 : k = 0 := by omega
      subst hk0
      simp only [bpN] at he
      simp only [go_sem, g2']
      rw [← he]
      exact h3
  · have e : breakPatterns d a b = d := by
      unfold breakPatterns
      simp only
      rw [if_neg (by omega)]
    rw [e]
    simp only [go_sem, g1']
    exact h
end Go.Am


/- Sorting a row at local_entry (Tt): the whole. Printed out of SortT6.tmpl by sortgen.py. -/
set_option linter.unusedVariables false
set_option linter.unusedSimpArgs false
namespace Go.Am
open Go.Sort
variable {α : Type} [Inhabited α] {S : SortC R α 3} {m : Mem} {d : Array α}

theorem so_hint2 {h : Hint} : (hintN h == 2) = decide (h = .decreasing) := by cases h <;> rfl
theorem so_hint1 {h : Hint} : (hintN h == 1) = decide (h = .increasing) := by cases h <;> rfl

set_option maxHeartbeats 4000000 in
theorem so_pdq : ∀ (N : Nat) (m : Mem) (d : Array α) (a b limit : Nat), b - a ≤ N → S.Row m d → b ≤ S.n → a ≤ b → limit < 1000000 →
    WC R F.slices_pdqsortCmpFunc_local_entry [S.sv, .int .i64 a, .int .i64 b, .int .i64 limit, S.cv] m fun r m' => S.Row m' (pdq S.lt d a b limit true true) := by
  intro N
  induction N using Nat.strongRecOn with
  | _ N ih =>
  intro m d a b limit hN h hb hab hlim
  refine WC.of R.slices_pdqsortCmpFunc_local_entry rfl ?_
  have hn := S.small
  simp only [RC.slices_pdqsortCmpFunc_local_entry, go_sem]
  generalize hfin : pdq S.lt d a b limit true true = fin
  refine WL.of (fun r e m' => ∃ (a' b' lim : Nat) (wb wp : Bool) (d' : Array α), r = b' - a' ∧ b' - a' ≤ N ∧ b' ≤ S.n ∧ a' ≤ b' ∧ lim < 1000000 ∧ e = [(0, S.sv), (1, .int .i64 a'), (2, .int .i64 b'), (3, .int .i64 lim), (4, S.cv), (10, .bool wb), (11, .bool wp)] ∧ S.Row m' d' ∧ pdq S.lt d' a' b' lim wb wp = fin) (b - a)
    ⟨a, b, limit, true, true, d, rfl, hN, hb, hab, hlim, by simp only [go_sem] <;> rfl, h, hfin⟩ ?_
  clear hfin h hb hab hlim hN
  rintro n0 _ m1 ⟨a', b', lim, wb, wp, d', hr, hN, hb, hab, hlim, rfl, h1, he⟩
  simp only [RB.slices_pdqsortCmpFunc_local_entry_1, go_sem, nsub hab (show b' < 4000000 by omega)]
  refine gT.of (fun g1' => ?_) (fun g1' => ?_) <;> (have g1 := g1'; try simp only [decide_eq_true_eq, decide_eq_false_iff_not, beq_iff_eq, bne_iff_ne, beq_eq_false_iff_ne, ne_eq, Bool.not_eq_true', Bool.not_eq_false', bne_eq_false_iff_eq, Int.not_lt, Int.not_le] at g1)
  · rw [pdq_small (by omega)] at he
    simp only [go_sem, g1']
    refine gC.of (so_ins h1 hb hab) ?_
    rintro _ m2 h2
    rw [he] at h2
    simp only [go_sem]
    exact h2
  · simp only [go_sem, g1']
    refine gT.of (fun g2' => ?_) (fun g2' => ?_) <;> (have g2 := g2'; try simp only [decide_eq_true_eq, decide_eq_false_iff_not, beq_iff_eq, bne_iff_ne, beq_eq_false_iff_ne, ne_eq, Bool.not_eq_true', Bool.not_eq_false', bne_eq_false_iff_eq, Int.not_lt, Int.not_le] at g2)
    · rw [pdq_heap (by omega) (by omega)] at he
      simp only [go_sem, g2']
      refine gC.of (so_heap h1 hb (by omega)) ?_
      rintro _ m2 h2
      rw [he] at h2
      simp only [go_sem]
      exact h2
    · simp only [go_sem, g2']
      have hlim0 : 0 < lim := by omega
      have hab' : a' < b' := by omega
      have h12 : ¬ b' - a' ≤ 12 := by omega
      -- patterns
      refine gT_mid (fun e m' => (∃ rest, e = (0, S.sv) :: (1, .int .i64 a') :: (2, .int .i64 b') :: (3, .int .i64 (rd S.lt d' a' b' lim wb wp).lim) :: (4, S.cv) :: (10, .bool wb) :: (11, .bool wp) :: (12, .int .i64 (b' - a' : Nat)) :: rest) ∧ S.Row m' (rd S.lt d' a' b' lim wb wp).d1) (fun g => ?_) (fun g => ?_) ?_
      · cases wb with
        | true => simp at g
        | false =>
          simp only [go_sem]
          refine gC.of (so_brk h1 hb hab h1.upd.next) ?_
          rintro _ m2 h2
          simp only [go_sem, nsub1 hlim0 (show lim < 4000000 by omega)]
          exact ⟨⟨_, rfl⟩, h2⟩
      · cases wb with
        | false => simp at g
        | true =>
          simp only [go_sem]
          exact ⟨⟨_, rfl⟩, h1⟩
      rintro _ m2 ⟨⟨rest, rfl⟩, h2⟩
      have hlx : (rd S.lt d' a' b' lim wb wp).lim < 1000000 := Nat.lt_of_le_of_lt rd_lim_le hlim
      simp only [go_sem]
      refine gC.of (so_choose h2 hb hab' h2.upd.next) ?_
      rintro _ m3 ⟨rfl, h3⟩
      have hc := choosePivot_holds S.lt (rd S.lt d' a' b' lim wb wp).d1 a' b' hab'
      rw [← rd_c (lt := S.lt) (d := d') (a := a') (b := b') (limit := lim) (wb := wb) (wp := wp)] at hc ⊢
      simp only [go_sem, aExt0, aExt1, so_hint2]
      -- the other way round
      refine gT_mid (fun e m' => (∃ rest, e = (0, S.sv) :: (1, .int .i64 a') :: (2, .int .i64 b') :: (3, .int .i64 (rd S.lt d' a' b' lim wb wp).lim) :: (4, S.cv) :: (10, .bool wb) :: (11, .bool wp) :: (12, .int .i64 (b' - a' : Nat)) :: (13, .int .i64 (rd S.lt d' a' b' lim wb wp).pivot) :: (14, .int .i64 (hintN (rd S.lt d' a' b' lim wb wp).hint)) :: rest) ∧ S.Row m' (rd S.lt d' a' b' lim wb wp).d2) (fun g => ?_) (fun g => ?_) ?_
      · have g : (rd S.lt d' a' b' lim wb wp).c.2 = .decreasing := by simpa using g
        obtain ⟨r1, r2, r3⟩ := rd_dec g
        rw [r1, r2, r3]
        simp only [go_sem]
        refine gC.of (so_rev h3 hb hab') ?_
        rintro _ m4 h4
        simp only [go_sem, nsub1 (show 0 < b' by omega) (show b' < 4000000 by omega), nsub hc.1 (show (rd S.lt d' a' b' lim wb wp).c.1 < 4000000 by omega), nsub (show (rd S.lt d' a' b' lim wb wp).c.1 - a' ≤ b' - 1 by omega) (show b' - 1 < 4000000 by omega)]
        exact ⟨⟨_, rfl⟩, h4⟩
      · have g : (rd S.lt d' a' b' lim wb wp).c.2 ≠ .decreasing := by simpa using g
        obtain ⟨r1, r2, r3⟩ := rd_not g
        rw [r1, r2, r3]
        simp only [go_sem]
        exact ⟨⟨_, rfl⟩, h3⟩
      rintro _ m4 ⟨⟨rest, rfl⟩, h4⟩
      have hpv : a' ≤ (rd S.lt d' a' b' lim wb wp).pivot ∧ (rd S.lt d' a' b' lim wb wp).pivot < b' := pivot_range hc.1 hc.2 ((rd S.lt d' a' b' lim wb wp).c.2 = .decreasing)
      -- a few by insertion
      have hpd : (rd S.lt d' a' b' lim wb wp).pi.2 = true → pdq S.lt d' a' b' lim wb wp = (rd S.lt d' a' b' lim wb wp).pi.1 := pdq_done h12 (by omega)
      have hpiy := rd_pi_yes (lt := S.lt) (d := d') (a := a') (b := b') (limit := lim) (wb := wb) (wp := wp)
      have hpin := rd_pi_no (lt := S.lt) (d := d') (a := a') (b := b') (limit := lim) (wb := wb) (wp := wp)
      have hpe := pdq_eq (lt := S.lt) (d := d') (a := a') (b := b') (limit := lim) (wb := wb) (wp := wp) h12 (by omega)
      have hpl := pdq_left (lt := S.lt) (d := d') (a := a') (b := b') (limit := lim) (wb := wb) (wp := wp) h12 (by omega)
      have hpr := pdq_right (lt := S.lt) (d := d') (a := a') (b := b') (limit := lim) (wb := wb) (wp := wp) h12 (by omega)
      generalize hrd : rd S.lt d' a' b' lim wb wp = D at *
      refine gp_seq_mid (fun e m' => (∃ rest, e = (0, S.sv) :: (1, .int .i64 a') :: (2, .int .i64 b') :: (3, .int .i64 D.lim) :: (4, S.cv) :: (10, .bool wb) :: (11, .bool wp) :: (12, .int .i64 (b' - a' : Nat)) :: (13, .int .i64 D.pivot) :: rest) ∧ S.Row m' D.pi.1 ∧ D.pi.2 = false) ?_ ?_
      · have no : (wb && wp && decide (D.hint = .increasing)) = false → S.Row m4 D.pi.1 ∧ D.pi.2 = false := fun hc => by rw [hpin hc]; exact ⟨h4, rfl⟩
        cases wb with
        | false => simp only [go_sem]; exact ⟨⟨_, rfl⟩, no rfl⟩
        | true =>
          cases wp with
          | false => simp only [go_sem]; exact ⟨⟨_, rfl⟩, no rfl⟩
          | true =>
            simp only [go_sem, so_hint1]
            refine gT.of (fun g => ?_) (fun g => ?_)
            · have hpi := hpiy (by simpa using g)
              simp only [go_sem, g]
              refine gC.of (so_pins h4 hb hab') ?_
              rintro _ m5 ⟨rfl, h5⟩
              rw [← hpi] at h5 ⊢
              simp only [go_sem]
              refine gT.of (fun g3 => ?_) (fun g3 => ?_)
              · simp only [go_sem]
                rw [hpd g3] at he
                rw [he] at h5
                exact h5
              · simp only [go_sem]
                exact ⟨⟨_, rfl⟩, h5, g3⟩
            · simp only [go_sem, g]
              exact ⟨⟨_, rfl⟩, no (by simpa using g)⟩
      rintro _ m5 ⟨⟨rest, rfl⟩, h5, hp2⟩
      have hpe := hpe hp2
      have hpl := hpl hp2
      have hpr := hpr hp2
      clear hpd hpiy hpin h4 h3 h2 h1
      have c0 : a' - 1 < S.n := by omega
      have cp : D.pivot < S.n := by omega
      -- the rest, where what is ahead is less
      have rest2 : ∀ (m6 : Mem) (rest : Env), S.Row m6 D.pi.1 → (decide (a' > 0) && !S.lt D.pi.1[a' - 1]! D.pi.1[D.pivot]!) = false → True := fun _ _ _ _ => trivial
      clear rest2
      refine gp_seq_mid (fun e m' => (∃ rest, e = (0, S.sv) :: (1, .int .i64 a') :: (2, .int .i64 b') :: (3, .int .i64 D.lim) :: (4, S.cv) :: (10, .bool wb) :: (11, .bool wp) :: (12, .int .i64 (b' - a' : Nat)) :: (13, .int .i64 D.pivot) :: rest) ∧ S.Row m' D.pi.1 ∧ (decide (a' > 0) && !S.lt D.pi.1[a' - 1]! D.pi.1[D.pivot]!) = false) ?_ ?_
      · simp only [go_sem]
        refine gT.of (fun g3' => ?_) (fun g3' => ?_) <;> (have g3 := g3'; try simp only [decide_eq_true_eq, decide_eq_false_iff_not, beq_iff_eq, bne_iff_ne, beq_eq_false_iff_ne, ne_eq, Bool.not_eq_true', Bool.not_eq_false', bne_eq_false_iff_eq, Int.not_lt, Int.not_le] at g3)
        · simp only [go_sem, g3', nsub1 (show 0 < a' by omega) (show a' < 4000000 by omega), S.ix c0, S.ix cp, h5.ld c0, h5.ld cp]
          refine gC.of (S.cmp m5 D.pi.1[a' - 1]! D.pi.1[D.pivot]!) ?_
          rintro _ m6 ⟨rfl, hx6⟩
          simp only [go_sem]
          have h6 := h5.keep hx6
          refine gT.of (fun g4' => ?_) (fun g4' => ?_) <;> (have g4 := g4'; try simp only [decide_eq_true_eq, decide_eq_false_iff_not, beq_iff_eq, bne_iff_ne, beq_eq_false_iff_ne, ne_eq, Bool.not_eq_true', Bool.not_eq_false', bne_eq_false_iff_eq, Int.not_lt, Int.not_le] at g4)
          · have hcd : (decide (a' > 0) && !S.lt D.pi.1[a' - 1]! D.pi.1[D.pivot]!) = true := by rw [S.lt_f' (by simpa using g4)]; simp; omega
            have rg := parte_rng (lt := S.lt) (d := D.pi.1) (p := D.pivot) hab'
            have hpe := hpe hcd rg
            rw [he] at hpe
            simp only [go_sem, g4']
            refine gC.of (so_parte h6 hb hpv.1 hpv.2) ?_
            rintro _ m7 ⟨rfl, h7⟩
            simp only [go_sem]
            exact ⟨b' - (partitionEqual S.lt D.pi.1 a' b' D.pivot).1, by omega, _, b', D.lim, wb, wp, _, rfl, by omega, hb, rg.2, hlx, rfl, h7, hpe.symm⟩
          · simp only [go_sem, g4']
            refine ⟨⟨_, rfl⟩, h6, ?_⟩
            rw [S.lt_t (by simpa using g4)]; simp
        · simp only [go_sem, g3']
          refine ⟨⟨_, rfl⟩, h5, ?_⟩
          have : decide (a' > 0) = false := by simp; omega
          rw [this]; rfl
      rintro _ m6 ⟨⟨rest, rfl⟩, h6, hcd⟩
      have rg := part_rng (lt := S.lt) (d := D.pi.1) (p := D.pivot) hab'
      have hpl := hpl hcd rg
      have hpr := hpr hcd rg
      simp only [go_sem]
      refine gC.of (so_part h6 hb hpv.1 hpv.2) ?_
      rintro _ m7 ⟨rfl, h7⟩
      generalize partition S.lt D.pi.1 a' b' D.pivot = pt at *
      obtain ⟨mid, ap, d4⟩ := pt
      simp only at rg hpl hpr h7
      simp only [go_sem, aExt0, aExt1, nsub rg.1 (show mid < 4000000 by omega), nsub (show mid ≤ b' by omega) (show b' < 4000000 by omega), nq8 (show b' - a' < 4000000 by omega)]
      refine ⟨by omega, ?_⟩
      refine gT.of (fun g5' => ?_) (fun g5' => ?_) <;> (have g5 := g5'; try simp only [decide_eq_true_eq, decide_eq_false_iff_not, beq_iff_eq, bne_iff_ne, beq_eq_false_iff_ne, ne_eq, Bool.not_eq_true', Bool.not_eq_false', bne_eq_false_iff_eq, Int.not_lt, Int.not_le] at g5)
      · have hpl := hpl (by omega)
        rw [he] at hpl
        simp only [go_sem, g5']
        refine gC.of (ih (mid - a') (by omega) m7 d4 a' mid D.lim (Nat.le_refl _) h7 (by omega) (by omega) hlx) ?_
        rintro _ m8 h8
        simp only [go_sem, nadd1 (show mid < 4000000 by omega)]
        refine ⟨b' - (mid + 1), by omega, mid + 1, b', D.lim, _, _, _, rfl, by omega, hb, by omega, hlx, rfl, h8, ?_⟩
        rw [hpl]
        congr 1
        rw [decide_eq_decide]; omega
      · have hpr := hpr (by omega)
        rw [he] at hpr
        simp only [go_sem, g5', nadd1 (show mid < 4000000 by omega)]
        refine gC.of (ih (b' - (mid + 1)) (by omega) m7 d4 (mid + 1) b' D.lim (Nat.le_refl _) h7 hb (by omega) hlx) ?_
        rintro _ m8 h8
        simp only [go_sem]
        refine ⟨mid - a', by omega, a', mid, D.lim, _, _, _, rfl, by omega, by omega, by omega, hlx, rfl, h8, ?_⟩
        rw [hpr]
        congr 1
        rw [decide_eq_decide]; omega

theorem so_sort (h : S.Row m d) (hO : SWO S.lt) : WC R F.slices_SortFunc_local_entry_local_entry [S.sv, S.cv] m fun r m' => ∃ d', S.Row m' d' ∧ PermIn 0 d.size d d' ∧ SortedIn S.lt 0 d.size d' := by
  refine WC.of R.slices_SortFunc_local_entry_local_entry rfl ?_
  have hn := S.small
  have hlen : aLen S.sv = some (.int .i64 S.n) := rfl
  have e : (BitVec.ofInt 64 ((S.n : Nat) : Int)).toNat = S.n := by rw [BitVec.ofInt_natCast, BitVec.toNat_ofNat, Nat.mod_eq_of_lt (by omega)]
  simp only [RC.slices_SortFunc_local_entry_local_entry, go_sem, hlen]
  refine gC.of (so_len (x := BitVec.ofInt 64 ((S.n : Nat) : Int)) (by omega)) ?_
  rintro _ _ ⟨rfl, hm⟩
  subst hm
  rw [e]
  have hbl : bitsLen S.n ≤ 20 := (bitsLen_le_iff _ _).2 (by omega)
  simp only [go_sem]
  refine gC.of (so_pdq S.n _ d 0 S.n (bitsLen S.n) (by omega) h (Nat.le_refl _) (Nat.zero_le _) (by omega)) ?_
  rintro _ m2 h2
  simp only [go_sem]
  have := pdq_sorts S.lt hO d 0 S.n (bitsLen S.n) true true (Nat.zero_le _) (by rw [h.size]; exact Nat.le_refl _) (.inl rfl)
  rw [h.size]
  exact ⟨_, h2, this⟩
end Go.Am


/- The sort of a slice of one's own, of local_entry (Tt). Printed out of SortT7.tmpl by sortgen.py. -/
set_option linter.unusedVariables false
set_option linter.unusedSimpArgs false
namespace Go.Am
open Go.Sort
variable {α : Type} [Inhabited α]

theorem so_insNil {m : Mem} {v fv : Value} : WC R F.slices_insertionSortCmpFunc_local_entry [v, .int .i64 0, .int .i64 0, fv] m fun r m' => m' = m := by
  refine WC.of R.slices_insertionSortCmpFunc_local_entry rfl ?_
  have w : IntKind.wrap .i64 (0 + 1) = 1 := rfl
  simp only [RC.slices_insertionSortCmpFunc_local_entry, go_sem, w]
  refine WL.of (fun r e m' => m' = m ∧ e = [(0, v), (1, .int .i64 0), (2, .int .i64 0), (3, fv), (8, .int .i64 1)]) 0 ⟨rfl, by simp only [go_sem] <;> rfl⟩ ?_
  rintro _ _ _ ⟨rfl, rfl⟩
  have e0 : decide ((1 : Int) < 0) = false := rfl
  simp only [RB.slices_insertionSortCmpFunc_local_entry_2, go_sem, e0]

theorem so_pdqNil {m : Mem} {v fv : Value} {lim : Nat} : WC R F.slices_pdqsortCmpFunc_local_entry [v, .int .i64 0, .int .i64 0, .int .i64 lim, fv] m fun r m' => m' = m := by
  refine WC.of R.slices_pdqsortCmpFunc_local_entry rfl ?_
  simp only [RC.slices_pdqsortCmpFunc_local_entry, go_sem]
  refine WL.of (fun r e m' => m' = m ∧ e = [(0, v), (1, .int .i64 0), (2, .int .i64 0), (3, .int .i64 lim), (4, fv), (10, .bool true), (11, .bool true)]) 0 ⟨rfl, by simp only [go_sem] <;> rfl⟩ ?_
  rintro _ _ _ ⟨rfl, rfl⟩
  have w : IntKind.wrap .i64 (0 - 0) = 0 := rfl
  have e0 : decide ((0 : Int) ≤ 12) = true := rfl
  simp only [RB.slices_pdqsortCmpFunc_local_entry_1, go_sem, w, e0]
  refine gC.of so_insNil ?_
  rintro _ m1 rfl
  simp only [go_sem]

theorem so_sortNil {m : Mem} {fv : Value} : WC R F.slices_SortFunc_local_entry_local_entry [.slice none 0 0, fv] m fun r m' => m' = m := by
  refine WC.of R.slices_SortFunc_local_entry_local_entry rfl ?_
  have hlen : aLen (.slice none 0 0) = some (.int .i64 0) := rfl
  simp only [RC.slices_SortFunc_local_entry_local_entry, go_sem, hlen]
  refine gC.of (so_len (x := BitVec.ofInt 64 0) (by decide)) ?_
  rintro _ _ ⟨rfl, hm⟩
  subst hm
  simp only [go_sem]
  refine gC.of so_pdqNil ?_
  rintro _ m1 rfl
  simp only [go_sem]

/-- One's own row, sorted. -/
theorem so_own {m0 m : Mem} {l : List α} {f : α → List Value} {v : Value} {cf : α → α → Int} {g : Nat} (hf : ∀ a, (f a).length = 3) (h1 : ∀ a, oneCells (f a) = true)
    (hcmp : ∀ (m : Mem) (x y : α), WC R g [.agg (f x).toArray, .agg (f y).toArray] m fun r m' => r = .int .i64 (cf x y) ∧ Ext m m')
    (hO : SWO fun x y => decide (cf x y < 0)) (ho : Own m0 m 3 l.length (l.flatMap f) v) (hx0 : Ext m0 m) (hl : l.length < 1000000) :
    WC R F.slices_SortFunc_local_entry_local_entry [v, .func (.func g) #[] #[]] m fun r m' => ∃ l' : List α, l'.Perm l ∧ l'.Pairwise (fun x y => ¬ cf y x < 0) ∧ Own m0 m' 3 l'.length (l'.flatMap f) v ∧ Ext m0 m' ∧ Upd m m' (vb v) := by
  cases ho with
  | nil h hc =>
    have e := List.eq_nil_of_length_eq_zero h
    subst e
    refine WC.mono so_sortNil ?_
    rintro _ m1 rfl
    exact ⟨[], .nil, .nil, .nil rfl rfl, hx0, Upd.refl _ _⟩
  | @«at» b c all hb hb2 hnc hm hal hcs hone =>
    let S : SortC R α 3 := ⟨f, hf, h1, cf, g, hcmp, b, 0, l.length, c, [], all.drop (l.length * 3), rfl, m, hl⟩
    have hrow : S.Row m l.toArray := ⟨by show m.blk b = _; rw [hm, ← hcs]; show _ = some (AObj.cells ([] ++ all.take (l.length * 3) ++ all.drop (l.length * 3)) _); rw [List.nil_append, List.take_append_drop], hb2, by simp [S], Upd.refl _ _⟩
    refine WC.mono (so_sort (S := S) hrow hO) ?_
    rintro _ m1 ⟨d', hr, ⟨hsz, -, hp⟩, hs⟩
    have hp : d'.toList.Perm l := by
      have e : d'.extract 0 l.toArray.size = d' := by rw [← hsz]; exact Array.extract_size
      rw [e, Array.extract_size] at hp
      exact hp
    have hlen : d'.toList.length = l.length := hp.length_eq
    have hu : Upd m m1 [b] := hr.upd
    refine ⟨d'.toList, hp, ?_, ?_, hu.ext_of hx0 (by simpa using hb), hu⟩
    · rw [List.pairwise_iff_getElem]
      intro i j hi hj hij
      have := hs i j (Nat.zero_le _) hij (by simpa [← hlen] using hj)
      rw [getElem!_pos d' j (by simpa using hj), getElem!_pos d' i (by simpa using hi)] at this
      have := of_decide_eq_false this
      simpa using this
    · rw [hlen]
      have hfl : (d'.toList.flatMap f).length = l.length * 3 := by rw [flat_len hf, hlen]
      refine .at (all := d'.toList.flatMap f ++ all.drop (l.length * 3)) hb hr.lt hnc hr.at_ ?_ ?_ ?_
      · have e1 : l.length * 3 ≤ c * 3 := Nat.mul_le_mul_right _ hnc
        rw [List.length_append, hfl, List.length_drop, hal]; omega
      · rw [List.take_left' hfl]
      · unfold oneCells
        rw [List.all_eq_true]
        intro x hx
        obtain ⟨y, _, hy⟩ := List.mem_flatMap.1 hx
        have := h1 y
        unfold oneCells at this
        exact List.all_eq_true.1 this x hy
end Go.Am


/- Rows of spans, with no program in sight: what is in one; that a right row is told by what is in it; how many numbers there are. -/
set_option linter.unusedVariables false
set_option linter.unusedSimpArgs false
namespace Go.Am

abbrev Sp := Int × Int
instance : Inhabited Sp := ⟨(0, 0)⟩
def spV (s : Sp) : List Value := [.int .i64 s.1, .int .i64 s.2]
theorem spV_len (s : Sp) : (spV s).length = 2 := rfl
def InS (l : List Sp) (x : Int) : Prop := ∃ s ∈ l, s.1 ≤ x ∧ x < s.2
def hasS (l : List Sp) (x : Int) : Bool := l.any fun s => decide (s.1 ≤ x) && decide (x < s.2)
theorem hasS_iff {l : List Sp} {x : Int} : hasS l x = true ↔ InS l x := by
  simp only [hasS, InS, List.any_eq_true, Bool.and_eq_true, decide_eq_true_eq]
theorem InS.nil {x : Int} : ¬ InS [] x := by rintro ⟨s, h, _⟩; simp at h
theorem InS.cons {s : Sp} {l : List Sp} {x : Int} : InS (s :: l) x ↔ (s.1 ≤ x ∧ x < s.2) ∨ InS l x := by
  unfold InS; simp
theorem InS.append {a b : List Sp} {x : Int} : InS (a ++ b) x ↔ InS a x ∨ InS b x := by
  unfold InS
  constructor
  · rintro ⟨s, h, h1⟩
    rcases List.mem_append.1 h with h | h
    · exact .inl ⟨s, h, h1⟩
    · exact .inr ⟨s, h, h1⟩
  · rintro (⟨s, h, h1⟩ | ⟨s, h, h1⟩)
    · exact ⟨s, List.mem_append.2 (.inl h), h1⟩
    · exact ⟨s, List.mem_append.2 (.inr h), h1⟩
theorem InS.single {s : Sp} {x : Int} : InS [s] x ↔ s.1 ≤ x ∧ x < s.2 := by
  unfold InS; simp
theorem InS.snoc {a : List Sp} {s : Sp} {x : Int} : InS (a ++ [s]) x ↔ InS a x ∨ (s.1 ≤ x ∧ x < s.2) := by
  rw [InS.append, InS.single]

/-- A row that is right: none is empty, and there is a number between any two. -/
def Rt (l : List Sp) : Prop := (∀ s ∈ l, s.1 < s.2) ∧ l.Pairwise fun s t => s.2 < t.1
theorem Rt.nil : Rt [] := ⟨by simp, .nil⟩
theorem Rt.cons {s : Sp} {l : List Sp} : Rt (s :: l) ↔ s.1 < s.2 ∧ (∀ t ∈ l, s.2 < t.1) ∧ Rt l := by
  unfold Rt
  rw [List.pairwise_cons]
  constructor
  · rintro ⟨h1, h2, h3⟩
    exact ⟨h1 s (by simp), h2, fun t ht => h1 t (by simp [ht]), h3⟩
  · rintro ⟨h1, h2, h3, h4⟩
    refine ⟨fun t ht => ?_, h2, h4⟩
    rcases List.mem_cons.1 ht with rfl | h
    · exact h1
    · exact h3 t h
theorem Rt.snoc {s : Sp} {l : List Sp} : Rt (l ++ [s]) ↔ Rt l ∧ s.1 < s.2 ∧ ∀ t ∈ l, t.2 < s.1 := by
  unfold Rt
  rw [List.pairwise_append]
  constructor
  · rintro ⟨h1, h2, -, h3⟩
    exact ⟨⟨fun t ht => h1 t (by simp [ht]), h2⟩, h1 s (by simp), fun t ht => h3 t ht s (by simp)⟩
  · rintro ⟨⟨h1, h2⟩, h3, h4⟩
    refine ⟨fun t ht => ?_, h2, List.pairwise_singleton _ _, fun t ht u hu => ?_⟩
    · rcases List.mem_append.1 ht with h | h
      · exact h1 t h
      · rw [List.mem_singleton.1 h]; exact h3
    · rw [List.mem_singleton.1 hu]; exact h4 t ht

/-- A right row is told by what is in it. -/
theorem Rt.eq : ∀ {a b : List Sp}, Rt a → Rt b → (∀ x, InS a x ↔ InS b x) → a = b
  | [], [], _, _, _ => rfl
  | [], t :: b, _, hb, h => by
    have := (h t.1).2 (InS.cons.2 (.inl ⟨Int.le_refl _, (Rt.cons.1 hb).1⟩))
    exact absurd this InS.nil
  | s :: a, [], ha, _, h => by
    have := (h s.1).1 (InS.cons.2 (.inl ⟨Int.le_refl _, (Rt.cons.1 ha).1⟩))
    exact absurd this InS.nil
  | s :: a, t :: b, ha, hb, h => by
    obtain ⟨a1, a2, a3⟩ := Rt.cons.1 ha
    obtain ⟨b1, b2, b3⟩ := Rt.cons.1 hb
    have ga : ∀ x, InS a x → s.2 < x := by rintro x ⟨u, hu, h1, _⟩; have := a2 u hu; omega
    have gb : ∀ x, InS b x → t.2 < x := by rintro x ⟨u, hu, h1, _⟩; have := b2 u hu; omega
    have k : ∀ x, ((s.1 ≤ x ∧ x < s.2) ∨ InS a x) ↔ ((t.1 ≤ x ∧ x < t.2) ∨ InS b x) := fun x => by rw [← InS.cons, ← InS.cons]; exact h x
    have e1 : s.1 = t.1 := by
      have h1 : t.1 ≤ s.1 := by
        rcases (k s.1).1 (.inl ⟨Int.le_refl _, a1⟩) with h | h
        · exact h.1
        · have := gb _ h; omega
      have h2 : s.1 ≤ t.1 := by
        rcases (k t.1).2 (.inl ⟨Int.le_refl _, b1⟩) with h | h
        · exact h.1
        · have := ga _ h; omega
      omega
    have e2 : s.2 = t.2 := by
      have h1 : ¬ s.2 < t.2 := fun hlt => by
        rcases (k s.2).2 (.inl ⟨by omega, hlt⟩) with h | h
        · omega
        · have := ga _ h; omega
      have h2 : ¬ t.2 < s.2 := fun hlt => by
        rcases (k t.2).1 (.inl ⟨by omega, hlt⟩) with h | h
        · omega
        · have := gb _ h; omega
      omega
    have e : s = t := Prod.ext e1 e2
    subst e
    congr 1
    refine Rt.eq a3 b3 fun x => ?_
    have kx := k x
    constructor
    · intro hx
      have := ga x hx
      rcases kx.1 (.inr hx) with h | h
      · omega
      · exact h
    · intro hx
      have := gb x hx
      rcases kx.2 (.inr hx) with h | h
      · omega
      · exact h

theorem Rt.none {a : List Sp} (h : Rt a) (hn : ∀ x, ¬ InS a x) : a = [] :=
  Rt.eq h Rt.nil fun x => ⟨fun hx => absurd hx (hn x), fun hx => absurd hx InS.nil⟩

/-! ### Steps -/
theorem Rt.put {r : List Sp} {s : Sp} (h : Rt r) (h1 : s.1 < s.2) (h2 : ∀ t ∈ r, t.2 < s.1) : Rt (r ++ [s]) := Rt.snoc.2 ⟨h, h1, h2⟩
/-- The last one goes on. -/
theorem Rt.more {r : List Sp} {t : Sp} {e : Int} (h : Rt (r ++ [t])) (h1 : t.2 ≤ e) : Rt (r ++ [(t.1, e)]) := by
  obtain ⟨h2, h3, h4⟩ := Rt.snoc.1 h
  exact Rt.snoc.2 ⟨h2, by show t.1 < e; omega, h4⟩
theorem Rt.last {r : List Sp} {t : Sp} (h : Rt (r ++ [t])) {u : Sp} (hu : u ∈ r ++ [t]) : u.2 ≤ t.2 := by
  obtain ⟨h2, h3, h4⟩ := Rt.snoc.1 h
  rcases List.mem_append.1 hu with h | h
  · have := h4 u h; omega
  · rw [List.mem_singleton.1 h]; omega

/-! ### How many -/
def sumS (l : List Sp) : Int := (l.map fun s => s.2 - s.1).foldr (· + ·) 0
theorem sumS_cons {s : Sp} {l : List Sp} : sumS (s :: l) = (s.2 - s.1) + sumS l := rfl

def cnt (p : Int → Bool) (lo : Int) (n : Nat) : Int := ((List.range n).countP fun (i : Nat) => p (lo + i))
theorem cnt_succ {p : Int → Bool} {lo : Int} {n : Nat} : cnt p lo (n + 1) = cnt p lo n + (if p (lo + n) then 1 else 0) := by
  unfold cnt
  rw [List.range_succ, List.countP_append]
  simp only [List.countP_cons, List.countP_nil]
  split <;> simp
theorem cnt_or {p q : Int → Bool} {lo : Int} (h : ∀ x, ¬ (p x = true ∧ q x = true)) : ∀ {n : Nat}, cnt (fun x => p x || q x) lo n = cnt p lo n + cnt q lo n
  | 0 => rfl
  | n + 1 => by
    rw [cnt_succ, cnt_succ, cnt_succ, cnt_or h]
    have := h (lo + n)
    cases hp : p (lo + n) <;> cases hq : q (lo + n) <;> simp [hp, hq] at this ⊢ <;> omega
theorem cnt_congr {p q : Int → Bool} {lo : Int} {n : Nat} (h : ∀ x, p x = q x) : cnt p lo n = cnt q lo n := by
  have : p = q := funext h
  rw [this]
theorem cnt_none {lo : Int} : ∀ {n : Nat}, cnt (fun _ => false) lo n = 0
  | 0 => rfl
  | n + 1 => by rw [cnt_succ, cnt_none]; rfl
theorem cnt_span {a b lo : Int} (h1 : lo ≤ a) (h2 : a ≤ b) : ∀ {n : Nat}, b ≤ lo + n → cnt (fun x => decide (a ≤ x) && decide (x < b)) lo n = b - a := by
  have key : ∀ n : Nat, cnt (fun x => decide (a ≤ x) && decide (x < b)) lo n = (if lo + n ≤ a then 0 else if lo + n ≤ b then lo + n - a else b - a) := by
    intro n
    induction n with
    | zero =>
      show (0 : Int) = _
      rw [if_pos (by omega)]
    | succ n ih =>
      rw [cnt_succ, ih]
      by_cases c1 : a ≤ lo + n
      · by_cases c2 : lo + n < b
        · simp only [c1, c2, decide_true, Bool.and_self, if_true]
          rw [if_neg (show ¬ lo + ((n + 1 : Nat) : Int) ≤ a by omega), if_pos (show lo + ((n + 1 : Nat) : Int) ≤ b by omega)]
          by_cases c3 : lo + (n : Int) ≤ a
          · rw [if_pos c3]; omega
          · rw [if_neg c3, if_pos (by omega)]; omega
        · simp only [c1, c2, decide_true, decide_false, Bool.and_false, Bool.false_eq_true, if_false]
          rw [if_neg (show ¬ lo + ((n + 1 : Nat) : Int) ≤ a by omega), if_neg (show ¬ lo + ((n + 1 : Nat) : Int) ≤ b by omega)]
          by_cases c3 : lo + (n : Int) ≤ a
          · rw [if_pos c3]; omega
          · rw [if_neg c3]
            by_cases c4 : lo + (n : Int) ≤ b
            · rw [if_pos c4]; omega
            · rw [if_neg c4]; omega
      · simp only [c1, decide_false, Bool.false_and, Bool.false_eq_true, if_false]
        rw [if_pos (show lo + (n : Int) ≤ a by omega), if_pos (show lo + ((n + 1 : Nat) : Int) ≤ a by omega)]
        omega
  intro n h
  rw [key]
  by_cases c : lo + (n : Int) ≤ a
  · rw [if_pos c]; omega
  · rw [if_neg c]
    by_cases c2 : lo + (n : Int) ≤ b
    · rw [if_pos c2]; omega
    · rw [if_neg c2]

theorem Rt.cnt {lo : Int} {n : Nat} : ∀ {l : List Sp}, Rt l → (∀ s ∈ l, lo ≤ s.1 ∧ s.2 ≤ lo + n) → cnt (hasS l) lo n = sumS l
  | [], _, _ => by
    rw [show sumS [] = 0 from rfl, ← cnt_none (lo := lo) (n := n)]
    exact cnt_congr fun x => rfl
  | s :: l, h, hb => by
    obtain ⟨h1, h2, h3⟩ := Rt.cons.1 h
    have hs := hb s (by simp)
    rw [sumS_cons, ← Rt.cnt h3 (fun t ht => hb t (by simp [ht])), ← cnt_span hs.1 (by omega) hs.2, ← cnt_or]
    · exact cnt_congr fun x => by unfold hasS; rw [List.any_cons]
    · rintro x ⟨h4, h5⟩
      simp only [Bool.and_eq_true, decide_eq_true_eq] at h4
      obtain ⟨t, ht, h6, h7⟩ := hasS_iff.1 h5
      have := h2 t ht
      omega

theorem bounds : ∀ (l : List Sp), ∃ lo : Int, ∃ n : Nat, ∀ s ∈ l, lo ≤ s.1 ∧ s.2 ≤ lo + n
  | [] => ⟨0, 0, by simp⟩
  | s :: l => by
    obtain ⟨lo, n, h⟩ := bounds l
    refine ⟨min lo s.1, (max (lo + n) s.2 - min lo s.1).toNat, fun t ht => ?_⟩
    rcases List.mem_cons.1 ht with rfl | ht
    · omega
    · have := h t ht; omega

/-- Two rows with nothing in common: as many as both. -/
theorem Rt.sum {a b c : List Sp} (ha : Rt a) (hb : Rt b) (hc : Rt c) (h : ∀ x, InS c x ↔ InS a x ∨ InS b x) (hd : ∀ x, ¬ (InS a x ∧ InS b x)) : sumS a + sumS b = sumS c := by
  obtain ⟨lo, n, hx⟩ := bounds (a ++ (b ++ c))
  rw [← ha.cnt (lo := lo) (n := n) (fun s hs => hx s (by simp [hs])), ← hb.cnt (lo := lo) (n := n) (fun s hs => hx s (by simp [hs])), ← hc.cnt (lo := lo) (n := n) (fun s hs => hx s (by simp [hs])), ← cnt_or]
  · refine (cnt_congr fun x => ?_).symm
    rw [Bool.eq_iff_iff, Bool.or_eq_true, hasS_iff, hasS_iff, hasS_iff]; exact h x
  · rintro x ⟨h1, h2⟩
    exact hd x ⟨hasS_iff.1 h1, hasS_iff.1 h2⟩

end Go.Am


/- OrderUnits over the table of tt (relayset.py). -/
set_option linter.unusedVariables false
set_option linter.unusedSimpArgs false
namespace Go.Am
variable {m : Mem}

def isU (u : Int) : Prop := 1 ≤ u ∧ u ≤ 200 ∨ 1001 ≤ u ∧ u ≤ 1040

theorem Kind_spec {u : Int} : WC R F.order_Kind [.int .i64 u] m fun v m' => ((isU u ∧ v = .tuple #[.int .i64 (if 1000 < u then u - 1000 else u), .bool (decide (1000 < u)), .bool true]) ∨ (¬ isU u ∧ v = .tuple #[.int .i64 0, .bool false, .bool false])) ∧ m' = m := by
  refine WC.of R.order_Kind rfl ?_
  simp only [RC.order_Kind, go_sem]
  repeat' (refine gT.of (fun h => ?_) (fun h => ?_) <;> try simp only [go_sem, *])
  all_goals simp only [decide_eq_true_eq, decide_eq_false_iff_not] at *
  · exact .inl ⟨by unfold isU; omega, by simp [show ¬ 1000 < u by omega]⟩
  · exact .inl ⟨by unfold isU; omega, by rw [wrap_i64 (by omega) (by omega)]; simp [show 1000 < u by omega]⟩
  all_goals (refine .inr ?_; first | exact ⟨by unfold isU; omega, rfl⟩ | (unfold isU; omega) | skip)
end Go.Am


/- OrderD over the table of tt (relayset.py). -/
set_option linter.unusedVariables false
set_option linter.unusedSimpArgs false
namespace Go.Am
abbrev inR (n : Int) : Prop := -9223372036854775808 ≤ n ∧ n ≤ 9223372036854775807

theorem wrap_hi {x : Int} (h1 : 9223372036854775808 ≤ x) (h2 : x ≤ 18446744073709551614) : IntKind.wrap .i64 x = x - 18446744073709551616 := by
  have e : IntKind.wrap .i64 x = IntKind.wrap .i64 (x - 18446744073709551616) := by
    unfold IntKind.wrap
    simp [IntKind.bits, IntKind.signed]
  rw [e, wrap_i64 (by omega) (by omega)]
theorem wrap_lo {x : Int} (h1 : x ≤ -9223372036854775809) (h2 : -18446744073709551616 ≤ x) : IntKind.wrap .i64 x = x + 18446744073709551616 := by
  have e : IntKind.wrap .i64 x = IntKind.wrap .i64 (x + 18446744073709551616) := by
    unfold IntKind.wrap
    simp [IntKind.bits, IntKind.signed]
  rw [e, wrap_i64 (by omega) (by omega)]

/-- All shares together; none: it runs over. -/
def totO (n : Int) : List Sp → Option Int
  | [] => some n
  | w :: r => if inR (n + w.2) then totO (n + w.2) r else none

/-- What is wrong with the first one that is not right. -/
noncomputable def chkF (f : Int) (pre : List Sp) : List Sp → Int
  | [] => 0
  | w :: r => open Classical in if ¬ isU w.1 then 20 else if w.2 < 1 ∨ f < w.2 then 21 else if ∃ p ∈ pre, p.1 = w.1 then 11 else chkF f (pre ++ [w]) r
end Go.Am


/- Cuts of slices. -/
set_option linter.unusedVariables false
set_option linter.unusedSimpArgs false
namespace Go.Am

/-- A slice that may be cut. -/
def Cut (u : Nat) (m : Mem) (v : Value) : Prop := ∀ b o n c, v = .slice (some ⟨b, o, none⟩) n c → unitOk u m b = true
theorem Cutable.cut {u : Nat} {m : Mem} {v : Value} (h : Cutable m v) : Cut u m v := fun b o n c e => by subst e; exact h.unit
theorem Own.cut {m0 m : Mem} {u n : Nat} {cs : List Value} {v : Value} (h : Own m0 m u n cs v) : Cut u m v := by
  intro b o n' c e
  cases h with
  | nil => cases e
  | «at» hb hb2 hn hm hl hcs h1 => cases e; exact unitOk_own hm
theorem Cut.keep {u : Nat} {m m' : Mem} {v : Value} (h : Cut u m v) (hb : SlLt m v) (hx : Ext m m') : Cut u m' v := by
  intro b o n c e
  have := h b o n c e
  subst e
  unfold unitOk at this ⊢
  rw [hx.same b hb]; exact this

theorem aCells_split {m : Mem} {b o n k : Nat} {cs : List Value} (h : aCells m b o n = some cs) (hk : k ≤ n) : aCells m b o k = some (cs.take k) ∧ aCells m b (o + k) (n - k) = some (cs.drop k) := by
  unfold aCells at h ⊢
  split at h
  · rename_i c w hm
    split at h
    · rename_i hle
      cases h
      constructor
      · rw [if_pos (by omega), List.take_take, Nat.min_eq_left hk]
      · rw [if_pos (by omega), ← List.drop_drop, List.drop_take]
    · cases h
  · cases h

theorem Sl.to {m : Mem} {u n : Nat} {cs : List Value} {v : Value} (h : Sl m u n cs v) (hc : Cut u m v) {k : IntKind} {i : Nat} (hi : i ≤ n) :
    ∃ v', aSub u m v none (some (.int k i)) none = some v' ∧ Sl m u i (cs.take (i * u)) v' ∧ (SlLt m v → SlLt m v') ∧ Cut u m v' := by
  cases h with
  | nil h hcs =>
    subst hcs
    have : i = 0 := by omega
    subst this
    exact ⟨.slice none 0 0, rfl, .nil rfl (by simp), id, fun _ _ _ _ e => by cases e⟩
  | @«at» b o c hnc h =>
    have hu := hc b o n c rfl
    refine ⟨.slice (some ⟨b, o, none⟩) i c, sub_to hu (by omega), .at (by omega) (aCells_split h (Nat.mul_le_mul_right _ hi)).1, id, fun _ _ _ _ e => by cases e; exact hu⟩

theorem Sl.from {m : Mem} {u n : Nat} {cs : List Value} {v : Value} (h : Sl m u n cs v) (hc : Cut u m v) {k : IntKind} {i : Nat} (hi : i ≤ n) :
    ∃ v', aSub u m v (some (.int k i)) none none = some v' ∧ Sl m u (n - i) (cs.drop (i * u)) v' ∧ (SlLt m v → SlLt m v') ∧ Cut u m v' := by
  cases h with
  | nil h hcs =>
    subst hcs
    have : i = 0 := by omega
    subst this
    exact ⟨.slice none 0 0, rfl, .nil (by omega) (by simp), id, fun _ _ _ _ e => by cases e⟩
  | @«at» b o c hnc h =>
    have hu := hc b o n c rfl
    refine ⟨.slice (some ⟨b, o + i * u, none⟩) (n - i) (c - i), sub_from hu hi hnc, .at (by omega) ?_, id, fun _ _ _ _ e => by cases e; exact hu⟩
    rw [Nat.sub_mul]
    exact (aCells_split h (Nat.mul_le_mul_right _ hi)).2

end Go.Am


/- One's own slice whose first block is older than what else is there: only that block, and newer ones, are touched. -/
set_option linter.unusedVariables false
set_option linter.unusedSimpArgs false
namespace Go.Am

theorem app_updA {at_ : Option Nat} {u by_ M : Nat} {m m' : Mem} {v v' x : Value} (h : aApp at_ u by_ m v x = some (v', m')) (ha : ∀ k, at_ = some k → M ≤ k) (hM : M ≤ m.next) :
    m.next ≤ m'.next ∧ (∀ b, b < M → b ∉ vb v → m'.blk b = m.blk b) ∧ (vb v' = vb v ∨ ∃ k, vb v' = [k] ∧ M ≤ k) := by
  have hpl : ∀ (m1 : Mem) (o : AObj), m1.next = m.next → m.next ≤ (place at_ m1 o).2.next ∧ (∀ b, b < M → (place at_ m1 o).2.blk b = m1.blk b) ∧ M ≤ (place at_ m1 o).1 := by
    intro m1 o h1
    unfold place
    split
    · refine ⟨by show m.next ≤ m1.next + 1; omega, fun b hb => ?_, by show M ≤ m1.next; omega⟩
      show (if b = m1.next then _ else _) = _
      rw [if_neg (by omega)]
    · rename_i k
      have := ha k rfl
      refine ⟨by show m.next ≤ m1.next; omega, fun b hb => ?_, this⟩
      show (if b = k then _ else _) = _
      rw [if_neg (by omega)]
  unfold aApp at h
  rw [Option.bind_eq_some_iff] at h
  obtain ⟨n, hn, h⟩ := h
  rw [Option.bind_eq_some_iff] at h
  obtain ⟨xs, hxs, h⟩ := h
  split at h
  · split at h
    · cases h; exact ⟨Nat.le_refl _, fun _ _ _ => rfl, .inl rfl⟩
    · split at h
      · obtain ⟨p1, p2, p3⟩ := hpl m (.cells xs (some u)) rfl
        generalize place at_ m (.cells xs (some u)) = P at h p1 p2 p3
        obtain ⟨b, m1⟩ := P
        cases h
        exact ⟨p1, fun b hb _ => p2 b hb, .inr ⟨_, rfl, p3⟩⟩
      · cases h
  · rename_i b o l c
    split at h
    · split at h
      · cases h; exact ⟨Nat.le_refl _, fun _ _ _ => rfl, .inl rfl⟩
      · cases h
    · split at h
      · rw [Option.map_eq_some_iff] at h
        obtain ⟨m1, h1, h2⟩ := h
        cases h2
        obtain ⟨a1, a2⟩ := aWrite_upd h1
        refine ⟨by omega, fun x hx hn => ?_, .inl rfl⟩
        exact a1.same x (by omega) hn
      · split at h
        · rename_i cs own hb
          split at h
          · have hs : ∀ c : Bool, (if c = true then m.set b none else m).next = m.next ∧ ∀ x, x ≠ b → (if c = true then m.set b none else m).blk x = m.blk x := by
              intro c
              cases c
              · exact ⟨rfl, fun _ _ => rfl⟩
              · refine ⟨rfl, fun x hx => ?_⟩
                show (if x = b then _ else _) = _
                rw [if_neg hx]
            simp only [] at h
            generalize hm1 : (if own.isSome = true ∧ o + c * u = cs.length then m.set b none else m) = m1 at h
            have hs1 : m1.next = m.next ∧ ∀ x, x ≠ b → m1.blk x = m.blk x := by
              rw [← hm1]
              split
              · exact hs true
              · exact hs false
            obtain ⟨p1, p2, p3⟩ := hpl m1 (.cells (List.take (l * u) (List.drop o cs) ++ xs) (some u)) hs1.1
            generalize place at_ m1 (.cells (List.take (l * u) (List.drop o cs) ++ xs) (some u)) = P at h p1 p2 p3
            obtain ⟨b', m2⟩ := P
            cases h
            refine ⟨p1, fun x hx hn => ?_, .inr ⟨_, rfl, p3⟩⟩
            rw [p2 x hx, hs1.2 x (by intro e; apply hn; simp [vb, e])]
          · cases h
        · cases h
  · cases h

theorem Own.ge {m0 m : Mem} {u n : Nat} {cs : List Value} {v : Value} (h : Own m0 m u n cs v) : ∀ b ∈ vb v, m0.next ≤ b := by
  cases h with
  | nil => intro b hb; simp [vb] at hb
  | «at» hb hb2 hn hm hl hcs h1 => intro b' hb'; simp [vb] at hb'; subst hb'; exact hb

structure OwnQ (m0 mb m : Mem) (q u n : Nat) (cs : List Value) (v : Value) : Prop where
  own : Own m0 m u n cs v
  upd : Upd mb m [q]
  at_ : ∀ b ∈ vb v, b = q ∨ mb.next ≤ b
  ext : Ext m0 m

variable {m0 mb m m' : Mem} {q u n : Nat} {cs : List Value} {v : Value}
theorem OwnQ.keep (h : OwnQ m0 mb m q u n cs v) (hx : Ext m m') : OwnQ m0 mb m' q u n cs v :=
  ⟨h.own.keep hx, h.upd.trans hx.upd (fun _ h => h) (fun _ h => .inl h), h.at_, h.ext.trans hx⟩

theorem OwnQ.app {by_ : Nat} {es : List Value} (h : OwnQ m0 mb m q u n cs v) (hu : 0 < u) (he : es.length = u) (h1 : oneCells es = true) (hby : (n + 1) * by_ ≤ 2 ^ 47) (hn : n + 1 < 2 ^ 62) :
    ∃ v' m', aApp none u by_ (m.new (.cells es (some u))) v (.slice (some ⟨m.next, 0, none⟩) 1 1) = some (v', m') ∧ OwnQ m0 mb m' q u (n + 1) (cs ++ es) v' := by
  obtain ⟨v', m', e1, e2, e3⟩ := h.own.app (by_ := by_) h.ext hu he h1 hby hn
  have hx : Ext m (m.new (.cells es (some u))) := Ext.new
  obtain ⟨a1, a2, a3⟩ := app_updA (M := (m.new (.cells es (some u))).next) e1 (fun k hk => by cases hk) (Nat.le_refl _)
  refine ⟨v', m', e1, e2, ?_, fun b hb => ?_, e3⟩
  · have hk := h.keep hx
    refine ⟨Nat.le_trans hk.upd.next a1, fun b hb hn => ?_⟩
    have hb2 := hk.upd.next
    rw [a2 b (by omega) (fun hm => by exact (h.at_ b hm).elim (fun e => hn (by simp [e])) (fun e => by omega)), hk.upd.same b hb hn]
  · have := h.upd.next
    have := hx.next
    rcases a3 with e | ⟨k, e, hk⟩
    · rw [e] at hb; exact h.at_ b hb
    · rw [e] at hb; simp at hb; subst hb; exact .inr (by omega)

theorem OwnQ.appD {by_ N s t : Nat} {es : List Value} (h : OwnQ m0 mb m q u n cs v) (he : es.length = u) (h1 : oneCells es = true) (hby : (n + 1) * by_ ≤ 2 ^ 47) (hn : n + 1 < 2 ^ 62) (hs : s < N) (ht : t < N) :
    ∃ v' m', aApp (some (m.next + t)) u by_ ((m.bump N).set (m.next + s) (some (.cells es (some u)))) v (.slice (some ⟨m.next + s, 0, none⟩) 1 1) = some (v', m') ∧ OwnQ m0 mb m' q u (n + 1) (cs ++ es) v' := by
  obtain ⟨v', m', e1, e2, e3⟩ := h.own.appD (by_ := by_) h.ext he h1 hby hn hs ht
  have hx : Ext m ((m.bump N).set (m.next + s) (some (.cells es (some u)))) := Ext.set ⟨by simp, fun b hb => rfl⟩ (by omega)
  obtain ⟨a1, a2, a3⟩ := app_updA (M := m.next) e1 (fun k hk => by cases hk; omega) hx.next
  refine ⟨v', m', e1, e2, ?_, fun b hb => ?_, e3⟩
  · have hk := h.keep hx
    refine ⟨Nat.le_trans hk.upd.next a1, fun b hb hn => ?_⟩
    have hb2 := h.upd.next
    rw [a2 b (by omega) (fun hm => by exact (h.at_ b hm).elim (fun e => hn (by simp [e])) (fun e => by omega)), hk.upd.same b hb hn]
  · have := h.upd.next
    rcases a3 with e | ⟨k, e, hk⟩
    · rw [e] at hb; exact h.at_ b hb
    · rw [e] at hb; simp at hb; subst hb; exact .inr (by omega)

theorem OwnQ.put {w : Value} {k : IntKind} {i o : Nat} (h : OwnQ m0 mb m q u n cs v) (hi : i < n) (ho : o < u) (hw : w.cells = #[w]) (hone : w.oneCell' = true) :
    ∃ b m', aIdxS u v (.int k i) = some (.pointer (some ⟨b, i * u, none⟩)) ∧ aStore 1 m (.pointer (some ⟨b, i * u + o, none⟩)) w = some m' ∧ OwnQ m0 mb m' q u n (cs.set (i * u + o) w) v := by
  obtain ⟨b, m', e1, e2, e3, e4⟩ := h.own.put (k := k) h.ext hi ho hw hone
  refine ⟨b, m', e1, e2, e3, ?_, h.at_, e4⟩
  have hbv : b ∈ vb v := by
    cases h.own with
    | nil h hc => omega
    | @«at» b2 c all hb hb2 hn hm hl hcs h1 =>
      simp only [aIdxS] at e1
      split at e1
      · have e1 := Option.some.inj e1
        simp only [Value.pointer.injEq, Option.some.injEq, Addr.mk.injEq] at e1
        rw [← e1.1]; simp [vb]
      · cases e1
  have hw' : aWrite m b (i * u + o) w.cells.toList = some m' := by
    simp only [aStore] at e2
    split at e2
    · exact e2
    · cases e2
  obtain ⟨a1, a2⟩ := aWrite_upd hw'
  refine ⟨by have := h.upd.next; omega, fun x hx hn => ?_⟩
  have := h.upd.next
  rw [a1.same x (by omega) (by simp; intro e; subst e; exact (h.at_ x hbv).elim (fun e => hn (by simp [e])) (fun e => by omega)), h.upd.same x hx hn]
end Go.Am


/- OrderW over the table of tt (relayset.py). -/
set_option linter.unusedVariables false
set_option linter.unusedSimpArgs false
namespace Go.Am
variable {m : Mem}

theorem step1 {i : Nat} (h : i < 1000000) : IntKind.wrap .i64 ((i : Int) + 1) = ((i + 1 : Nat) : Int) := by rw [wrap_i64 (by omega) (by omega)]; rfl

theorem fixAdd {a b : Int} (ha : inR a) (hb : inR b) : WC R F.fixq_Add [.int .i64 a, .int .i64 b] m fun v m' => ((inR (a + b) ∧ v = .tuple #[.int .i64 (a + b), .int .i64 0]) ∨ (¬ inR (a + b) ∧ v = .tuple #[.int .i64 0, .int .i64 5])) ∧ m' = m := by
  refine WC.of R.fixq_Add rfl ?_
  have hw : (inR (a + b) ∧ IntKind.wrap .i64 (a + b) = a + b) ∨ (9223372036854775808 ≤ a + b ∧ IntKind.wrap .i64 (a + b) = a + b - 18446744073709551616) ∨ (a + b ≤ -9223372036854775809 ∧ IntKind.wrap .i64 (a + b) = a + b + 18446744073709551616) := by
    unfold inR at ha hb
    by_cases h1 : a + b ≤ 9223372036854775807
    · by_cases h2 : -9223372036854775808 ≤ a + b
      · exact .inl ⟨⟨h2, h1⟩, wrap_i64 h2 h1⟩
      · exact .inr (.inr ⟨by omega, wrap_lo (by omega) (by omega)⟩)
    · exact .inr (.inl ⟨by omega, wrap_hi (by omega) (by omega)⟩)
  generalize hc : IntKind.wrap .i64 (a + b) = c at hw
  unfold inR at *
  simp only [RC.fixq_Add, go_sem]
  have t1 : (true == false) = false := rfl
  have t2 : (false == true) = false := rfl
  have t3 : (true == true) = true := rfl
  have t4 : (false == false) = true := rfl
  by_cases h1 : 0 ≤ a <;> by_cases h2 : 0 ≤ b <;> by_cases h3 : 0 ≤ c <;> simp only [go_sem, hc, h1, h2, h3, decide_true, decide_false, t1, t2, t3, t4]
  all_goals rcases hw with ⟨hr, e⟩ | ⟨hr, e⟩ | ⟨hr, e⟩
  all_goals first
    | (exfalso; omega)
    | (refine .inl ⟨by omega, ?_⟩; rw [e])
    | (refine .inr ⟨by omega, ?_⟩; first | rfl | trivial)
    | (omega)
    | trace_state

theorem totO_drop {l : List Sp} {i : Nat} (hi : i < l.length) {n : Int} : totO n (l.drop i) = if inR (n + l[i].2) then totO (n + l[i].2) (l.drop (i + 1)) else none := by
  rw [List.drop_eq_getElem_cons hi]; rfl

theorem orTotal {l : List Sp} {v : Value} (hs : Sl m 2 l.length (l.flatMap spV) v) (hb : SlLt m v) (hl : l.length < 100000) (hr : ∀ w ∈ l, inR w.2) :
    WC R F.order_Total [v] m fun r m' => ((∃ n, totO 0 l = some n ∧ r = .tuple #[.int .i64 n, .int .i64 0]) ∨ (totO 0 l = none ∧ r = .tuple #[.int .i64 0, .int .i64 5])) ∧ Ext m m' := by
  refine WC.of R.order_Total rfl ?_
  simp only [RC.order_Total, go_sem, hs.len]
  refine WL.of (fun k e m' => ∃ (i : Nat) (n : Int), i ≤ l.length ∧ k = l.length - i ∧ e = [(4, .int .i64 n), (9, v), (10, .int .i64 l.length), (11, .int .i64 i)] ∧ inR n ∧ totO 0 l = totO n (l.drop i) ∧ Ext m m') l.length
    ⟨0, 0, by omega, by omega, by simp only [go_sem] <;> rfl, by unfold inR; omega, rfl, Ext.refl _⟩ ?_
  rintro _ _ m1 ⟨i, n, hi, rfl, rfl, hn, ht, hx⟩
  simp only [RB.order_Total_1, go_sem]
  refine gT.of (fun g1' => ?_) (fun g1' => ?_) <;> (have g1 := g1'; try simp only [decide_eq_true_eq, decide_eq_false_iff_not, beq_iff_eq, bne_iff_ne, beq_eq_false_iff_ne, ne_eq, Bool.not_eq_true', Bool.not_eq_false', bne_eq_false_iff_eq, Int.not_lt, Int.not_le] at g1)
  · have hil : i < l.length := by omega
    have s1 := step1 (show i < 1000000 by omega)
    obtain ⟨p, o, a1, a2, -, -⟩ := (hs.keep hb hx).elem spV_len (k := .i64) hil
    have hri := hr _ (List.getElem_mem hil)
    rw [totO_drop hil] at ht
    simp only [go_sem, g1', a1, a2]
    generalize l[i] = w at hri ht ⊢
    have hst : aStore 2 (m1.new (.cells [(.int .i64 0), (.int .i64 0)] (some 2))) (.pointer (some ⟨m1.next, 0, none⟩)) (.agg (spV w).toArray) = some (m1.new (.cells [.int .i64 w.1, .int .i64 w.2] (some 2))) := by
      simp only [spV]
      simp only [go_sem, ruB]
    simp only [go_sem, hst]
    have hxx : Ext m1 (m1.new (.cells [.int .i64 w.1, .int .i64 w.2] (some 2))) := Ext.new
    have hbx : Bk (m1.new (.cells [.int .i64 w.1, .int .i64 w.2] (some 2))) m1.next [.int .i64 w.1, .int .i64 w.2] 2 := Bk.new
    generalize m1.new (.cells [.int .i64 w.1, .int .i64 w.2] (some 2)) = m2 at hbx hxx ⊢
    have c2 : aLoad false 1 m2 (.pointer (some ⟨m1.next, 1, none⟩)) = some (.int .i64 w.2) := by simp only [go_sem, ruB, hbx.at_]
    simp only [go_sem, c2]
    refine gC.of (fixAdd hn hri) ?_
    rintro _ _ ⟨⟨h1, rfl⟩ | ⟨h1, rfl⟩, hm⟩ <;> subst hm
    · rw [if_pos h1] at ht
      have e0 : ((0 : Int) != 0) = false := rfl
      simp only [go_sem, aExt0, aExt1, e0, s1]
      exact ⟨l.length - (i + 1), by omega, i + 1, n + w.2, by omega, rfl, rfl, h1, ht, hx.trans hxx⟩
    · rw [if_neg h1] at ht
      have e0 : ((5 : Int) != 0) = true := rfl
      simp only [go_sem, aExt0, aExt1, e0]
      exact ⟨.inr ht, hx.trans hxx⟩
  · have : i = l.length := by omega
    subst this
    rw [List.drop_length] at ht
    simp only [go_sem, g1']
    exact ⟨.inl ⟨n, ht, rfl⟩, hx⟩
end Go.Am


/- Maps whose keys are whole numbers. -/
set_option linter.unusedVariables false
namespace Go.Am
variable {α : Type}

def mpL (e : α → Value) (L : List (Int × α)) : List (Value × Value) := L.map fun p => (.int .i64 p.1, e p.2)
def lkp : List (Int × α) → Int → Option α
  | [], _ => none
  | (k, a) :: r, x => if k = x then some a else lkp r x
def updL : List (Int × α) → Int → α → List (Int × α)
  | [], x, a => [(x, a)]
  | (k, b) :: r, x, a => if k = x then (x, a) :: r else (k, b) :: updL r x a
def delL : List (Int × α) → Int → List (Int × α)
  | [], _ => []
  | (k, b) :: r, x => if k = x then r else (k, b) :: delL r x

theorem lkp_upd {L : List (Int × α)} {x y : Int} {a : α} : lkp (updL L x a) y = if y = x then some a else lkp L y := by
  induction L with
  | nil => simp only [updL, lkp]; by_cases h : x = y <;> simp [h]; intro e; exact absurd e.symm h
  | cons p r ih =>
    obtain ⟨k, b⟩ := p
    simp only [updL]
    by_cases h : k = x
    · subst h
      simp only [if_true, lkp]
      by_cases g : k = y
      · subst g; simp
      · rw [if_neg g, if_neg (fun e => g e.symm), if_neg g]
    · simp only [h, if_false, lkp]
      by_cases g : k = y
      · subst g; rw [if_pos rfl, if_neg h, if_pos rfl]
      · rw [if_neg g, ih, if_neg g]

theorem findK_mp {e : α → Value} {x : Int} : ∀ (L : List (Int × α)) (i : Nat), (lkp L x = none → findK .int (.int .i64 x) (mpL e L) i = some none ∧ ∀ a, mpL e L ++ [(.int .i64 x, e a)] = mpL e (updL L x a)) ∧
    ∀ a, lkp L x = some a → ∃ j, findK .int (.int .i64 x) (mpL e L) i = some (some (i + j, e a)) ∧ (∀ b, (mpL e L).set j (.int .i64 x, e b) = mpL e (updL L x b)) ∧ (mpL e L).eraseIdx j = mpL e (delL L x)
  | [], i => ⟨fun _ => ⟨rfl, fun a => rfl⟩, fun a h => by simp [lkp] at h⟩
  | (k, b) :: r, i => by
    by_cases h : k = x
    · subst h
      refine ⟨fun h => by simp [lkp] at h, fun a ha => ?_⟩
      simp only [lkp, if_true, Option.some.injEq] at ha
      subst ha
      refine ⟨0, ?_, fun b => ?_, ?_⟩
      · simp [mpL, findK, keyEq]
      · simp [mpL, updL]
      · simp [mpL, delL]
    · have hk : keyEq .int (.int .i64 x) (.int .i64 k) = some false := by simp [keyEq]; exact fun e => h e.symm
      have hf : findK .int (.int .i64 x) (mpL e ((k, b) :: r)) i = findK .int (.int .i64 x) (mpL e r) (i + 1) := by
        show (match keyEq .int (.int .i64 x) (.int .i64 k) with | some true => _ | some false => _ | none => _) = _
        rw [hk]; rfl
      obtain ⟨h1, h2⟩ := findK_mp (e := e) r (i + 1)
      refine ⟨fun hn => ?_, fun a ha => ?_⟩
      · simp only [lkp, h, if_false] at hn
        obtain ⟨g1, g2⟩ := h1 hn
        refine ⟨by rw [hf, g1], fun a => ?_⟩
        simp only [updL, h, if_false]
        show (.int .i64 k, e b) :: (mpL e r ++ _) = _
        rw [g2]; rfl
      · simp only [lkp, h, if_false] at ha
        obtain ⟨j, g1, g2, g3⟩ := h2 a ha
        refine ⟨j + 1, by rw [hf, g1]; congr 3; omega, fun c => ?_, ?_⟩
        · simp only [updL, h, if_false]
          show (.int .i64 k, e b) :: ((mpL e r).set j _) = _
          rw [g2]; rfl
        · simp only [delL, h, if_false]
          show (.int .i64 k, e b) :: ((mpL e r).eraseIdx j) = _
          rw [g3]; rfl

/-- A map that is there. -/
structure Mp (m : Mem) (r : Nat) (e : α → Value) (L : List (Int × α)) : Prop where
  at_ : m.blk r = some (.map (mpL e L))
  lt : r < m.next
theorem Mp.new {m : Mem} {e : α → Value} : Mp (m.new (.map [])) m.next e [] := ⟨by simp [Mem.new, mpL], by simp [Mem.new]⟩
theorem Mp.keep {m m' : Mem} {r : Nat} {e : α → Value} {L : List (Int × α)} (h : Mp m r e L) (hx : Ext m m') : Mp m' r e L := ⟨by rw [hx.same _ h.lt]; exact h.at_, Nat.lt_of_lt_of_le h.lt hx.next⟩
theorem Mp.upd {m m' : Mem} {r : Nat} {e : α → Value} {L : List (Int × α)} {fp : List Nat} (h : Mp m r e L) (hx : Upd m m' fp) (hn : r ∉ fp) : Mp m' r e L := ⟨by rw [hx.same _ h.lt hn]; exact h.at_, Nat.lt_of_lt_of_le h.lt hx.next⟩
theorem Mp.other {m : Mem} {r b : Nat} {e : α → Value} {L : List (Int × α)} {o : Option AObj} (h : Mp m r e L) (hn : r ≠ b) : Mp (m.set b o) r e L := ⟨by simp [Mem.set, hn]; exact h.at_, h.lt⟩
theorem Mp.self {m : Mem} {r : Nat} {e : α → Value} {L L' : List (Int × α)} (h : Mp m r e L) : Mp (m.set r (some (.map (mpL e L')))) r e L' := ⟨by simp [Mem.set], h.lt⟩

theorem Mp.look {m : Mem} {r : Nat} {e : α → Value} {L : List (Int × α)} (h : Mp m r e L) {x : Int} {z : α} : aLook .int (e z) false m (.map (some r)) (.int .i64 x) = some (e ((lkp L x).getD z)) := by
  simp only [aLook, h.at_, Option.bind_some]
  obtain ⟨h1, h2⟩ := findK_mp (e := e) (x := x) L 0
  cases hl : lkp L x with
  | none => rw [(h1 hl).1]; rfl
  | some a =>
    obtain ⟨j, g, -⟩ := h2 a hl
    rw [g]; rfl
theorem Mp.look_ok {m : Mem} {r : Nat} {e : α → Value} {L : List (Int × α)} (h : Mp m r e L) {x : Int} {z : α} : aLook .int (e z) true m (.map (some r)) (.int .i64 x) = some (.tuple #[e ((lkp L x).getD z), .bool (lkp L x).isSome]) := by
  simp only [aLook, h.at_, Option.bind_some]
  obtain ⟨h1, h2⟩ := findK_mp (e := e) (x := x) L 0
  cases hl : lkp L x with
  | none => rw [(h1 hl).1]; rfl
  | some a =>
    obtain ⟨j, g, -⟩ := h2 a hl
    rw [g]; rfl
theorem Mp.put {m : Mem} {r : Nat} {e : α → Value} {L : List (Int × α)} (h : Mp m r e L) {x : Int} {a : α} : aUpd .int m (.map (some r)) (.int .i64 x) (e a) = some (m.set r (some (.map (mpL e (updL L x a))))) := by
  simp only [aUpd, h.at_]
  obtain ⟨h1, h2⟩ := findK_mp (e := e) (x := x) L 0
  cases hl : lkp L x with
  | none => rw [(h1 hl).1]; simp only [Option.map_some]; rw [(h1 hl).2]
  | some b =>
    obtain ⟨j, g, g2, -⟩ := h2 b hl
    rw [g]; simp only [Option.map_some, Nat.zero_add]; rw [g2]
theorem Mp.del {m : Mem} {r : Nat} {e : α → Value} {L : List (Int × α)} (h : Mp m r e L) {x : Int} : ∃ L', L' = (if (lkp L x).isSome then delL L x else L) ∧ ∃ m', aDel .int m (.map (some r)) (.int .i64 x) = some m' ∧ Mp m' r e L' ∧ Upd m m' [r] := by
  refine ⟨_, rfl, ?_⟩
  simp only [aDel, h.at_]
  obtain ⟨h1, h2⟩ := findK_mp (e := e) (x := x) L 0
  cases hl : lkp L x with
  | none => rw [(h1 hl).1]; exact ⟨m, rfl, h, Upd.refl _ _⟩
  | some b =>
    obtain ⟨j, g, -, g3⟩ := h2 b hl
    rw [g]; simp only [Option.map_some, Nat.zero_add]
    rw [g3]
    exact ⟨_, rfl, h.self, Upd.set (by simp)⟩

end Go.Am


/- OrderW2 over the table of tt (relayset.py). -/
set_option linter.unusedVariables false
set_option linter.unusedSimpArgs false
namespace Go.Am
open Classical
variable {m : Mem}

theorem chkF_drop {f : Int} {l : List Sp} {i : Nat} (hi : i < l.length) : chkF f (l.take i) (l.drop i) = if ¬ isU l[i].1 then 20 else if l[i].2 < 1 ∨ f < l[i].2 then 21 else if ∃ p ∈ l.take i, p.1 = l[i].1 then 11 else chkF f (l.take (i + 1)) (l.drop (i + 1)) := by
  rw [List.drop_eq_getElem_cons hi, List.take_succ_eq_append_getElem hi]
  rfl

noncomputable def chkA (f : Int) (l : List Sp) : Int := if f < 2 ∨ 64 < f then 1 else chkF f [] l

theorem st0 {M : Mem} : aStore 0 (M.new (.cells [] (some 0))) (.pointer (some ⟨M.next, 0, none⟩)) (.agg #[]) = some (M.new (.cells [] (some 0))) := by
  have e : (#[] : Array Value) = [].toArray := rfl
  rw [e]
  simp only [go_sem, ruB]
def vU (_ : Unit) : Value := .agg #[]

set_option maxHeartbeats 2000000 in
theorem orCheck {l : List Sp} {v : Value} {f : Int} (hs : Sl m 2 l.length (l.flatMap spV) v) (hb : SlLt m v) (hl : l.length < 100000) :
    WC R F.order_Check [.int .i64 f, v] m fun r m' => r = .int .i64 (chkA f l) ∧ Ext m m' := by
  refine WC.of R.order_Check rfl ?_
  simp only [RC.order_Check, go_sem]
  by_cases h1 : f < 2
  · have e1 : decide (f < 2) = true := decide_eq_true h1
    simp only [go_sem, e1]
    rw [chkA, if_pos (.inl h1)]
    exact ⟨rfl, Ext.refl _⟩
  · have e1 : decide (f < 2) = false := decide_eq_false h1
    simp only [go_sem, e1]
    by_cases h2 : 64 < f
    · have e2 : decide (64 < f) = true := decide_eq_true h2
      simp only [go_sem, e2]
      rw [chkA, if_pos (.inr h2)]
      exact ⟨rfl, Ext.refl _⟩
    · have e2 : decide (64 < f) = false := decide_eq_false h2
      have hA : chkA f l = chkF f [] l := by rw [chkA, if_neg (by omega)]
      simp only [go_sem, e2, hs.len]
      rw [hA]
      have hx1 : Ext m (m.new (.map [])) := Ext.new
      have hM1 : Mp (m.new (.map [])) m.next vU [] := Mp.new
      have hn1 : (m.new (.map [])).next = m.next + 1 := rfl
      generalize m.new (.map []) = m1 at hx1 hM1 hn1 ⊢
      refine WL.of (fun n e m' => ∃ (i : Nat) (L : List (Int × Unit)), i ≤ l.length ∧ n = l.length - i ∧ e = [(0, .int .i64 f), (5, .map (some m.next)), (20, v), (21, .int .i64 l.length), (22, .int .i64 i)] ∧ chkF f [] l = chkF f (l.take i) (l.drop i) ∧
          Mp m' m.next vU L ∧ (∀ u, (lkp L u).isSome = decide (∃ p ∈ l.take i, p.1 = u)) ∧ Ext m m') l.length
        ⟨0, [], by omega, by omega, by simp only [go_sem] <;> rfl, rfl, hM1, fun u => by simp [lkp], hx1⟩ ?_
      rintro _ _ m2 ⟨i, L, hi, rfl, rfl, hc, hM, hL, hx⟩
      simp only [RB.order_Check_1, go_sem]
      refine gT.of (fun g1' => ?_) (fun g1' => ?_) <;> (have g1 := g1'; try simp only [decide_eq_true_eq, decide_eq_false_iff_not, beq_iff_eq, bne_iff_ne, beq_eq_false_iff_ne, ne_eq, Bool.not_eq_true', Bool.not_eq_false', bne_eq_false_iff_eq, Int.not_lt, Int.not_le] at g1)
      · have hil : i < l.length := by omega
        have s1 := step1 (show i < 1000000 by omega)
        obtain ⟨p, o, a1, a2, -, -⟩ := (hs.keep hb hx).elem spV_len (k := .i64) hil
        rw [chkF_drop hil] at hc
        have htk : l.take (i + 1) = l.take i ++ [l[i]] := List.take_succ_eq_append_getElem hil
        simp only [go_sem, g1', a1, a2]
        generalize l[i] = w at hc htk ⊢
        have hst : aStore 2 (m2.new (.cells [(.int .i64 0), (.int .i64 0)] (some 2))) (.pointer (some ⟨m2.next, 0, none⟩)) (.agg (spV w).toArray) = some (m2.new (.cells [.int .i64 w.1, .int .i64 w.2] (some 2))) := by
          simp only [spV]
          simp only [go_sem, ruB]
        simp only [go_sem, hst]
        have hxx : Ext m2 (m2.new (.cells [.int .i64 w.1, .int .i64 w.2] (some 2))) := Ext.new
        have hbx : Bk (m2.new (.cells [.int .i64 w.1, .int .i64 w.2] (some 2))) m2.next [.int .i64 w.1, .int .i64 w.2] 2 := Bk.new
        have hqm : m2.next ≠ m.next := by have := hM.lt; omega
        have hM3 := hM.keep hxx
        generalize m2.new (.cells [.int .i64 w.1, .int .i64 w.2] (some 2)) = m3 at hbx hxx hM3 ⊢
        have c1 : aLoad false 1 m3 (.pointer (some ⟨m2.next, 0, none⟩)) = some (.int .i64 w.1) := by simp only [go_sem, ruB, hbx.at_]
        have c2 : aLoad false 1 m3 (.pointer (some ⟨m2.next, 1, none⟩)) = some (.int .i64 w.2) := by simp only [go_sem, ruB, hbx.at_]
        have hx3 := hx.trans hxx
        simp only [go_sem, c1]
        refine gC.of Kind_spec ?_
        rintro _ _ ⟨⟨hu, rfl⟩ | ⟨hu, rfl⟩, hm⟩ <;> subst hm
        · rw [if_neg (by simpa using hu)] at hc
          simp only [go_sem, aExt0, aExt1, aExt2, c2]
          by_cases h3 : w.2 < 1
          · have e3 : decide (w.2 < 1) = true := decide_eq_true h3
            rw [if_pos (.inl h3)] at hc
            simp only [go_sem, e3]
            rw [hc]; exact ⟨rfl, hx3⟩
          · have e3 : decide (w.2 < 1) = false := decide_eq_false h3
            simp only [go_sem, e3, c2]
            by_cases h4 : f < w.2
            · have e4 : decide (f < w.2) = true := decide_eq_true h4
              rw [if_pos (.inr h4)] at hc
              simp only [go_sem, e4]
              rw [hc]; exact ⟨rfl, hx3⟩
            · have e4 : decide (f < w.2) = false := decide_eq_false h4
              rw [if_neg (by omega)] at hc
              have lk := hM3.look_ok (x := w.1) (z := ())
              simp only [vU] at lk
              simp only [go_sem, e4, c1, lk, aExt0, aExt1, st0]
              have hx4 := hx3.trans (Ext.new (m := _) (o := .cells [] (some 0)))
              have hM4 := hM3.keep (Ext.new (m := _) (o := .cells [] (some 0)))
              have hb4 := hbx.keep (Ext.new (m := _) (o := .cells [] (some 0)))
              generalize Mem.new _ (.cells [] (some 0)) = m4 at hx4 hM4 hb4 ⊢
              have hLu := hL w.1
              cases hlk : lkp L w.1 with
              | some _ =>
                rw [hlk] at hLu
                have hyes : ∃ p ∈ l.take i, p.1 = w.1 := of_decide_eq_true hLu.symm
                rw [if_pos hyes] at hc
                simp only [go_sem, Option.isSome_some]
                rw [hc]; exact ⟨rfl, hx4⟩
              | none =>
                rw [hlk] at hLu
                have hno : ¬ ∃ p ∈ l.take i, p.1 = w.1 := of_decide_eq_false hLu.symm
                rw [if_neg hno] at hc
                have c1' : aLoad false 1 m4 (.pointer (some ⟨m2.next, 0, none⟩)) = some (.int .i64 w.1) := by simp only [go_sem, ruB, hb4.at_]
                have pt := hM4.put (x := w.1) (a := ())
                simp only [vU] at pt
                simp only [go_sem, Option.isSome_none, c1', pt, s1]
                refine ⟨l.length - (i + 1), by omega, i + 1, updL L w.1 (), by omega, rfl, rfl, hc, hM4.self, fun u => ?_, hx4.set (Nat.le_refl _)⟩
                rw [lkp_upd, htk]
                by_cases e : u = w.1
                · subst e
                  simp
                · rw [if_neg e, hL]
                  rw [decide_eq_decide]
                  constructor
                  · rintro ⟨p, hp, h⟩; exact ⟨p, by simp [hp], h⟩
                  · rintro ⟨p, hp, h⟩
                    rcases List.mem_append.1 hp with h' | h'
                    · exact ⟨p, h', h⟩
                    · rw [List.mem_singleton.1 h'] at h; exact absurd h.symm e
        · rw [if_pos hu] at hc
          simp only [go_sem, aExt0, aExt1, aExt2]
          rw [hc]; exact ⟨rfl, hx3⟩
      · have : i = l.length := by omega
        subst this
        rw [List.drop_length] at hc
        simp only [go_sem, g1']
        rw [hc]; exact ⟨rfl, hx⟩
end Go.Am


/- CoresMul over the table of tt (relayset.py). -/
set_option linter.unusedVariables false
set_option linter.unusedSimpArgs false
namespace Go.Am
theorem Mul64_spec {m : Mem} {x y : BitVec 64} : WC R F.math_bits_Mul64 [u64 x, u64 y] m fun v m' => v = .tuple #[u64 (hiW x y), u64 (x * y)] ∧ m' = m := by
  refine WC.of R.math_bits_Mul64 rfl ?_
  simp only [RC.math_bits_Mul64, go_sem, BitVec.toNat_ofNat, Nat.reducePow, Nat.reduceMod, hiW]
end Go.Am


/- LocalW over the table of tt (relayset.py). -/
set_option linter.unusedVariables false
set_option linter.unusedSimpArgs false
namespace Go.Am
variable {m : Mem}

theorem cmpNaN {a : Int} : WC R F.cmp_isNaN_int [.int .i64 a] m fun r m' => r = .bool false ∧ m' = m := by
  refine WC.of R.cmp_isNaN_int rfl ?_
  have e : (a != a) = false := bne_self_eq_false a
  simp only [RC.cmp_isNaN_int, go_sem, e]

def cmpI (a b : Int) : Int := if a < b then -1 else if b < a then 1 else 0
theorem cmpInt {a b : Int} : WC R F.cmp_Compare_int [.int .i64 a, .int .i64 b] m fun r m' => r = .int .i64 (cmpI a b) ∧ m' = m := by
  refine WC.of R.cmp_Compare_int rfl ?_
  simp only [RC.cmp_Compare_int, go_sem]
  refine gC.of cmpNaN ?_
  rintro _ m_ ⟨rfl, hm_⟩
  replace hm_ := hm_.symm
  subst hm_
  simp only [go_sem]
  refine gC.of cmpNaN ?_
  rintro _ m_ ⟨rfl, hm_⟩
  replace hm_ := hm_.symm
  subst hm_
  simp only [go_sem]
  refine gT.of (fun g1' => ?_) (fun g1' => ?_) <;> (have g1 := g1'; try simp only [decide_eq_true_eq, decide_eq_false_iff_not, beq_iff_eq, bne_iff_ne, beq_eq_false_iff_ne, ne_eq, Bool.not_eq_true', Bool.not_eq_false', bne_eq_false_iff_eq, Int.not_lt, Int.not_le] at g1)
  · simp only [go_sem, cmpI, g1, g1']
  · simp only [go_sem, g1']
    refine gT.of (fun g2' => ?_) (fun g2' => ?_) <;> (have g2 := g2'; try simp only [decide_eq_true_eq, decide_eq_false_iff_not, beq_iff_eq, bne_iff_ne, beq_eq_false_iff_ne, ne_eq, Bool.not_eq_true', Bool.not_eq_false', bne_eq_false_iff_eq, Int.not_lt, Int.not_le] at g2)
    · have g3 : ¬ a < b := by omega
      simp only [go_sem, cmpI, g3, g2, g2']
    · have g3 : ¬ a < b := by omega
      have g4 : ¬ b < a := by omega
      simp only [go_sem, cmpI, g3, g4, g2']
theorem cmpI_neg {a b : Int} : cmpI a b < 0 ↔ a < b := by
  unfold cmpI
  split
  · omega
  · split <;> omega

theorem enCmp (m : Mem) (x y : En) : WC R F.local_New_1 [.agg (enV x).toArray, .agg (enV y).toArray] m fun r m' => r = .int .i64 (cmpI x.u y.u) ∧ Ext m m' := by
  refine WC.of R.local_New_1 rfl ?_
  simp only [RC.local_New_1, go_sem, enV]
  have hn : (m.next = m.next + 1) = False := eq_false (by omega)
  try simp only [go_sem, ruB, hn]
  refine gC.of cmpInt ?_
  rintro _ _ ⟨rfl, hm⟩
  subst hm
  try simp only [go_sem, ruB]
  exact Ext.new.trans Ext.new
theorem enSWO : Go.Sort.SWO fun x y : En => decide (cmpI x.u y.u < 0) := by
  have k : ∀ a b : Int, decide (cmpI a b < 0) = decide (a < b) := fun a b => by
    rw [decide_eq_decide]; exact cmpI_neg
  simp only [k]
  exact ⟨fun x => by simp, fun x y z h1 h2 => by simp only [decide_eq_true_eq] at *; omega, fun x y z h1 h2 => by simp only [decide_eq_false_iff_not] at *; omega⟩

theorem intsZ_get {l : List Int} {i : Nat} (h : i < l.length) : (intsZ l)[i]? = some (.int .i64 l[i]) := by simp [intsZ, h]

theorem ixInt {l : List Int} {v : Value} {x : Int} (hs : Sl m 1 l.length (intsZ l) v) (hl : l.length < 1000000) :
    WC R F.slices_Index_int_int [v, .int .i64 x] m fun r m' => ((x ∉ l ∧ r = .int .i64 (-1)) ∨ (x ∈ l ∧ ∃ i : Nat, r = .int .i64 i)) ∧ m' = m := by
  refine WC.of R.slices_Index_int_int rfl ?_
  simp only [RC.slices_Index_int_int, go_sem, hs.len]
  refine WL.of (fun n e m' => ∃ i : Nat, i ≤ l.length ∧ n = l.length - i ∧ m' = m ∧ e = [(0, v), (1, .int .i64 x), (7, .int .i64 l.length), (8, .int .i64 i)] ∧ x ∉ l.take i) l.length
    ⟨0, by omega, by omega, rfl, by simp only [go_sem] <;> rfl, by simp⟩ ?_
  rintro _ _ _ ⟨i, hi, rfl, rfl, rfl, hno⟩
  simp only [RB.slices_Index_int_int_1, go_sem]
  refine gT.of (fun g1' => ?_) (fun g1' => ?_) <;> (have g1 := g1'; try simp only [decide_eq_true_eq, decide_eq_false_iff_not, beq_iff_eq, bne_iff_ne, beq_eq_false_iff_ne, ne_eq, Bool.not_eq_true', Bool.not_eq_false', bne_eq_false_iff_eq, Int.not_lt, Int.not_le] at g1)
  · have hil : i < l.length := by omega
    have s1 := step1 (show i < 1000000 by omega)
    obtain ⟨p, a1, a2⟩ := hs.get (k := .i64) hil
    rw [intsZ_get hil] at a2
    simp only [go_sem, g1', a1, a2]
    refine gT.of (fun g2' => ?_) (fun g2' => ?_) <;> (have g2 := g2'; try simp only [decide_eq_true_eq, decide_eq_false_iff_not, beq_iff_eq, bne_iff_ne, beq_eq_false_iff_ne, ne_eq, Bool.not_eq_true', Bool.not_eq_false', bne_eq_false_iff_eq, Int.not_lt, Int.not_le] at g2)
    · simp only [go_sem, g2']
      exact .inr ⟨by rw [g2]; exact List.getElem_mem hil, i, rfl⟩
    · simp only [go_sem, g2', s1]
      refine ⟨l.length - (i + 1), by omega, i + 1, by omega, rfl, rfl, ?_⟩
      rw [List.take_succ_eq_append_getElem hil]
      intro h
      rcases List.mem_append.1 h with h | h
      · exact hno h
      · exact g2 (List.mem_singleton.1 h)
  · have : i = l.length := by omega
    subst this
    rw [List.take_length] at hno
    simp only [go_sem, g1']
    exact .inl hno

theorem hasInt {l : List Int} {v : Value} {x : Int} (hs : Sl m 1 l.length (intsZ l) v) (hl : l.length < 1000000) :
    WC R F.slices_Contains_int_int [v, .int .i64 x] m fun r m' => r = .bool (decide (x ∈ l)) ∧ m' = m := by
  refine WC.of R.slices_Contains_int_int rfl ?_
  simp only [RC.slices_Contains_int_int, go_sem]
  refine gC.of (ixInt hs hl) ?_
  rintro _ _ ⟨⟨h, rfl⟩ | ⟨h, i, rfl⟩, hm⟩ <;> subst hm
  · simp only [go_sem]
    rw [decide_eq_false h]
  · have e : decide ((0 : Int) ≤ (i : Int)) = true := by simp
    simp only [go_sem, e]
    rw [decide_eq_true h]

/-- Two quotients of small numbers. -/
theorem fixCmp {a b c d : Nat} (ha : a < 1000000) (hb : b < 1000000) (hc : c < 1000000) (hd : d < 1000000) (hb0 : 0 < b) (hd0 : 0 < d) :
    WC R F.fixq_Compare [u64 (BitVec.ofNat 64 a), u64 (BitVec.ofNat 64 b), u64 (BitVec.ofNat 64 c), u64 (BitVec.ofNat 64 d)] m fun r m' =>
      r = .tuple #[.int .i64 (if a * d < c * b then -1 else if a * d = c * b then 0 else 1), .int .i64 0] ∧ m' = m := by
  refine WC.of R.fixq_Compare rfl ?_
  have nz : ∀ x : Nat, x < 1000000 → 0 < x → decide (BitVec.ofNat 64 x = 0#64) = false := fun x h h0 => decide_eq_false fun e => by
    have := congrArg BitVec.toNat e
    simp at this
    omega
  simp only [RC.fixq_Compare, go_sem, nz b hb hb0, nz d hd hd0]
  refine gC.of Mul64_spec ?_
  rintro _ _ ⟨rfl, hm⟩
  subst hm
  simp only [go_sem, aExt0, aExt1]
  refine gC.of Mul64_spec ?_
  rintro _ _ ⟨rfl, hm⟩
  subst hm
  have sm : ∀ x y : Nat, x < 1000000 → y < 1000000 → x * y < 1000000000000 := fun x y h1 h2 => by
    have h3 : x * y ≤ 999999 * 999999 := Nat.mul_le_mul (by omega) (by omega)
    omega
  have hz : ∀ x y : Nat, x < 1000000 → y < 1000000 → hiW (BitVec.ofNat 64 x) (BitVec.ofNat 64 y) = 0#64 := fun x y h1 h2 => by
    apply BitVec.eq_of_toNat_eq
    rw [hiW_spec, BitVec.toNat_ofNat, BitVec.toNat_ofNat, Nat.mod_eq_of_lt (by omega), Nat.mod_eq_of_lt (by omega)]
    have := sm x y h1 h2
    rw [Nat.div_eq_of_lt (by omega)]; rfl
  have hp : ∀ x y : Nat, BitVec.ofNat 64 x * BitVec.ofNat 64 y = BitVec.ofNat 64 (x * y) := fun x y => by rw [BitVec.ofNat_mul]
  have ht : ∀ x y : Nat, x < 1000000 → y < 1000000 → (BitVec.ofNat 64 (x * y)).toNat = x * y := fun x y h1 h2 => by
    have := sm x y h1 h2
    rw [BitVec.toNat_ofNat, Nat.mod_eq_of_lt (by omega)]
  have t1 := ht a d ha hd
  have t2 := ht c b hc hb
  rw [hz a d ha hd, hz c b hc hb, hp, hp]
  generalize BitVec.ofNat 64 (a * d) = p at t1 ⊢
  generalize BitVec.ofNat 64 (c * b) = q at t2 ⊢
  have e0 : decide ((0#64).toNat < (0#64).toNat) = false := rfl
  have e1 : decide (0#64 = 0#64) = true := rfl
  simp only [go_sem, aExt0, aExt1, e0, e1, t1, t2]
  by_cases h1 : a * d < c * b
  · have e2 : decide (a * d < c * b) = true := decide_eq_true h1
    simp only [go_sem, e2]
    rw [if_pos h1]
  · have e2 : decide (a * d < c * b) = false := decide_eq_false h1
    simp only [go_sem, e2, e1]
    rw [if_neg h1]
    by_cases h2 : p = q
    · have e3 : decide (p = q) = true := decide_eq_true h2
      simp only [go_sem, e3]
      rw [if_pos (by rw [← t1, ← t2, h2])]
    · have e3 : decide (p = q) = false := decide_eq_false h2
      simp only [go_sem, e3]
      rw [if_neg (fun h => h2 (BitVec.eq_of_toNat_eq (by rw [t1, t2, h])))]

def Sm (e : En) : Prop := 0 < e.s ∧ e.s < 1000000 ∧ e.g < 900000

theorem locAhead {a b : En} (ha : Sm a) (hb : Sm b) : WC R F.local_ahead [.agg (enV a).toArray, .agg (enV b).toArray] m fun r m' => r = .bool (decide (ahd a b)) ∧ Ext m m' := by
  obtain ⟨ua, sa, ga⟩ := a
  obtain ⟨ub, sb, gb⟩ := b
  obtain ⟨a1, a2, a3⟩ := ha
  obtain ⟨b1, b2, b3⟩ := hb
  obtain ⟨ka, rfl⟩ : ∃ k : Nat, sa = k := ⟨sa.toNat, by simp only at a1; omega⟩
  obtain ⟨kb, rfl⟩ : ∃ k : Nat, sb = k := ⟨sb.toNat, by simp only at b1; omega⟩
  simp only at a1 a2 a3 b1 b2 b3
  refine WC.of R.local_ahead rfl ?_
  simp only [RC.local_ahead, go_sem, enV]
  have hn : (m.next = m.next + 1) = False := eq_false (by omega)
  have w1 := step1 (show ga < 1000000 by omega)
  have w2 := step1 (show gb < 1000000 by omega)
  try simp only [go_sem, ruB, hn, w1, w2, BitVec.ofInt_natCast]
  refine gC.of (fixCmp (a := ga + 1) (b := ka) (c := gb + 1) (d := kb) (by omega) (by omega) (by omega) (by omega) (by omega) (by omega)) ?_
  rintro _ _ ⟨rfl, hm⟩
  subst hm
  have e : decide ((if (ga + 1) * kb < (gb + 1) * ka then (-1 : Int) else if (ga + 1) * kb = (gb + 1) * ka then 0 else 1) < 0) = decide (ahd ⟨ua, (ka : Int), ga⟩ ⟨ub, (kb : Int), gb⟩) := by
    rw [decide_eq_decide]
    unfold ahd
    simp only
    rw [show ((ga : Int) + 1) * (kb : Int) = (((ga + 1) * kb : Nat) : Int) by push_cast; rfl, show ((gb : Int) + 1) * (ka : Int) = (((gb + 1) * ka : Nat) : Int) by push_cast; rfl]
    generalize (ga + 1) * kb = x
    generalize (gb + 1) * ka = y
    by_cases h : x < y
    · rw [if_pos h]; omega
    · rw [if_neg h]
      split <;> omega
  simp only [go_sem, aExt0, aExt1, e]
  exact Ext.new.trans Ext.new
end Go.Am


/- LocalW2 over the table of tt (relayset.py). -/
set_option linter.unusedVariables false
set_option linter.unusedSimpArgs false
namespace Go.Am
variable {m : Mem}

structure LocV (m0 m : Mem) (b : Nat) (L : List En) (lv : Value) : Prop where
  box : Bk m b [lv] 1
  own : Own m0 m 3 L.length (L.flatMap enV) lv
  ext : Ext m0 m
  ge : m0.next ≤ b
  off : ∀ c ∈ vb lv, c ≠ b
theorem LocV.keep {m0 m m' : Mem} {b : Nat} {L : List En} {lv : Value} (h : LocV m0 m b L lv) (hx : Ext m m') : LocV m0 m' b L lv :=
  ⟨h.box.keep hx, h.own.keep hx, h.ext.trans hx, h.ge, h.off⟩

theorem LocV.ld {m0 m : Mem} {b : Nat} {L : List En} {lv : Value} (h : LocV m0 m b L lv) : aLoad false 1 m (.pointer (some ⟨b, 0, none⟩)) = some lv := by
  simp only [go_sem, ruB, h.box.at_]
theorem enFlat {l : List En} : (l.flatMap enV).length = l.length * 3 := flat_len enV_len
theorem enSet {l : List En} {i : Nat} {g : Nat} (hi : i < l.length) : (l.flatMap enV).set (i * 3 + 2) (.int .i64 (g : Nat)) = (l.set i { l[i] with g := g }).flatMap enV := by
  have e : l = l.take i ++ l[i] :: l.drop (i + 1) := by rw [← List.drop_eq_getElem_cons hi, List.take_append_drop]
  have hl : (l.take i).length = i := by rw [List.length_take]; omega
  have e2 : l.set i { l[i] with g := g } = l.take i ++ { l[i] with g := g } :: l.drop (i + 1) := by
    rw [List.set_eq_take_append_cons_drop, if_pos hi]
  rw [e2]
  conv => lhs; rw [e]
  rw [List.flatMap_append, List.flatMap_append, List.flatMap_cons, List.flatMap_cons, List.set_append_right _ _ (by rw [enFlat, hl]; omega), enFlat, hl, Nat.add_sub_cancel_left]
  rfl

/-- What one got is set. -/
theorem LocV.put {m0 m : Mem} {b i : Nat} {L : List En} {lv : Value} {g : Nat} {k : IntKind} (h : LocV m0 m b L lv) (hi : i < L.length) :
    ∃ c m', aIdxS 3 lv (.int k i) = some (.pointer (some ⟨c, i * 3, none⟩)) ∧ aStore 1 m (.pointer (some ⟨c, i * 3 + 2, none⟩)) (.int .i64 (g : Nat)) = some m' ∧ LocV m0 m' b (L.set i { L[i] with g := g }) lv ∧ Upd m m' (vb lv) := by
  obtain ⟨c, m', e1, e2, e3, e4⟩ := h.own.put (k := k) (o := 2) (w := .int .i64 (g : Nat)) h.ext hi (by omega) rfl rfl
  have hcv : c ∈ vb lv := by
    cases h.own with
    | nil h hc => omega
    | @«at» b2 c2 all hb hb2 hn hm hl hcs h1 =>
      simp only [aIdxS] at e1
      split at e1
      · have e1 := Option.some.inj e1
        simp only [Value.pointer.injEq, Option.some.injEq, Addr.mk.injEq] at e1
        rw [← e1.1]; simp [vb]
      · cases e1
  have hw' : aWrite m c (i * 3 + 2) (Value.int .i64 (g : Nat)).cells.toList = some m' := by
    simp only [aStore] at e2
    split at e2
    · exact e2
    · cases e2
  obtain ⟨a1, a2⟩ := aWrite_upd hw'
  have hu : Upd m m' (vb lv) := a1.trans (Upd.refl _ _) (fun x hx => by simp at hx; subst hx; exact hcv) (fun x hx => .inl hx)
  rw [enSet hi] at e3
  refine ⟨c, m', e1, e2, ⟨h.box.upd hu (fun hb => h.off b hb rfl), by rw [List.length_set]; exact e3, e4, h.ge, h.off⟩, hu⟩

def offF (l : List Int) (u : Int) : Bool := decide (u ∈ l)
def bI : Option Nat → Int
  | none => -1
  | some b => b

set_option maxHeartbeats 2000000 in
theorem locPickU {m0 : Mem} {b : Nat} {L : List En} {lv ov : Value} {off : List Int} (h : LocV m0 m b L lv) (hS : ∀ e ∈ L, Sm e) (hl : L.length < 1000000) (ho : Sl m 1 off.length (intsZ off) ov) (hob : SlLt m ov) (hol : off.length < 1000000) :
    WC R F.local_Local_Pick [.pointer (some ⟨b, 0, none⟩), ov] m fun r m' =>
      ((bst L (offF off) L.length = none ∧ r = .tuple #[.int .i64 0, .bool false]) ∨ (∃ i, bst L (offF off) L.length = some i ∧ r = .tuple #[.int .i64 L[i]!.u, .bool true])) ∧ LocV m0 m' b (pick L (offF off)) lv ∧ Upd m m' (vb lv) := by
  refine WC.of R.local_Local_Pick rfl ?_
  simp only [RC.local_Local_Pick, go_sem]
  have c1 : aLoad false 1 m (.pointer (some ⟨b, 0, none⟩)) = some lv := by simp only [go_sem, ruB, h.box.at_]
  have hsl := h.own.sl
  have hlt := h.own.lt
  have pos : ∀ e ∈ L, 0 < e.s := fun e he => (hS e he).1
  simp only [go_sem, c1, hsl.len]
  refine WL.of (fun n e m' => ∃ k : Nat, k ≤ L.length ∧ n = L.length - k ∧ e = [(0, .pointer (some ⟨b, 0, none⟩)), (1, ov), (6, .int .i64 (bI (bst L (offF off) k))), (14, lv), (15, .int .i64 L.length), (16, .int .i64 k)] ∧ Ext m m') L.length
    ⟨0, by omega, by omega, by simp only [go_sem] <;> rfl, Ext.refl _⟩ ?_
  rintro _ _ m1 ⟨k, hk, rfl, rfl, hx⟩
  have sp := bst_spec (off := offF off) pos k hk
  simp only [RB.local_Local_Pick_1, go_sem]
  refine gT.of (fun g1' => ?_) (fun g1' => ?_) <;> (have g1 := g1'; try simp only [decide_eq_true_eq, decide_eq_false_iff_not, beq_iff_eq, bne_iff_ne, beq_eq_false_iff_ne, ne_eq, Bool.not_eq_true', Bool.not_eq_false', bne_eq_false_iff_eq, Int.not_lt, Int.not_le] at g1)
  · have hkl : k < L.length := by omega
    have s1 := step1 (show k < 1000000 by omega)
    obtain ⟨p, o, a1, a2, -, -⟩ := (hsl.keep hlt hx).elem enV_len (k := .i64) hkl
    have hSk := hS _ (List.getElem_mem hkl)
    have hbs : bst L (offF off) (k + 1) = if offF off L[k].u then bst L (offF off) k else bs1 L L[k] k (bst L (offF off) k) := by
      conv => lhs; unfold bst
      rw [getElem!_pos L k hkl]
    simp only [go_sem, g1', a1, a2]
    generalize L[k] = w at hSk hbs ⊢
    have hst : aStore 3 (m1.new (.cells [(.int .i64 0), (.int .i64 0), (.int .i64 0)] (some 3))) (.pointer (some ⟨m1.next, 0, none⟩)) (.agg (enV w).toArray) = some (m1.new (.cells [.int .i64 w.u, .int .i64 w.s, .int .i64 (w.g : Nat)] (some 3))) := by
      simp only [enV]
      simp only [go_sem, ruB]
    simp only [go_sem, hst]
    have hxx : Ext m1 (m1.new (.cells [.int .i64 w.u, .int .i64 w.s, .int .i64 (w.g : Nat)] (some 3))) := Ext.new
    have hbx : Bk (m1.new (.cells [.int .i64 w.u, .int .i64 w.s, .int .i64 (w.g : Nat)] (some 3))) m1.next [.int .i64 w.u, .int .i64 w.s, .int .i64 (w.g : Nat)] 3 := Bk.new
    generalize m1.new (.cells [.int .i64 w.u, .int .i64 w.s, .int .i64 (w.g : Nat)] (some 3)) = m2 at hbx hxx ⊢
    have hx2 := hx.trans hxx
    have d1 : aLoad false 1 m2 (.pointer (some ⟨m1.next, 0, none⟩)) = some (.int .i64 w.u) := by simp only [go_sem, ruB, hbx.at_]
    have d3 : aLoad true 3 m2 (.pointer (some ⟨m1.next, 0, none⟩)) = some (.agg (enV w).toArray) := by simp only [go_sem, ruB, hbx.at_]; rfl
    simp only [go_sem, d1]
    refine gC.of (hasInt (ho.keep hob hx2) hol) ?_
    rintro _ _ ⟨rfl, hm⟩
    subst hm
    by_cases g2 : w.u ∈ off
    · have e2 : decide (w.u ∈ off) = true := decide_eq_true g2
      rw [if_pos (by show decide (w.u ∈ off) = true; exact e2)] at hbs
      simp only [go_sem, e2, s1]
      exact ⟨L.length - (k + 1), by omega, k + 1, by omega, rfl, by rw [hbs], hx2⟩
    · have e2 : decide (w.u ∈ off) = false := decide_eq_false g2
      rw [if_neg (by show ¬ decide (w.u ∈ off) = true; rw [e2]; simp)] at hbs
      cases hb0 : bst L (offF off) k with
      | none =>
        rw [hb0] at hbs
        have e3 : decide (bI none < 0) = true := rfl
        simp only [go_sem, e2, e3, s1]
        exact ⟨L.length - (k + 1), by omega, k + 1, by omega, rfl, by rw [hbs]; rfl, hx2⟩
      | some i =>
        rw [hb0] at hbs sp
        obtain ⟨i1, -, -⟩ := sp
        have hiL : i < L.length := by omega
        have e3 : decide (bI (some i) < 0) = false := by show decide ((i : Int) < 0) = false; simp
        have c2 := (h.keep hx2).ld
        obtain ⟨p', o', b1, b2, -, -⟩ := (hsl.keep hlt hx2).elem enV_len (k := .i64) hiL
        simp only [bs1] at hbs
        rw [getElem!_pos L i hiL] at hbs
        have hSi := hS _ (List.getElem_mem hiL)
        simp only [bI] at e3 ⊢
        have e3' : decide ((i : Int) < 0) = false := by simp
        simp only [go_sem, e2, e3', d3, c2, b1, b2]
        refine gC.of (locAhead hSk hSi) ?_
        rintro _ m4 ⟨rfl, hx4⟩
        simp only [go_sem]
        by_cases g4 : ahd w L[i]
        · have e4 : decide (ahd w L[i]) = true := decide_eq_true g4
          rw [if_pos g4] at hbs
          simp only [go_sem, e4, s1]
          exact ⟨L.length - (k + 1), by omega, k + 1, by omega, rfl, by rw [hbs], hx2.trans hx4⟩
        · have e4 : decide (ahd w L[i]) = false := decide_eq_false g4
          rw [if_neg g4] at hbs
          simp only [go_sem, e4, s1]
          exact ⟨L.length - (k + 1), by omega, k + 1, by omega, rfl, by rw [hbs], hx2.trans hx4⟩
  · have : k = L.length := by omega
    subst this
    have hL1 := h.keep hx
    have c2 : aLoad false 1 m1 (.pointer (some ⟨b, 0, none⟩)) = some lv := by
      have := hL1.box.at_
      simp only [go_sem, ruB, this]
    cases hb0 : bst L (offF off) L.length with
    | none =>
      have e3 : decide (bI none < 0) = true := rfl
      simp only [go_sem, g1', e3]
      have : pick L (offF off) = L := by unfold pick; rw [hb0]
      rw [this]
      exact ⟨.inl trivial, hL1, hx.upd⟩
    | some i =>
      rw [hb0] at sp
      obtain ⟨i1, -, -⟩ := sp
      have e3 : decide (bI (some i) < 0) = false := by show decide ((i : Int) < 0) = false; simp
      rw [pick_some hb0 i1]
      obtain ⟨c, m2, p1, p2, p3, p4⟩ := hL1.put (k := .i64) (g := L[i].g + 1) i1
      have hSi := hS _ (List.getElem_mem i1)
      obtain ⟨p', o', b1, -, b3, -⟩ := hL1.own.sl.elem enV_len (k := .i64) i1
      rw [p1] at b1
      cases b1
      have f2 : aLoad false 1 m1 (.pointer (some ⟨c, i * 3 + 2, none⟩)) = some (.int .i64 (L[i].g : Nat)) := b3 2 (by omega)
      have w := step1 (show L[i].g < 1000000 by have := hSi.2.2; omega)
      have c3 : aLoad false 1 m2 (.pointer (some ⟨b, 0, none⟩)) = some lv := by
        have := p3.box.at_
        simp only [go_sem, ruB, this]
      have hlen2 : i < (L.set i { L[i] with g := L[i].g + 1 }).length := by simpa using i1
      obtain ⟨p', o', b1, -, b4, -⟩ := p3.own.sl.elem enV_len (k := .i64) hlen2
      rw [p1] at b1
      cases b1
      have f0 : aLoad false 1 m2 (.pointer (some ⟨c, i * 3, none⟩)) = some (.int .i64 L[i].u) := by
        have := b4 0 (by omega)
        rw [Nat.add_zero] at this
        rw [this]; simp [enV]
      simp only [bI] at e3 ⊢
      have e3' : decide ((i : Int) < 0) = false := by simp
      simp only [go_sem, g1', e3', c2, p1, f2, w, p2, c3, f0, Nat.add_zero]
      exact ⟨.inr ⟨i, rfl, by rw [getElem!_pos L i i1]⟩, p3, hx.upd.trans p4 (fun _ h => h) (fun _ h => .inl h)⟩

end Go.Am


/- LocalW3 over the table of tt (relayset.py). -/
set_option linter.unusedVariables false
set_option linter.unusedSimpArgs false
namespace Go.Am
variable {m : Mem}

theorem locFind1 {e : En} {x : Int} {b : Nat} (hb : Bk m b [.int .i64 x] 1) : WC R F.local_Local_find_1 [.agg (enV e).toArray, .pointer (some ⟨b, 0, none⟩)] m fun r m' => r = .bool (e.u == x) ∧ Ext m m' := by
  refine WC.of R.local_Local_find_1 rfl ?_
  simp only [RC.local_Local_find_1, go_sem, enV]
  have hbn := hb.ne
  try simp only [go_sem, ruB, hb.at_, hbn]
  exact Ext.new

theorem locFind {m0 : Mem} {b : Nat} {L : List En} {lv : Value} {x : Int} (h : LocV m0 m b L lv) (hl : L.length < 1000000) :
    WC R F.local_Local_find [.pointer (some ⟨b, 0, none⟩), .int .i64 x] m fun r m' => ((∀ e ∈ L, e.u ≠ x) ∧ r = .int .i64 (-1) ∨ ∃ i : Nat, ∃ h : i < L.length, r = .int .i64 i ∧ L[i].u = x ∧ ∀ j (hj : j < i), (L[j]'(by omega)).u ≠ x) ∧ Ext m m' := by
  refine WC.of R.local_Local_find rfl ?_
  simp only [RC.local_Local_find, go_sem]
  have hx1 : Ext m (m.new (.cells [.int .i64 x] (some 1))) := Ext.new
  have hb1 : Bk (m.new (.cells [.int .i64 x] (some 1))) m.next [.int .i64 x] 1 := Bk.new
  generalize m.new (.cells [.int .i64 x] (some 1)) = m1 at hx1 hb1 ⊢
  have h1 := h.keep hx1
  have c1 := h1.ld
  try simp only [go_sem, c1]
  refine gC.of (le_Index (p := fun e => e.u == x) enV_len h1.own.sl h1.own.lt hl (fun m2 s hx2 => ?_)) ?_
  · rw [gV_cap]
    exact locFind1 (hb1.keep hx2)
  · rintro _ m2 ⟨⟨h2, rfl⟩ | ⟨i, hi, rfl, h2, h3⟩, hx2⟩
    · simp only [go_sem]
      refine ⟨.inl fun e he => ?_, hx1.trans hx2⟩
      have := List.any_eq_false.1 h2 e he
      simpa using this
    · simp only [go_sem]
      refine ⟨.inr ⟨i, hi, rfl, by simpa using h2, fun j hj => by simpa using h3 j hj⟩, hx1.trans hx2⟩

theorem locGot {m0 : Mem} {b : Nat} {L : List En} {lv : Value} {x : Int} (h : LocV m0 m b L lv) (hl : L.length < 1000000) :
    WC R F.local_Local_Got [.pointer (some ⟨b, 0, none⟩), .int .i64 x] m fun r m' => ((∀ e ∈ L, e.u ≠ x) ∧ r = .tuple #[.int .i64 0, .bool false] ∨ ∃ i : Nat, ∃ h : i < L.length, r = .tuple #[.int .i64 (L[i].g : Nat), .bool true] ∧ L[i].u = x) ∧ Ext m m' := by
  refine WC.of R.local_Local_Got rfl ?_
  simp only [RC.local_Local_Got, go_sem]
  refine gC.of (locFind h hl) ?_
  rintro _ m1 ⟨⟨h2, rfl⟩ | ⟨i, hi, rfl, h2, h3⟩, hx⟩
  · have e : decide ((-1 : Int) < 0) = true := rfl
    simp only [go_sem, e]
    exact ⟨.inl h2, hx⟩
  · have e : decide ((i : Int) < 0) = false := by simp
    have h1 := h.keep hx
    have c1 := h1.ld
    obtain ⟨p, o, a1, -, a3, -⟩ := h1.own.sl.elem enV_len (k := .i64) hi
    have c2 : aLoad false 1 m1 (.pointer (some ⟨p, o + 2, none⟩)) = some (.int .i64 (L[i].g : Nat)) := a3 2 (by omega)
    simp only [go_sem, e, c1, a1, c2]
    exact ⟨.inr ⟨i, hi, rfl, h2⟩, hx⟩

def wts (L : List En) : List Sp := L.map fun e => (e.u, e.s)

theorem locWants {m0 : Mem} {b : Nat} {L : List En} {lv : Value} (h : LocV m0 m b L lv) (hl : L.length < 1000000) :
    WC R F.local_Local_Wants [.pointer (some ⟨b, 0, none⟩)] m fun r m' => Own m m' 2 (wts L).length ((wts L).flatMap spV) r ∧ Ext m m' := by
  refine WC.of R.local_Local_Wants rfl ?_
  simp only [RC.local_Local_Wants, go_sem]
  have c1 := h.ld
  have hsl := h.own.sl
  have hlt := h.own.lt
  simp only [go_sem, c1, hsl.len]
  refine WL.of (fun n e m' => ∃ (k : Nat) (rv : Value), k ≤ L.length ∧ n = L.length - k ∧ e = [(3, rv), (11, lv), (12, .int .i64 L.length), (13, .int .i64 k)] ∧ Own m m' 2 (wts (L.take k)).length ((wts (L.take k)).flatMap spV) rv ∧ Ext m m') L.length
    ⟨0, .slice none 0 0, by omega, by omega, by simp only [go_sem] <;> rfl, .nil rfl rfl, Ext.refl _⟩ ?_
  rintro _ _ m1 ⟨k, rv, hk, rfl, rfl, hO, hx⟩
  simp only [RB.local_Local_Wants_1, go_sem]
  refine gT.of (fun g1' => ?_) (fun g1' => ?_) <;> (have g1 := g1'; try simp only [decide_eq_true_eq, decide_eq_false_iff_not, beq_iff_eq, bne_iff_ne, beq_eq_false_iff_ne, ne_eq, Bool.not_eq_true', Bool.not_eq_false', bne_eq_false_iff_eq, Int.not_lt, Int.not_le] at g1)
  · have hkl : k < L.length := by omega
    have s1 := step1 (show k < 1000000 by omega)
    obtain ⟨p, o, a1, a2, -, -⟩ := (hsl.keep hlt hx).elem enV_len (k := .i64) hkl
    have tk : wts (L.take (k + 1)) = wts (L.take k) ++ [(L[k].u, L[k].s)] := by
      unfold wts; rw [List.take_succ_eq_append_getElem hkl, List.map_append]; rfl
    have hwl : (wts (L.take k)).length = k := by unfold wts; simp; omega
    simp only [go_sem, g1', a1, a2]
    generalize L[k] = w at tk ⊢
    have hst : aStore 3 (m1.new (.cells [(.int .i64 0), (.int .i64 0), (.int .i64 0)] (some 3))) (.pointer (some ⟨m1.next, 0, none⟩)) (.agg (enV w).toArray) = some (m1.new (.cells [.int .i64 w.u, .int .i64 w.s, .int .i64 (w.g : Nat)] (some 3))) := by
      simp only [enV]
      simp only [go_sem, ruB]
    simp only [go_sem, hst]
    have hxx : Ext m1 (m1.new (.cells [.int .i64 w.u, .int .i64 w.s, .int .i64 (w.g : Nat)] (some 3))) := Ext.new
    have hbx : Bk (m1.new (.cells [.int .i64 w.u, .int .i64 w.s, .int .i64 (w.g : Nat)] (some 3))) m1.next [.int .i64 w.u, .int .i64 w.s, .int .i64 (w.g : Nat)] 3 := Bk.new
    generalize m1.new (.cells [.int .i64 w.u, .int .i64 w.s, .int .i64 (w.g : Nat)] (some 3)) = m2 at hbx hxx ⊢
    have d3 : aLoad true 2 m2 (.pointer (some ⟨m1.next, 0, none⟩)) = some (.agg (spV (w.u, w.s)).toArray) := by simp only [go_sem, ruB, hbx.at_]; rfl
    obtain ⟨va, ma, ea1, ea2, ea3⟩ := (hO.keep hxx).app (by_ := 16) (es := spV (w.u, w.s)) (hx.trans hxx) (by omega) rfl rfl (by omega) (by omega)
    simp only [go_sem, d3]
    refine ⟨rfl, rfl, ?_⟩
    have pad : spV (w.u, w.s) ++ List.drop (spV (w.u, w.s)).length [Value.int IntKind.i64 0, Value.int IntKind.i64 0] = spV (w.u, w.s) := rfl
    rw [pad, ea1]
    simp only [go_sem, s1]
    refine ⟨L.length - (k + 1), by omega, k + 1, va, by omega, rfl, rfl, ?_, ea3⟩
    rw [tk, List.length_append, List.flatMap_append]
    simpa using ea2
  · have : k = L.length := by omega
    subst this
    rw [List.take_length] at hO
    simp only [go_sem, g1']
    exact ⟨hO, hx⟩
end Go.Am


/- LocalW4 over the table of tt (relayset.py). -/
set_option linter.unusedVariables false
set_option linter.unusedSimpArgs false
namespace Go.Am
variable {m : Mem}

theorem LocV.appD {m0 m : Mem} {b N s t : Nat} {L : List En} {lv : Value} {e : En} (h : LocV m0 m b L lv) (hl : L.length < 100000) (hs : s < N) (ht : t < N) :
    ∃ v' m' m'', aApp (some (m.next + t)) 3 24 ((m.bump N).set (m.next + s) (some (.cells (enV e) (some 3)))) lv (.slice (some ⟨m.next + s, 0, none⟩) 1 1) = some (v', m') ∧
      aStore 1 m' (.pointer (some ⟨b, 0, none⟩)) v' = some m'' ∧ LocV m0 m'' b (L ++ [e]) v' := by
  obtain ⟨v', m', e1, e2, e3⟩ := h.own.appD (by_ := 24) (es := enV e) h.ext rfl rfl (by omega) (by omega) hs ht
  have hx : Ext m ((m.bump N).set (m.next + s) (some (.cells (enV e) (some 3)))) := Ext.set ⟨by simp, fun b hb => rfl⟩ (by omega)
  obtain ⟨a1, a2, a3⟩ := app_updA (M := m.next) e1 (fun k hk => by cases hk; omega) hx.next
  have hbn := h.box.lt
  have hbm : m'.blk b = some (.cells [lv] (some 1)) := by
    rw [a2 b hbn (fun hb => h.off b hb rfl), hx.same b hbn]; exact h.box.at_
  have hvb : ∀ c ∈ vb v', c ≠ b := fun c hc => by
    rcases a3 with e | ⟨k, e, hk⟩
    · rw [e] at hc; exact h.off c hc
    · rw [e] at hc; simp at hc; omega
  have hsl := e2.sl
  have hst : aStore 1 m' (.pointer (some ⟨b, 0, none⟩)) v' = some (m'.set b (some (.cells [v'] (some 1)))) := by
    simp only [aStore, hsl.cells]
    simp only [aWrite, hbm]
    have h1 : v'.oneCell' = true := hsl.one
    have : oneCells [v'] = true := by unfold oneCells; simp [h1]
    simp [this, writeL]
  have hu : Upd m' (m'.set b (some (.cells [v'] (some 1)))) [b] := Upd.set (by simp)
  refine ⟨v', m', _, e1, hst, ⟨by simp [Mem.set], ?_⟩, ?_, hu.ext_of e3 (by simpa using h.ge), h.ge, hvb⟩
  · have := hx.next
    show b < m'.next
    omega
  · have e4 : Own m0 m' 3 (L ++ [e]).length ((L ++ [e]).flatMap enV) v' := by
      rw [List.length_append, List.flatMap_append]; simpa using e2
    cases e4 with
    | nil h hc => exact .nil h hc
    | @«at» c2 c all hb hb2 hn hm hl hcs h1 =>
      refine .at hb (Nat.lt_of_lt_of_le hb2 hu.next) hn ?_ hl hcs h1
      rw [hu.same c2 hb2 (by simpa [vb] using hvb c2 (by simp [vb]))]; exact hm

def ent (w : Sp) : En := ⟨w.1, w.2, 0⟩

/-- Why there is none; 0: there is one. -/
noncomputable def newE (f : Int) (l : List Sp) : Int := if chkA f l = 0 then (match totO 0 l with | none => 12 | some n => if f < n then 12 else 0) else chkA f l

set_option maxHeartbeats 2000000 in
theorem locNew {l : List Sp} {v : Value} {f : Int} (hs : Sl m 2 l.length (l.flatMap spV) v) (hb : SlLt m v) (hl : l.length < 10000) (hr : ∀ w ∈ l, inR w.2) :
    WC R F.local_New [.int .i64 f, v] m fun r m' => (newE f l ≠ 0 ∧ r = .tuple #[.pointer none, .int .i64 (newE f l)] ∧ Ext m m') ∨
      (newE f l = 0 ∧ ∃ b L lv, r = .tuple #[.pointer (some ⟨b, 0, none⟩), .int .i64 0] ∧ LocV m m' b L lv ∧ L.Perm (l.map ent) ∧ L.Pairwise fun x y => ¬ cmpI y.u x.u < 0) := by
  refine WC.of R.local_New rfl ?_
  simp only [RC.local_New, go_sem]
  refine gC.of (orCheck hs hb (by omega)) ?_
  rintro _ m1 ⟨rfl, hx1⟩
  simp only [go_sem]
  by_cases g1 : chkA f l = 0
  · have e1 : (chkA f l != 0) = false := by rw [g1]; rfl
    simp only [go_sem, e1]
    refine gC.of (orTotal (hs.keep hb hx1) (hb.keep hx1) (by omega) hr) ?_
    rintro _ m2 ⟨⟨n, ht, rfl⟩ | ⟨ht, rfl⟩, hx2⟩
    · have hE : newE f l = if f < n then 12 else 0 := by unfold newE; rw [if_pos g1, ht]
      have e2 : ((0 : Int) != 0) = false := rfl
      by_cases g2 : f < n
      · have e3 : decide (f < n) = true := decide_eq_true g2
        rw [if_pos g2] at hE
        simp only [go_sem, aExt0, aExt1, e2, e3]
        exact .inl ⟨by rw [hE]; decide, by rw [hE], hx1.trans hx2⟩
      · have e3 : decide (f < n) = false := decide_eq_false g2
        rw [if_neg g2] at hE
        simp only [go_sem, aExt0, aExt1, e2, e3]
        have hx02 := hx1.trans hx2
        have hx3 : Ext m2 (m2.new (.cells [.slice none 0 0] (some 1))) := Ext.new
        have hb3 : Bk (m2.new (.cells [.slice none 0 0] (some 1))) m2.next [.slice none 0 0] 1 := Bk.new
        generalize m2.new (.cells [.slice none 0 0] (some 1)) = m3 at hx3 hb3 ⊢
        have hx03 := hx02.trans hx3
        have hV0 : LocV m m3 m2.next [] (.slice none 0 0) := ⟨hb3, .nil rfl rfl, hx03, hx02.next, by simp [vb]⟩
        simp only [hs.len, go_sem]
        refine WL.of (fun k e m' => ∃ (i : Nat) (lv : Value), i ≤ l.length ∧ k = l.length - i ∧ e = [(9, .pointer (some ⟨m2.next, 0, none⟩)), (32, v), (33, .int .i64 l.length), (34, .int .i64 i)] ∧ LocV m m' m2.next ((l.take i).map ent) lv) l.length
          ⟨0, _, by omega, by omega, by simp only [go_sem] <;> rfl, hV0⟩ ?_
        rintro _ _ m4 ⟨i, lv, hi, rfl, rfl, hV⟩
        simp only [RB.local_New_1, go_sem]
        refine gT.of (fun g3' => ?_) (fun g3' => ?_) <;> (have g3 := g3'; try simp only [decide_eq_true_eq, decide_eq_false_iff_not, beq_iff_eq, bne_iff_ne, beq_eq_false_iff_ne, ne_eq, Bool.not_eq_true', Bool.not_eq_false', bne_eq_false_iff_eq, Int.not_lt, Int.not_le] at g3)
        · have hil : i < l.length := by omega
          have s1 := step1 (show i < 1000000 by omega)
          obtain ⟨p, o, a1, a2, -, -⟩ := (hs.keep hb hV.ext).elem spV_len (k := .i64) hil
          have tk : (l.take (i + 1)).map ent = (l.take i).map ent ++ [ent l[i]] := by rw [List.take_succ_eq_append_getElem hil, List.map_append]; rfl
          simp only [go_sem, g3', a1, a2]
          generalize l[i] = w at tk ⊢
          have hst : aStore 2 (m4.new (.cells [(.int .i64 0), (.int .i64 0)] (some 2))) (.pointer (some ⟨m4.next, 0, none⟩)) (.agg (spV w).toArray) = some (m4.new (.cells [.int .i64 w.1, .int .i64 w.2] (some 2))) := by
            simp only [spV]
            simp only [go_sem, ruB]
          simp only [go_sem, hst]
          have hxx : Ext m4 (m4.new (.cells [.int .i64 w.1, .int .i64 w.2] (some 2))) := Ext.new
          have hbx : Bk (m4.new (.cells [.int .i64 w.1, .int .i64 w.2] (some 2))) m4.next [.int .i64 w.1, .int .i64 w.2] 2 := Bk.new
          have hV5 := hV.keep hxx
          generalize m4.new (.cells [.int .i64 w.1, .int .i64 w.2] (some 2)) = m5 at hbx hV5 ⊢
          have c3 : aLoad true 2 m5 (.pointer (some ⟨m4.next, 0, none⟩)) = some (.agg (spV w).toArray) := by simp only [go_sem, ruB, hbx.at_]; rfl
          have c1 := hV5.ld
          simp only [go_sem, c1, c3]
          obtain ⟨v', m6, m7, f1, f2, hV7⟩ := hV5.appD (e := ent w) (N := 12) (s := 7) (t := 8) (by simp; omega) (by omega) (by omega)
          refine ⟨rfl, rfl, rfl, ?_⟩
          have pad : spV w ++ List.drop (spV w).length [Value.int IntKind.i64 0, Value.int IntKind.i64 0, Value.int IntKind.i64 0] ++ List.drop (spV w ++ List.drop (spV w).length [Value.int IntKind.i64 0, Value.int IntKind.i64 0, Value.int IntKind.i64 0]).length [Value.int IntKind.i64 0, Value.int IntKind.i64 0, Value.int IntKind.i64 0] = enV (ent w) := rfl
          rw [pad, f1]
          simp only [go_sem, f2, s1]
          exact ⟨l.length - (i + 1), by omega, i + 1, v', by omega, rfl, rfl, by rw [tk]; exact hV7⟩
        · have : i = l.length := by omega
          subst this
          rw [List.take_length] at hV
          have c1 := hV.ld
          simp only [go_sem, g3', c1]
          refine gC.of (so_own enV_len enV_one enCmp enSWO hV.own hV.ext (by simp; omega)) ?_
          rintro _ m5 ⟨L', hp, hso, ho, hx, hu⟩
          simp only [go_sem]
          refine .inr ⟨hE, m2.next, L', lv, rfl, ⟨hV.box.upd hu (fun h => hV.off _ h rfl), ho, hx, hV.ge, hV.off⟩, hp, hso⟩
    · have hE : newE f l = 12 := by unfold newE; rw [if_pos g1, ht]
      have e2 : ((5 : Int) != 0) = true := rfl
      simp only [go_sem, aExt0, aExt1, e2]
      exact .inl ⟨by rw [hE]; decide, by rw [hE], hx1.trans hx2⟩
  · have hE : newE f l = chkA f l := by unfold newE; rw [if_neg g1]
    have e1 : (chkA f l != 0) = true := by rw [bne_iff_ne]; exact g1
    simp only [go_sem, e1]
    exact .inl ⟨by rw [hE]; exact g1, by rw [hE], hx1⟩
end Go.Am
