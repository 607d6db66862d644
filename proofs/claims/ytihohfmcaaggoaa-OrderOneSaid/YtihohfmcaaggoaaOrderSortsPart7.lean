/- Parts of the proofs of the statements of this seat: SortB, Sort2Order, Sort3Order, Sort4Order, Sort5Order, Sort6Order, Sort7Order, AmIns2, OrderW3. No conditions. -/
import Derived.Test.YtihohfmcaaggoaaOrderSortsPart6
import Derived.Test.YtihohfmcaaggoaaOrderSortsPart3
import Derived.Sort.Walk13a
import Derived.Test.YtihohfmcaaggoaaOrderSortsPart4
set_option linter.unusedVariables false
set_option linter.unusedSimpArgs false

/- Numbers of a sort. -/
set_option linter.unusedVariables false
namespace Go.Am
open Go.Sort

def hintN : Hint → Int
  | .unknown => 0
  | .increasing => 1
  | .decreasing => 2

theorem nq (k : Nat) (hk : 0 < k) {l : Nat} (h : l < 4000000) : IntKind.wrap .i64 ((l : Int).tdiv (k : Nat)) = ((l / k : Nat) : Int) := by
  have e : (l : Int).tdiv (k : Nat) = ((l / k : Nat) : Int) := by
    rw [Int.tdiv_eq_ediv_of_nonneg (by omega)]; simp
  have : l / k ≤ l := Nat.div_le_self _ _
  rw [e]
  generalize l / k = q at this ⊢
  rw [wrap_i64 (by omega) (by omega)]
theorem nq2 {l : Nat} (h : l < 4000000) : IntKind.wrap .i64 ((l : Int).tdiv 2) = ((l / 2 : Nat) : Int) := nq 2 (by omega) h
theorem nq4 {l : Nat} (h : l < 4000000) : IntKind.wrap .i64 ((l : Int).tdiv 4) = ((l / 4 : Nat) : Int) := nq 4 (by omega) h
theorem nq8 {l : Nat} (h : l < 4000000) : IntKind.wrap .i64 ((l : Int).tdiv 8) = ((l / 8 : Nat) : Int) := nq 8 (by omega) h
theorem nm (k : Nat) {l : Nat} (h : l * k < 4000000) : IntKind.wrap .i64 ((l : Int) * (k : Nat)) = ((l * k : Nat) : Int) := by
  have e : (l : Int) * (k : Nat) = ((l * k : Nat) : Int) := by simp
  rw [e]
  generalize l * k = q at h ⊢
  rw [wrap_i64 (by omega) (by omega)]
theorem nm1 {l : Nat} (h : l < 1000000) : IntKind.wrap .i64 ((l : Int) * 1) = ((l * 1 : Nat) : Int) := nm 1 (by omega)
theorem nm2 {l : Nat} (h : l < 1000000) : IntKind.wrap .i64 ((l : Int) * 2) = ((l * 2 : Nat) : Int) := nm 2 (by omega)
theorem nm3 {l : Nat} (h : l < 1000000) : IntKind.wrap .i64 ((l : Int) * 3) = ((l * 3 : Nat) : Int) := nm 3 (by omega)
theorem nmm2 {l : Nat} (h : l < 1000000) : IntKind.wrap .i64 (2 * (l : Int)) = ((2 * l : Nat) : Int) := by
  have e : 2 * (l : Int) = ((2 * l : Nat) : Int) := by simp
  rw [e, wrap_i64 (by omega) (by omega)]

theorem aStore_next {sz : Nat} {m m' : Mem} {p v : Value} (h : aStore sz m p v = some m') : m'.next = m.next := by
  unfold aStore at h
  split at h
  · split at h
    · exact (aWrite_upd h).2
    · cases h
  · cases h
theorem aStore_keep {sz b o : Nat} {m m' : Mem} {v : Value} (h : aStore sz m (.pointer (some ⟨b, o, none⟩)) v = some m') : ∀ k, k ≠ b → m'.blk k = m.blk k := by
  intro k hk
  simp only [aStore] at h
  split at h
  · unfold aWrite at h
    split at h
    · split at h
      · cases h; simp [Mem.set, hk]
      · cases h
    · cases h
  · cases h
theorem Upd.st' {a b : Mem} {fp : List Nat} {q : Nat} {o : Option AObj} (h : Upd a b fp) (hq : q ∈ fp ∨ a.next ≤ q) : Upd a (b.set q o) fp := h.trans (Upd.set (fp := [q]) (by simp)) (fun _ h => h) (fun x h => by simp at h; subst h; exact hq)

theorem partLoop_le {R : Nat → Option FEnt} {α : Type} [Inhabited α] {u : Nat} {S : SortC R α u} {a : Nat} : ∀ (n i j : Nat) (d : Array α), j + 1 - i ≤ n → (partLoop S.lt a i j d).1 ≤ j := by
  intro n
  induction n with
  | zero =>
    intro i j d hn
    rw [partLoop_eq]
    have w1 := scanDown_le (fun x => !S.lt x d[a]!) d (scanUp (fun x => S.lt x d[a]!) d j i) j
    have u1 := scanUp_ge (fun x => S.lt x d[a]!) d j i
    split
    · exact w1
    · omega
  | succ n ih =>
    intro i j d hn
    rw [partLoop_eq]
    have w1 := scanDown_le (fun x => !S.lt x d[a]!) d (scanUp (fun x => S.lt x d[a]!) d j i) j
    have u1 := scanUp_ge (fun x => S.lt x d[a]!) d j i
    split
    · exact w1
    · refine Nat.le_trans (ih _ _ _ (by omega)) (by omega)
theorem ne_of_scans {R : Nat → Option FEnt} {α : Type} [Inhabited α] {p q : α → Bool} {d : Array α} {i j : Nat} (hpq : ∀ x, q x = !p x) (h1 : 1 ≤ i) (hij : i ≤ j + 1) : scanUp p d j i ≠ scanDown q d (scanUp p d j i) j := by
  intro e
  have u1 := scanUp_spec p d j _ i rfl
  have w1 := scanDown_spec q d (scanUp p d j i) j
  rw [← e] at w1
  have a1 := u1.2.2.2 w1.1
  have a2 := w1.2.2.2 (Nat.le_refl _) (by omega)
  rw [hpq, a1] at a2
  simp at a2

section
variable {α : Type} [Inhabited α] {lt : α → α → Bool} {a : Nat}
theorem partLoop_rng : ∀ (n i j : Nat) (d : Array α), j + 1 - i ≤ n → 1 ≤ i → i ≤ j + 1 → i - 1 ≤ (partLoop lt a i j d).1 ∧ (partLoop lt a i j d).1 ≤ j := by
  intro n
  induction n with
  | zero =>
    intro i j d hn h1 h2
    rw [partLoop_eq]
    have w1 := scanDown_le (fun x => !lt x d[a]!) d (scanUp (fun x => lt x d[a]!) d j i) j
    have u1 := scanUp_ge (fun x => lt x d[a]!) d j i
    have u2 := (scanUp_spec (fun x => lt x d[a]!) d j _ i rfl).2.1 h2
    have w2 := (scanDown_spec (fun x => !lt x d[a]!) d (scanUp (fun x => lt x d[a]!) d j i) j).2.1 u2
    split
    · simp only; omega
    · omega
  | succ n ih =>
    intro i j d hn h1 h2
    rw [partLoop_eq]
    have w1 := scanDown_le (fun x => !lt x d[a]!) d (scanUp (fun x => lt x d[a]!) d j i) j
    have u1 := scanUp_ge (fun x => lt x d[a]!) d j i
    have u2 := (scanUp_spec (fun x => lt x d[a]!) d j _ i rfl).2.1 h2
    have w2 := (scanDown_spec (fun x => !lt x d[a]!) d (scanUp (fun x => lt x d[a]!) d j i) j).2.1 u2
    have hne := ne_of_scans (R := fun _ => none) (d := d) (p := fun x => lt x d[a]!) (q := fun x => !lt x d[a]!) (fun x => rfl) h1 h2
    split
    · simp only; omega
    · have := ih (scanUp (fun x => lt x d[a]!) d j i + 1) (scanDown (fun x => !lt x d[a]!) d (scanUp (fun x => lt x d[a]!) d j i) j - 1) (swp d (scanUp (fun x => lt x d[a]!) d j i) (scanDown (fun x => !lt x d[a]!) d (scanUp (fun x => lt x d[a]!) d j i) j)) (by omega) (by omega) (by omega)
      omega
theorem partEqLoop_rng : ∀ (n i j : Nat) (d : Array α), j + 1 - i ≤ n → 1 ≤ i → i ≤ j + 1 → i ≤ (partEqLoop lt a i j d).1 ∧ (partEqLoop lt a i j d).1 ≤ j + 1 := by
  intro n
  induction n with
  | zero =>
    intro i j d hn h1 h2
    rw [partEqLoop_eq]
    have w1 := scanDown_le (fun x => lt d[a]! x) d (scanUp (fun x => !lt d[a]! x) d j i) j
    have u1 := scanUp_ge (fun x => !lt d[a]! x) d j i
    have u2 := (scanUp_spec (fun x => !lt d[a]! x) d j _ i rfl).2.1 h2
    split
    · simp only; omega
    · omega
  | succ n ih =>
    intro i j d hn h1 h2
    rw [partEqLoop_eq]
    have w1 := scanDown_le (fun x => lt d[a]! x) d (scanUp (fun x => !lt d[a]! x) d j i) j
    have u1 := scanUp_ge (fun x => !lt d[a]! x) d j i
    have u2 := (scanUp_spec (fun x => !lt d[a]! x) d j _ i rfl).2.1 h2
    have hne := ne_of_scans (R := fun _ => none) (d := d) (p := fun x => !lt d[a]! x) (q := fun x => lt d[a]! x) (fun x => by simp) h1 h2
    split
    · simp only; omega
    · have := ih (scanUp (fun x => !lt d[a]! x) d j i + 1) (scanDown (fun x => lt d[a]! x) d (scanUp (fun x => !lt d[a]! x) d j i) j - 1) (swp d (scanUp (fun x => !lt d[a]! x) d j i) (scanDown (fun x => lt d[a]! x) d (scanUp (fun x => !lt d[a]! x) d j i) j)) (by omega) (by omega) (by omega)
      omega
theorem part_rng {d : Array α} {b p : Nat} (h : a < b) : a ≤ (partition lt d a b p).1 ∧ (partition lt d a b p).1 < b := by
  rw [partition_fst]
  have := partLoop_rng (lt := lt) (a := a) _ (a + 1) (b - 1) (swp d a p) (Nat.le_refl _) (by omega) (by omega)
  omega
theorem parte_rng {d : Array α} {b p : Nat} (h : a < b) : a < (partitionEqual lt d a b p).1 ∧ (partitionEqual lt d a b p).1 ≤ b := by
  unfold partitionEqual
  have := partEqLoop_rng (lt := lt) (a := a) _ (a + 1) (b - 1) (swp d a p) (Nat.le_refl _) (by omega) (by omega)
  omega
end

/-! ### bits.Len -/
theorem bitsLen_shr {n k : Nat} (h : 2 ^ k ≤ n) : bitsLen n = bitsLen (n / 2 ^ k) + k := by
  have hq : 0 < n / 2 ^ k := Nat.div_pos h (Nat.two_pow_pos k)
  have h1 := lt_two_pow_bitsLen (n / 2 ^ k)
  have h2 : bitsLen n ≤ bitsLen (n / 2 ^ k) + k := by
    rw [bitsLen_le_iff, Nat.pow_add]
    exact (Nat.div_lt_iff_lt_mul (Nat.two_pow_pos k)).1 h1
  have h3 : bitsLen (n / 2 ^ k) + k ≤ bitsLen n := by
    have a1 := lt_two_pow_bitsLen n
    have hk : k ≤ bitsLen n := by
      apply Classical.byContradiction
      intro hc
      have : n < 2 ^ k := Nat.lt_of_lt_of_le a1 (Nat.pow_le_pow_right (by omega) (by omega))
      omega
    have : bitsLen (n / 2 ^ k) ≤ bitsLen n - k := by
      rw [bitsLen_le_iff, Nat.div_lt_iff_lt_mul (Nat.two_pow_pos k), ← Nat.pow_add, Nat.sub_add_cancel hk]
      exact a1
    omega
  omega

theorem lenTab_size : lenTab.size = 256 := by decide +kernel
set_option maxRecDepth 20000 in
theorem lenTab_get : ∀ i : _root_.Fin 256, (lenTab.data[i.val]?.map (·.toNat)) = some (bitsLen i.val) := by decide +kernel
theorem len8 {i : Nat} (h : i < 256) : aIdxStr (.string lenTab) (.int .u8 (i : Nat)) = some (.int .u8 (bitsLen i : Nat)) := by
  simp only [aIdxStr]
  have hs := lenTab_size
  rw [dif_pos ⟨by omega, by rw [Int.toNat_natCast]; omega⟩]
  have g := lenTab_get ⟨i, h⟩
  simp only at g
  rw [Array.getElem?_eq_getElem (by show i < lenTab.size; omega)] at g
  simp only [Option.map_some, Option.some.injEq] at g
  rw [← g]
  rfl
theorem bitsLen8 {i : Nat} (h : i < 256) : bitsLen i ≤ 8 := (bitsLen_le_iff i 8).2 (by omega)
theorem conv_u8 {x : BitVec 64} : aConv .u8 (u64 x) = some (.int .u8 (IntKind.wrap .u8 x.toNat)) := (rfl)
theorem wrap_u8 {n : Nat} (h : n < 256) : IntKind.wrap .u8 (n : Int) = n := by
  simp only [IntKind.wrap, IntKind.bits, IntKind.signed, Bool.false_and, Bool.false_eq_true, if_false]; omega
theorem conv_i64_u8 {a : Int} : aConv .i64 (.int .u8 a) = some (.int .i64 (IntKind.wrap .i64 a)) := (rfl)

/-! ### the generator -/
theorem xor_bv (r : UInt64) : (xorNext r).toBitVec = (r.toBitVec ^^^ r.toBitVec <<< 13) ^^^ (r.toBitVec ^^^ r.toBitVec <<< 13) >>> 7 ^^^ ((r.toBitVec ^^^ r.toBitVec <<< 13) ^^^ (r.toBitVec ^^^ r.toBitVec <<< 13) >>> 7) <<< 17 := by
  unfold xorNext
  simp only [UInt64.toBitVec_xor, UInt64.toBitVec_shiftLeft, UInt64.toBitVec_shiftRight]
  rfl

/-- So many rounds are left. -/
def bpN {α : Type} [Inhabited α] (a length modulus : Nat) : Nat → UInt64 → Array α → Nat → Array α
  | 0, _, d, _ => d
  | k + 1, r, d, idx => bpN a length modulus k (breakStep a length modulus (r, d) idx).1 (breakStep a length modulus (r, d) idx).2 (idx + 1)
theorem bpN_eq {α : Type} [Inhabited α] {d : Array α} {a b : Nat} (h : b - a ≥ 8) : breakPatterns d a b = bpN a (b - a) (1 <<< bitsLen (b - a)) 3 (UInt64.ofNat (b - a)) d (a + (b - a) / 4 * 2 - 1) := by
  unfold breakPatterns
  simp only
  rw [if_pos h]
  rfl

/-- Two ways that come together again. -/
theorem gT_mid {R : Nat → Option FEnt} {b : Bool} {A B : RCode} {e : Env} {m : Mem} {Q : Ex → Env → Mem → Prop} {K : Env → Mem → Prop} (P : Env → Mem → Prop)
    (h1 : b = true → gp R A e m (gN Q P ph ph)) (h2 : b = false → gp R B e m (gN Q P ph ph)) (h3 : ∀ e' m', P e' m' → K e' m') : gT b (gp R A e m (gN Q K ph ph)) (gp R B e m (gN Q K ph ph)) :=
  ⟨fun h => wp.mono (fun x e' m' hx => onNormal.mono (fun _ _ _ h => h) h3 hx) (h1 h), fun h => wp.mono (fun x e' m' hx => onNormal.mono (fun _ _ _ h => h) h3 hx) (h2 h)⟩
theorem gp_seq_mid {R : Nat → Option FEnt} {A B : RCode} {e : Env} {m : Mem} {Q : Ex → Env → Mem → Prop} (P : Env → Mem → Prop)
    (h1 : gp R A e m (gN Q P ph ph)) (h3 : ∀ e' m', P e' m' → gp R B e' m' Q) : gp R (.seq A B) e m Q := by
  show wp R A e m (onNormal Q fun e' m' => wp R B e' m' Q)
  exact wp.mono (fun x e' m' hx => onNormal.mono (fun _ _ _ h => h) h3 hx) h1
end Go.Am


/- Sorting a row at api_Want (Order): the pivot is chosen; by a heap. Printed out of SortT2.tmpl by sortgen.py. -/
set_option linter.unusedVariables false
set_option linter.unusedSimpArgs false
namespace Go.Am
open Go.Sort
variable {α : Type} [Inhabited α] {S : SortC R α 2} {m : Mem} {d : Array α}

theorem so_choose {a b : Nat} (h : S.Row m d) (hb : b ≤ S.n) (ha : a < b) (hm : S.m0.next ≤ m.next) : WC R F.slices_choosePivotCmpFunc_api_Want [S.sv, .int .i64 a, .int .i64 b, S.cv] m fun r m' =>
    r = .tuple #[.int .i64 (choosePivot S.lt d a b).1, .int .i64 (hintN (choosePivot S.lt d a b).2)] ∧ S.Row m' d := by
  refine WC.of R.slices_choosePivotCmpFunc_api_Want rfl ?_
  have hn := S.small
  have i1 : (b - a) / 4 ≤ b - a := Nat.div_le_self _ _
  simp only [RC.slices_choosePivotCmpFunc_api_Want, go_sem, Int.reduceBEq, Int.reduceBNe, Int.reduceNeg, reduceCtorEq, Nat.reduceEqDiff, Nat.reduceAdd, Nat.reduceLeDiff, Nat.reduceMul, Nat.reduceSub, Int.reduceToNat, Int.reduceLT, Int.reduceLE, nsub (show a ≤ b by omega) (show b < 4000000 by omega), nq4 (show b - a < 4000000 by omega), nm1 (show (b - a) / 4 < 1000000 by omega), nm2 (show (b - a) / 4 < 1000000 by omega), nm3 (show (b - a) / 4 < 1000000 by omega),
    nadd (show a + (b - a) / 4 < 4000000 by omega), nadd (show a + (b - a) / 4 * 2 < 4000000 by omega), nadd (show a + (b - a) / 4 * 3 < 4000000 by omega)]
  have hx1 : Ext m (m.new (.cells [.int .i64 0] (some 1))) := Ext.new
  have hc : so_Cnt (m.new (.cells [.int .i64 0] (some 1))) m.next 0 := ⟨by simp [Mem.new], by simp [Mem.new]⟩
  have hq : S.b ≠ m.next := by have := h.lt; omega
  generalize m.new (.cells [.int .i64 0] (some 1)) = m1 at hx1 hc ⊢
  have h1 := h.keep hx1
  have fin : ∀ (m2 : Mem) (j s : Nat), S.Row m2 d → so_Cnt m2 m.next s → s ≤ 12 → choosePivot S.lt d a b = (j, if s = 0 then .increasing else if s = 12 then .decreasing else .unknown) →
      ∀ (K : Value → Mem → Prop), (∀ r m', r = .tuple #[.int .i64 (choosePivot S.lt d a b).1, .int .i64 (hintN (choosePivot S.lt d a b).2)] ∧ S.Row m' d → K r m') →
      (s = 0 → K (.tuple #[.int .i64 j, .int .i64 1]) m2) ∧ (s = 12 → K (.tuple #[.int .i64 j, .int .i64 2]) m2) ∧ (s ≠ 0 → s ≠ 12 → K (.tuple #[.int .i64 j, .int .i64 0]) m2) := by
    intro m2 j s hr hcn hs he K hK
    refine ⟨fun e => hK _ _ ⟨?_, hr⟩, fun e => hK _ _ ⟨?_, hr⟩, fun e e2 => hK _ _ ⟨?_, hr⟩⟩
    · rw [he, if_pos e]; rfl
    · rw [he, if_neg (by omega), if_pos e]; rfl
    · rw [he, if_neg e, if_neg e2]; rfl
  refine ⟨by omega, by omega, by omega, ?_⟩
  refine gT.of (fun g1' => ?_) (fun g1' => ?_) <;> (have g1 := g1'; try simp only [decide_eq_true_eq, decide_eq_false_iff_not, beq_iff_eq, bne_iff_ne, beq_eq_false_iff_ne, ne_eq, Bool.not_eq_true', Bool.not_eq_false', bne_eq_false_iff_eq, Int.not_lt, Int.not_le] at g1)
  · simp only [go_sem, Int.reduceBEq, Int.reduceBNe, Int.reduceNeg, reduceCtorEq, Nat.reduceEqDiff, Nat.reduceAdd, Nat.reduceLeDiff, Nat.reduceMul, Nat.reduceSub, Int.reduceToNat, Int.reduceLT, Int.reduceLE, g1']
    refine gT.of (fun g2' => ?_) (fun g2' => ?_) <;> (have g2 := g2'; try simp only [decide_eq_true_eq, decide_eq_false_iff_not, beq_iff_eq, bne_iff_ne, beq_eq_false_iff_ne, ne_eq, Bool.not_eq_true', Bool.not_eq_false', bne_eq_false_iff_eq, Int.not_lt, Int.not_le] at g2)
    · simp only [go_sem, Int.reduceBEq, Int.reduceBNe, Int.reduceNeg, reduceCtorEq, Nat.reduceEqDiff, Nat.reduceAdd, Nat.reduceLeDiff, Nat.reduceMul, Nat.reduceSub, Int.reduceToNat, Int.reduceLT, Int.reduceLE, g2']
      refine gC.of (so_medianAdj h1 hc hq hm (show 0 < a + (b - a) / 4 by omega) (show a + (b - a) / 4 + 1 < S.n by omega) (by omega)) ?_
      rintro _ m2 ⟨rfl, h2, hc2, p1, p2⟩
      generalize hA : medianAdjacent S.lt d (a + (b - a) / 4) 0 = A at hc2 p1 p2 ⊢
      simp only [go_sem, Int.reduceBEq, Int.reduceBNe, Int.reduceNeg, reduceCtorEq, Nat.reduceEqDiff, Nat.reduceAdd, Nat.reduceLeDiff, Nat.reduceMul, Nat.reduceSub, Int.reduceToNat, Int.reduceLT, Int.reduceLE]
      refine gC.of (so_medianAdj h2 hc2 hq hm (show 0 < a + (b - a) / 4 * 2 by omega) (show a + (b - a) / 4 * 2 + 1 < S.n by omega) (by omega)) ?_
      rintro _ m3 ⟨rfl, h3, hc3, p3, p4⟩
      generalize hB : medianAdjacent S.lt d (a + (b - a) / 4 * 2) A.2 = B at hc3 p3 p4 ⊢
      simp only [go_sem, Int.reduceBEq, Int.reduceBNe, Int.reduceNeg, reduceCtorEq, Nat.reduceEqDiff, Nat.reduceAdd, Nat.reduceLeDiff, Nat.reduceMul, Nat.reduceSub, Int.reduceToNat, Int.reduceLT, Int.reduceLE]
      refine gC.of (so_medianAdj h3 hc3 hq hm (show 0 < a + (b - a) / 4 * 3 by omega) (show a + (b - a) / 4 * 3 + 1 < S.n by omega) (by omega)) ?_
      rintro _ m4 ⟨rfl, h4, hc4, p5, p6⟩
      generalize hC : medianAdjacent S.lt d (a + (b - a) / 4 * 3) B.2 = C at hc4 p5 p6 ⊢
      simp only [go_sem, Int.reduceBEq, Int.reduceBNe, Int.reduceNeg, reduceCtorEq, Nat.reduceEqDiff, Nat.reduceAdd, Nat.reduceLeDiff, Nat.reduceMul, Nat.reduceSub, Int.reduceToNat, Int.reduceLT, Int.reduceLE]
      refine gC.of (so_median h4 hc4 hq hm p1 p3 p5 (by omega)) ?_
      rintro _ m5 ⟨rfl, h5, hc5, p7, p8⟩
      generalize hM : median S.lt d A.1 B.1 C.1 C.2 = M at hc5 p7 p8 ⊢
      have he : choosePivot S.lt d a b = (M.1, if M.2 = 0 then .increasing else if M.2 = 12 then .decreasing else .unknown) := by
        unfold choosePivot
        simp only [Nat.mul_one, hA, hB, hC, hM]
        rw [if_pos (show b - a ≥ 8 by omega), if_pos (show b - a ≥ 50 by omega)]
      obtain ⟨k1, k2, k3⟩ := fin m5 _ _ h5 hc5 (by omega) he _ (fun r m' h => h)
      simp only [go_sem, Int.reduceBEq, Int.reduceBNe, Int.reduceNeg, reduceCtorEq, Nat.reduceEqDiff, Nat.reduceAdd, Nat.reduceLeDiff, Nat.reduceMul, Nat.reduceSub, Int.reduceToNat, Int.reduceLT, Int.reduceLE, load_w, load_a, store_b, idxS_b, set_blk, new_blk, set_next, new_next, len_s, ldW_c, ldA_c, stB_c, toArr_one, size_one, toList_toArr, size_toArr, List.length_cons, List.length_nil, List.getElem?_cons_zero, List.getElem?_cons_succ, Nat.zero_add, Nat.add_zero, hc5.at_]
      refine gT.of (fun g3' => ?_) (fun g3' => ?_) <;> (have g3 := g3'; try simp only [decide_eq_true_eq, decide_eq_false_iff_not, beq_iff_eq, bne_iff_ne, beq_eq_false_iff_ne, ne_eq, Bool.not_eq_true', Bool.not_eq_false', bne_eq_false_iff_eq, Int.not_lt, Int.not_le] at g3)
      · simp only [go_sem, Int.reduceBEq, Int.reduceBNe, Int.reduceNeg, reduceCtorEq, Nat.reduceEqDiff, Nat.reduceAdd, Nat.reduceLeDiff, Nat.reduceMul, Nat.reduceSub, Int.reduceToNat, Int.reduceLT, Int.reduceLE, g3']
        exact k1 (by omega)
      · simp only [go_sem, Int.reduceBEq, Int.reduceBNe, Int.reduceNeg, reduceCtorEq, Nat.reduceEqDiff, Nat.reduceAdd, Nat.reduceLeDiff, Nat.reduceMul, Nat.reduceSub, Int.reduceToNat, Int.reduceLT, Int.reduceLE, g3']
        refine gT.of (fun g4' => ?_) (fun g4' => ?_) <;> (have g4 := g4'; try simp only [decide_eq_true_eq, decide_eq_false_iff_not, beq_iff_eq, bne_iff_ne, beq_eq_false_iff_ne, ne_eq, Bool.not_eq_true', Bool.not_eq_false', bne_eq_false_iff_eq, Int.not_lt, Int.not_le] at g4)
        · simp only [go_sem, Int.reduceBEq, Int.reduceBNe, Int.reduceNeg, reduceCtorEq, Nat.reduceEqDiff, Nat.reduceAdd, Nat.reduceLeDiff, Nat.reduceMul, Nat.reduceSub, Int.reduceToNat, Int.reduceLT, Int.reduceLE, g4']
          exact k2 (by omega)
        · simp only [go_sem, Int.reduceBEq, Int.reduceBNe, Int.reduceNeg, reduceCtorEq, Nat.reduceEqDiff, Nat.reduceAdd, Nat.reduceLeDiff, Nat.reduceMul, Nat.reduceSub, Int.reduceToNat, Int.reduceLT, Int.reduceLE, g4']
          exact k3 (by omega) (by omega)
    · simp only [go_sem, Int.reduceBEq, Int.reduceBNe, Int.reduceNeg, reduceCtorEq, Nat.reduceEqDiff, Nat.reduceAdd, Nat.reduceLeDiff, Nat.reduceMul, Nat.reduceSub, Int.reduceToNat, Int.reduceLT, Int.reduceLE, g2']
      refine gC.of (so_median h1 hc hq hm (show a + (b - a) / 4 < S.n by omega) (show a + (b - a) / 4 * 2 < S.n by omega) (show a + (b - a) / 4 * 3 < S.n by omega) (by omega)) ?_
      rintro _ m5 ⟨rfl, h5, hc5, p7, p8⟩
      generalize hM : median S.lt d (a + (b - a) / 4) (a + (b - a) / 4 * 2) (a + (b - a) / 4 * 3) 0 = M at hc5 p7 p8 ⊢
      have he : choosePivot S.lt d a b = (M.1, if M.2 = 0 then .increasing else if M.2 = 12 then .decreasing else .unknown) := by
        unfold choosePivot
        simp only [Nat.mul_one, hM]
        rw [if_pos (show b - a ≥ 8 by omega), if_neg (show ¬ b - a ≥ 50 by omega)]
      obtain ⟨k1, k2, k3⟩ := fin m5 _ _ h5 hc5 (by omega) he _ (fun r m' h => h)
      simp only [go_sem, Int.reduceBEq, Int.reduceBNe, Int.reduceNeg, reduceCtorEq, Nat.reduceEqDiff, Nat.reduceAdd, Nat.reduceLeDiff, Nat.reduceMul, Nat.reduceSub, Int.reduceToNat, Int.reduceLT, Int.reduceLE, load_w, load_a, store_b, idxS_b, set_blk, new_blk, set_next, new_next, len_s, ldW_c, ldA_c, stB_c, toArr_one, size_one, toList_toArr, size_toArr, List.length_cons, List.length_nil, List.getElem?_cons_zero, List.getElem?_cons_succ, Nat.zero_add, Nat.add_zero, hc5.at_]
      refine gT.of (fun g3' => ?_) (fun g3' => ?_) <;> (have g3 := g3'; try simp only [decide_eq_true_eq, decide_eq_false_iff_not, beq_iff_eq, bne_iff_ne, beq_eq_false_iff_ne, ne_eq, Bool.not_eq_true', Bool.not_eq_false', bne_eq_false_iff_eq, Int.not_lt, Int.not_le] at g3)
      · simp only [go_sem, Int.reduceBEq, Int.reduceBNe, Int.reduceNeg, reduceCtorEq, Nat.reduceEqDiff, Nat.reduceAdd, Nat.reduceLeDiff, Nat.reduceMul, Nat.reduceSub, Int.reduceToNat, Int.reduceLT, Int.reduceLE, g3']
        exact k1 (by omega)
      · simp only [go_sem, Int.reduceBEq, Int.reduceBNe, Int.reduceNeg, reduceCtorEq, Nat.reduceEqDiff, Nat.reduceAdd, Nat.reduceLeDiff, Nat.reduceMul, Nat.reduceSub, Int.reduceToNat, Int.reduceLT, Int.reduceLE, g3']
        refine gT.of (fun g4' => ?_) (fun g4' => ?_) <;> (have g4 := g4'; try simp only [decide_eq_true_eq, decide_eq_false_iff_not, beq_iff_eq, bne_iff_ne, beq_eq_false_iff_ne, ne_eq, Bool.not_eq_true', Bool.not_eq_false', bne_eq_false_iff_eq, Int.not_lt, Int.not_le] at g4)
        · simp only [go_sem, Int.reduceBEq, Int.reduceBNe, Int.reduceNeg, reduceCtorEq, Nat.reduceEqDiff, Nat.reduceAdd, Nat.reduceLeDiff, Nat.reduceMul, Nat.reduceSub, Int.reduceToNat, Int.reduceLT, Int.reduceLE, g4']
          exact k2 (by omega)
        · simp only [go_sem, Int.reduceBEq, Int.reduceBNe, Int.reduceNeg, reduceCtorEq, Nat.reduceEqDiff, Nat.reduceAdd, Nat.reduceLeDiff, Nat.reduceMul, Nat.reduceSub, Int.reduceToNat, Int.reduceLT, Int.reduceLE, g4']
          exact k3 (by omega) (by omega)
  · have he : choosePivot S.lt d a b = (a + (b - a) / 4 * 2, .increasing) := by
      unfold choosePivot
      simp only
      rw [if_neg (show ¬ b - a ≥ 8 by omega)]
      rfl
    obtain ⟨k1, k2, k3⟩ := fin m1 _ 0 h1 hc (by omega) he _ (fun r m' h => h)
    simp only [go_sem, Int.reduceBEq, Int.reduceBNe, Int.reduceNeg, reduceCtorEq, Nat.reduceEqDiff, Nat.reduceAdd, Nat.reduceLeDiff, Nat.reduceMul, Nat.reduceSub, Int.reduceToNat, Int.reduceLT, Int.reduceLE, load_w, load_a, store_b, idxS_b, set_blk, new_blk, set_next, new_next, len_s, ldW_c, ldA_c, stB_c, toArr_one, size_one, toList_toArr, size_toArr, List.length_cons, List.length_nil, List.getElem?_cons_zero, List.getElem?_cons_succ, Nat.zero_add, Nat.add_zero, g1', hc.at_]
    exact k1 rfl

theorem so_sift {lo hi first : Nat} (h : S.Row m d) (hb : first + hi ≤ S.n) (hl : lo < 1000000) : WC R F.slices_siftDownCmpFunc_api_Want [S.sv, .int .i64 lo, .int .i64 hi, .int .i64 first, S.cv] m fun r m' => S.Row m' (siftDown S.lt hi first lo d) ∧ m.next ≤ m'.next := by
  refine WC.of R.slices_siftDownCmpFunc_api_Want rfl ?_
  have hn := S.small
  simp only [RC.slices_siftDownCmpFunc_api_Want, go_sem, Int.reduceBEq, Int.reduceBNe, Int.reduceNeg, reduceCtorEq, Nat.reduceEqDiff, Nat.reduceAdd, Nat.reduceLeDiff, Nat.reduceMul, Nat.reduceSub, Int.reduceToNat, Int.reduceLT, Int.reduceLE]
  refine WL.of (fun r e m' => ∃ (k : Nat) (d' : Array α), r = hi - k ∧ k < 1000000 ∧ e = [(0, S.sv), (2, .int .i64 hi), (3, .int .i64 first), (4, S.cv), (10, .int .i64 k)] ∧ S.Row m' d' ∧ m.next ≤ m'.next ∧ siftDown S.lt hi first k d' = siftDown S.lt hi first lo d) (hi - lo)
    ⟨lo, d, rfl, by omega, by simp only [go_sem, Int.reduceBEq, Int.reduceBNe, Int.reduceNeg, reduceCtorEq, Nat.reduceEqDiff, Nat.reduceAdd, Nat.reduceLeDiff, Nat.reduceMul, Nat.reduceSub, Int.reduceToNat, Int.reduceLT, Int.reduceLE] <;> rfl, h, Nat.le_refl _, rfl⟩ ?_
  rintro n0 _ m1 ⟨k, d', hr, hk, rfl, h1, hm1, he⟩
  simp only [RB.slices_siftDownCmpFunc_api_Want_1, go_sem, Int.reduceBEq, Int.reduceBNe, Int.reduceNeg, reduceCtorEq, Nat.reduceEqDiff, Nat.reduceAdd, Nat.reduceLeDiff, Nat.reduceMul, Nat.reduceSub, Int.reduceToNat, Int.reduceLT, Int.reduceLE, nmm2 (show k < 1000000 by omega), nadd1 (show 2 * k < 4000000 by omega)]
  refine gT.of (fun g1' => ?_) (fun g1' => ?_) <;> (have g1 := g1'; try simp only [decide_eq_true_eq, decide_eq_false_iff_not, beq_iff_eq, bne_iff_ne, beq_eq_false_iff_ne, ne_eq, Bool.not_eq_true', Bool.not_eq_false', bne_eq_false_iff_eq, Int.not_lt, Int.not_le] at g1)
  · simp only [go_sem, Int.reduceBEq, Int.reduceBNe, Int.reduceNeg, reduceCtorEq, Nat.reduceEqDiff, Nat.reduceAdd, Nat.reduceLeDiff, Nat.reduceMul, Nat.reduceSub, Int.reduceToNat, Int.reduceLT, Int.reduceLE, g1']
    rw [siftDown, dif_pos (by omega)] at he
    rw [← he]
    exact ⟨h1, hm1⟩
  · have c1 : first + (2 * k + 1) < S.n := by omega
    have c0 : first + k < S.n := by omega
    rw [siftDown, dif_neg (by omega)] at he
    simp only [go_sem, Int.reduceBEq, Int.reduceBNe, Int.reduceNeg, reduceCtorEq, Nat.reduceEqDiff, Nat.reduceAdd, Nat.reduceLeDiff, Nat.reduceMul, Nat.reduceSub, Int.reduceToNat, Int.reduceLT, Int.reduceLE, g1', nadd1 (show 2 * k + 1 < 4000000 by omega)]
    refine gT.of (fun g2' => ?_) (fun g2' => ?_) <;> (have g2 := g2'; try simp only [decide_eq_true_eq, decide_eq_false_iff_not, beq_iff_eq, bne_iff_ne, beq_eq_false_iff_ne, ne_eq, Bool.not_eq_true', Bool.not_eq_false', bne_eq_false_iff_eq, Int.not_lt, Int.not_le] at g2)
    · have c2 : first + (2 * k + 1 + 1) < S.n := by omega
      have hl1 := h1.ld c1
      have hl2 := h1.ld c2
      simp only [go_sem, Int.reduceBEq, Int.reduceBNe, Int.reduceNeg, reduceCtorEq, Nat.reduceEqDiff, Nat.reduceAdd, Nat.reduceLeDiff, Nat.reduceMul, Nat.reduceSub, Int.reduceToNat, Int.reduceLT, Int.reduceLE, g2', nadd (show first + (2 * k + 1) < 4000000 by omega), nadd1 (show first + (2 * k + 1) < 4000000 by omega), Nat.add_assoc first (2 * k + 1) 1, S.ix c1, S.ix c2, hl1, hl2]
      refine gC.of (S.cmp m1 d'[first + (2 * k + 1)]! d'[first + (2 * k + 1 + 1)]!) ?_
      rintro _ m2 ⟨rfl, hx2⟩
      simp only [go_sem, Int.reduceBEq, Int.reduceBNe, Int.reduceNeg, reduceCtorEq, Nat.reduceEqDiff, Nat.reduceAdd, Nat.reduceLeDiff, Nat.reduceMul, Nat.reduceSub, Int.reduceToNat, Int.reduceLT, Int.reduceLE]
      have h2 := h1.keep hx2
      have hm2 := Nat.le_trans hm1 hx2.next
      refine gT.of (fun g3' => ?_) (fun g3' => ?_) <;> (have g3 := g3'; try simp only [decide_eq_true_eq, decide_eq_false_iff_not, beq_iff_eq, bne_iff_ne, beq_eq_false_iff_ne, ne_eq, Bool.not_eq_true', Bool.not_eq_false', bne_eq_false_iff_eq, Int.not_lt, Int.not_le] at g3)
      · have hlt := S.lt_t g3
        rw [if_pos (show (decide (2 * k + 1 + 1 < hi) && S.lt d'[first + (2 * k + 1)]! d'[first + (2 * k + 1) + 1]!) = true by rw [Bool.and_eq_true, decide_eq_true_eq]; exact ⟨by omega, hlt⟩)] at he
        simp only [go_sem, Int.reduceBEq, Int.reduceBNe, Int.reduceNeg, reduceCtorEq, Nat.reduceEqDiff, Nat.reduceAdd, Nat.reduceLeDiff, Nat.reduceMul, Nat.reduceSub, Int.reduceToNat, Int.reduceLT, Int.reduceLE, g3', nadd1 (show 2 * k + 1 < 4000000 by omega), nadd (show first + k < 4000000 by omega), nadd (show first + (2 * k + 1 + 1) < 4000000 by omega), S.ix c0, S.ix c2, h2.ld c0, h2.ld c2]
        refine gC.of (S.cmp m2 d'[first + k]! d'[first + (2 * k + 1 + 1)]!) ?_
        rintro _ m3 ⟨rfl, hx3⟩
        simp only [go_sem, Int.reduceBEq, Int.reduceBNe, Int.reduceNeg, reduceCtorEq, Nat.reduceEqDiff, Nat.reduceAdd, Nat.reduceLeDiff, Nat.reduceMul, Nat.reduceSub, Int.reduceToNat, Int.reduceLT, Int.reduceLE]
        have h3 := h2.keep hx3
        have hm3 := Nat.le_trans hm2 hx3.next
        refine gT.of (fun g4' => ?_) (fun g4' => ?_) <;> (have g4 := g4'; try simp only [decide_eq_true_eq, decide_eq_false_iff_not, beq_iff_eq, bne_iff_ne, beq_eq_false_iff_ne, ne_eq, Bool.not_eq_true', Bool.not_eq_false', bne_eq_false_iff_eq, Int.not_lt, Int.not_le] at g4)
        · rw [show (2 * k + 2) = (2 * k + 1 + 1) from rfl, S.lt_f' (by simpa using g4)] at he
          simp only [go_sem, Int.reduceBEq, Int.reduceBNe, Int.reduceNeg, reduceCtorEq, Nat.reduceEqDiff, Nat.reduceAdd, Nat.reduceLeDiff, Nat.reduceMul, Nat.reduceSub, Int.reduceToNat, Int.reduceLT, Int.reduceLE, g4']
          rw [← he]
          exact ⟨h3, hm3⟩
        · have g4 : S.cf d'[first + k]! d'[first + (2 * k + 1 + 1)]! < 0 := by simpa using g4
          rw [show (2 * k + 2) = (2 * k + 1 + 1) from rfl, S.lt_t g4, if_neg (by simp), dif_pos (by omega)] at he
          obtain ⟨n1, n2, t1, t2, h5⟩ := h3.sw c0 c2
          simp only [go_sem, Int.reduceBEq, Int.reduceBNe, Int.reduceNeg, reduceCtorEq, Nat.reduceEqDiff, Nat.reduceAdd, Nat.reduceLeDiff, Nat.reduceMul, Nat.reduceSub, Int.reduceToNat, Int.reduceLT, Int.reduceLE, g4', nadd (show first + k < 4000000 by omega), nadd (show first + (2 * k + 1 + 1) < 4000000 by omega), S.ix c0, S.ix c2, h3.ld c0, h3.ld c2, t1, t2]
          exact ⟨hi - (2 * k + 1 + 1), by omega, 2 * k + 1 + 1, _, rfl, by omega, rfl, h5, by rw [aStore_next t2, aStore_next t1]; exact hm3, he⟩
      · have hlf := S.lt_f' (by simpa using g3)
        rw [if_neg (show ¬ (decide (2 * k + 1 + 1 < hi) && S.lt d'[first + (2 * k + 1)]! d'[first + (2 * k + 1) + 1]!) = true by rw [Bool.and_eq_true]; intro hh; exact absurd (hlf.symm.trans hh.2) (by simp))] at he
        simp only [go_sem, Int.reduceBEq, Int.reduceBNe, Int.reduceNeg, reduceCtorEq, Nat.reduceEqDiff, Nat.reduceAdd, Nat.reduceLeDiff, Nat.reduceMul, Nat.reduceSub, Int.reduceToNat, Int.reduceLT, Int.reduceLE, g3', nadd (show first + k < 4000000 by omega), nadd (show first + (2 * k + 1) < 4000000 by omega), S.ix c0, S.ix c1, h2.ld c0, h2.ld c1]
        refine gC.of (S.cmp m2 d'[first + k]! d'[first + (2 * k + 1)]!) ?_
        rintro _ m3 ⟨rfl, hx3⟩
        simp only [go_sem, Int.reduceBEq, Int.reduceBNe, Int.reduceNeg, reduceCtorEq, Nat.reduceEqDiff, Nat.reduceAdd, Nat.reduceLeDiff, Nat.reduceMul, Nat.reduceSub, Int.reduceToNat, Int.reduceLT, Int.reduceLE]
        have h3 := h2.keep hx3
        have hm3 := Nat.le_trans hm2 hx3.next
        refine gT.of (fun g4' => ?_) (fun g4' => ?_) <;> (have g4 := g4'; try simp only [decide_eq_true_eq, decide_eq_false_iff_not, beq_iff_eq, bne_iff_ne, beq_eq_false_iff_ne, ne_eq, Bool.not_eq_true', Bool.not_eq_false', bne_eq_false_iff_eq, Int.not_lt, Int.not_le] at g4)
        · rw [S.lt_f' (by simpa using g4)] at he
          simp only [go_sem, Int.reduceBEq, Int.reduceBNe, Int.reduceNeg, reduceCtorEq, Nat.reduceEqDiff, Nat.reduceAdd, Nat.reduceLeDiff, Nat.reduceMul, Nat.reduceSub, Int.reduceToNat, Int.reduceLT, Int.reduceLE, g4']
          rw [← he]
          exact ⟨h3, hm3⟩
        · have g4 : S.cf d'[first + k]! d'[first + (2 * k + 1)]! < 0 := by simpa using g4
          rw [S.lt_t g4, if_neg (by simp)] at he
          obtain ⟨n1, n2, t1, t2, h5⟩ := h3.sw c0 c1
          simp only [go_sem, Int.reduceBEq, Int.reduceBNe, Int.reduceNeg, reduceCtorEq, Nat.reduceEqDiff, Nat.reduceAdd, Nat.reduceLeDiff, Nat.reduceMul, Nat.reduceSub, Int.reduceToNat, Int.reduceLT, Int.reduceLE, g4', nadd (show first + k < 4000000 by omega), nadd (show first + (2 * k + 1) < 4000000 by omega), S.ix c0, S.ix c1, h3.ld c0, h3.ld c1, t1, t2]
          exact ⟨hi - (2 * k + 1), by omega, 2 * k + 1, _, rfl, by omega, rfl, h5, by rw [aStore_next t2, aStore_next t1]; exact hm3, he⟩
    · rw [if_neg (by simp; omega)] at he
      simp only [go_sem, Int.reduceBEq, Int.reduceBNe, Int.reduceNeg, reduceCtorEq, Nat.reduceEqDiff, Nat.reduceAdd, Nat.reduceLeDiff, Nat.reduceMul, Nat.reduceSub, Int.reduceToNat, Int.reduceLT, Int.reduceLE, g2', nadd (show first + k < 4000000 by omega), nadd (show first + (2 * k + 1) < 4000000 by omega), S.ix c0, S.ix c1, h1.ld c0, h1.ld c1]
      refine gC.of (S.cmp m1 d'[first + k]! d'[first + (2 * k + 1)]!) ?_
      rintro _ m3 ⟨rfl, hx3⟩
      simp only [go_sem, Int.reduceBEq, Int.reduceBNe, Int.reduceNeg, reduceCtorEq, Nat.reduceEqDiff, Nat.reduceAdd, Nat.reduceLeDiff, Nat.reduceMul, Nat.reduceSub, Int.reduceToNat, Int.reduceLT, Int.reduceLE]
      have h3 := h1.keep hx3
      have hm3 := Nat.le_trans hm1 hx3.next
      refine gT.of (fun g4' => ?_) (fun g4' => ?_) <;> (have g4 := g4'; try simp only [decide_eq_true_eq, decide_eq_false_iff_not, beq_iff_eq, bne_iff_ne, beq_eq_false_iff_ne, ne_eq, Bool.not_eq_true', Bool.not_eq_false', bne_eq_false_iff_eq, Int.not_lt, Int.not_le] at g4)
      · rw [S.lt_f' (by simpa using g4)] at he
        simp only [go_sem, Int.reduceBEq, Int.reduceBNe, Int.reduceNeg, reduceCtorEq, Nat.reduceEqDiff, Nat.reduceAdd, Nat.reduceLeDiff, Nat.reduceMul, Nat.reduceSub, Int.reduceToNat, Int.reduceLT, Int.reduceLE, g4']
        rw [← he]
        exact ⟨h3, hm3⟩
      · have g4 : S.cf d'[first + k]! d'[first + (2 * k + 1)]! < 0 := by simpa using g4
        rw [S.lt_t g4, if_neg (by simp)] at he
        obtain ⟨n1, n2, t1, t2, h5⟩ := h3.sw c0 c1
        simp only [go_sem, Int.reduceBEq, Int.reduceBNe, Int.reduceNeg, reduceCtorEq, Nat.reduceEqDiff, Nat.reduceAdd, Nat.reduceLeDiff, Nat.reduceMul, Nat.reduceSub, Int.reduceToNat, Int.reduceLT, Int.reduceLE, g4', nadd (show first + k < 4000000 by omega), nadd (show first + (2 * k + 1) < 4000000 by omega), S.ix c0, S.ix c1, h3.ld c0, h3.ld c1, t1, t2]
        exact ⟨hi - (2 * k + 1), by omega, 2 * k + 1, _, rfl, by omega, rfl, h5, by rw [aStore_next t2, aStore_next t1]; exact hm3, he⟩

theorem so_heap {a b : Nat} (h : S.Row m d) (hb : b ≤ S.n) (ha : a < b) : WC R F.slices_heapSortCmpFunc_api_Want [S.sv, .int .i64 a, .int .i64 b, S.cv] m fun r m' => S.Row m' (heapSort S.lt d a b) := by
  refine WC.of R.slices_heapSortCmpFunc_api_Want rfl ?_
  have hn := S.small
  simp only [RC.slices_heapSortCmpFunc_api_Want, go_sem, Int.reduceBEq, Int.reduceBNe, Int.reduceNeg, reduceCtorEq, Nat.reduceEqDiff, Nat.reduceAdd, Nat.reduceLeDiff, Nat.reduceMul, Nat.reduceSub, Int.reduceToNat, Int.reduceLT, Int.reduceLE, nsub (show a ≤ b by omega) (show b < 4000000 by omega), nsub1 (show 0 < b - a by omega) (show b - a < 4000000 by omega), nq2 (show b - a - 1 < 4000000 by omega)]
  refine ⟨by omega, ?_⟩
  have e0 : ((((b - a - 1) / 2 + 1 : Nat) : Int) - 1) = (((b - a - 1) / 2 : Nat) : Int) := by omega
  have e9 : ((((b - a) : Nat) : Int) - 1) = (((b - a - 1) : Nat) : Int) := by omega
  refine WL.of (fun r e m' => ∃ (k : Nat) (d' : Array α), r = k ∧ k ≤ (b - a - 1) / 2 + 1 ∧ e = [(0, S.sv), (3, S.cv), (8, .int .i64 a), (9, .int .i64 0), (10, .int .i64 (b - a : Nat)), (11, .int .i64 ((k : Int) - 1))] ∧ S.Row m' d' ∧ heapBuild S.lt (b - a) a k d' = heapBuild S.lt (b - a) a ((b - a - 1) / 2 + 1) d) ((b - a - 1) / 2 + 1)
    ⟨(b - a - 1) / 2 + 1, d, rfl, Nat.le_refl _, by rw [e0]; simp only [go_sem, Int.reduceBEq, Int.reduceBNe, Int.reduceNeg, reduceCtorEq, Nat.reduceEqDiff, Nat.reduceAdd, Nat.reduceLeDiff, Nat.reduceMul, Nat.reduceSub, Int.reduceToNat, Int.reduceLT, Int.reduceLE] <;> rfl, h, rfl⟩ ?_
  rintro n0 _ m1 ⟨k, d', hr, hk, rfl, h1, he⟩
  simp only [RB.slices_heapSortCmpFunc_api_Want_2, go_sem, Int.reduceBEq, Int.reduceBNe, Int.reduceNeg, reduceCtorEq, Nat.reduceEqDiff, Nat.reduceAdd, Nat.reduceLeDiff, Nat.reduceMul, Nat.reduceSub, Int.reduceToNat, Int.reduceLT, Int.reduceLE]
  refine gT.of (fun g1' => ?_) (fun g1' => ?_) <;> (have g1 := g1'; try simp only [decide_eq_true_eq, decide_eq_false_iff_not, beq_iff_eq, bne_iff_ne, beq_eq_false_iff_ne, ne_eq, Bool.not_eq_true', Bool.not_eq_false', bne_eq_false_iff_eq, Int.not_lt, Int.not_le] at g1)
  · obtain ⟨k, rfl⟩ : ∃ k', k = k' + 1 := ⟨k - 1, by omega⟩
    have e1 : (((k + 1 : Nat) : Int) - 1) = (k : Int) := by omega
    rw [e1] at g1'
    simp only [go_sem, Int.reduceBEq, Int.reduceBNe, Int.reduceNeg, reduceCtorEq, Nat.reduceEqDiff, Nat.reduceAdd, Nat.reduceLeDiff, Nat.reduceMul, Nat.reduceSub, Int.reduceToNat, Int.reduceLT, Int.reduceLE, e1, g1']
    refine gC.of (so_sift (lo := k) (hi := b - a) (first := a) h1 (by omega) (by omega)) ?_
    rintro _ m2 ⟨h2, hm2⟩
    have e2 : IntKind.wrap .i64 ((k : Int) - 1) = (k : Int) - 1 := wrap_i64 (by omega) (by omega)
    simp only [go_sem, Int.reduceBEq, Int.reduceBNe, Int.reduceNeg, reduceCtorEq, Nat.reduceEqDiff, Nat.reduceAdd, Nat.reduceLeDiff, Nat.reduceMul, Nat.reduceSub, Int.reduceToNat, Int.reduceLT, Int.reduceLE, e2]
    exact ⟨k, by omega, k, _, rfl, by omega, rfl, h2, he⟩
  · have : k = 0 := by omega
    subst this
    simp only [heapBuild] at he
    simp only [go_sem, Int.reduceBEq, Int.reduceBNe, Int.reduceNeg, reduceCtorEq, Nat.reduceEqDiff, Nat.reduceAdd, Nat.reduceLeDiff, Nat.reduceMul, Nat.reduceSub, Int.reduceToNat, Int.reduceLT, Int.reduceLE, g1', nsub1 (show 0 < b - a by omega) (show b - a < 4000000 by omega)]
    refine WL.of (fun r e m' => ∃ (k : Nat) (d'' : Array α), r = k ∧ k ≤ b - a ∧ e = [(0, S.sv), (3, S.cv), (8, .int .i64 a), (9, .int .i64 0), (12, .int .i64 ((k : Int) - 1))] ∧ S.Row m' d'' ∧ heapPop S.lt a k d'' = heapPop S.lt a (b - a) d') (b - a)
      ⟨b - a, d', rfl, Nat.le_refl _, by rw [e9]; simp only [go_sem, Int.reduceBEq, Int.reduceBNe, Int.reduceNeg, reduceCtorEq, Nat.reduceEqDiff, Nat.reduceAdd, Nat.reduceLeDiff, Nat.reduceMul, Nat.reduceSub, Int.reduceToNat, Int.reduceLT, Int.reduceLE] <;> rfl, h1, rfl⟩ ?_
    rintro n1 _ m2 ⟨k, d'', hr2, hk2, rfl, h2, he2⟩
    simp only [RB.slices_heapSortCmpFunc_api_Want_1, go_sem, Int.reduceBEq, Int.reduceBNe, Int.reduceNeg, reduceCtorEq, Nat.reduceEqDiff, Nat.reduceAdd, Nat.reduceLeDiff, Nat.reduceMul, Nat.reduceSub, Int.reduceToNat, Int.reduceLT, Int.reduceLE]
    refine gT.of (fun g2' => ?_) (fun g2' => ?_) <;> (have g2 := g2'; try simp only [decide_eq_true_eq, decide_eq_false_iff_not, beq_iff_eq, bne_iff_ne, beq_eq_false_iff_ne, ne_eq, Bool.not_eq_true', Bool.not_eq_false', bne_eq_false_iff_eq, Int.not_lt, Int.not_le] at g2)
    · obtain ⟨k, rfl⟩ : ∃ k', k = k' + 1 := ⟨k - 1, by omega⟩
      have e1 : (((k + 1 : Nat) : Int) - 1) = (k : Int) := by omega
      rw [e1] at g2'
      have c0 : a < S.n := by omega
      have c1 : a + k < S.n := by omega
      obtain ⟨n1, n2, t1, t2, h5⟩ := h2.sw c0 c1
      have e2 : IntKind.wrap .i64 ((k : Int) - 1) = (k : Int) - 1 := wrap_i64 (by omega) (by omega)
      simp only [go_sem, Int.reduceBEq, Int.reduceBNe, Int.reduceNeg, reduceCtorEq, Nat.reduceEqDiff, Nat.reduceAdd, Nat.reduceLeDiff, Nat.reduceMul, Nat.reduceSub, Int.reduceToNat, Int.reduceLT, Int.reduceLE, e1, g2', nadd (show a + k < 4000000 by omega), S.ix c0, S.ix c1, h2.ld c0, h2.ld c1, t1, t2]
      refine gC.of (so_sift (lo := 0) (hi := k) (first := a) h5 (by omega) (by omega)) ?_
      rintro _ m3 ⟨h3, hm3⟩
      simp only [go_sem, Int.reduceBEq, Int.reduceBNe, Int.reduceNeg, reduceCtorEq, Nat.reduceEqDiff, Nat.reduceAdd, Nat.reduceLeDiff, Nat.reduceMul, Nat.reduceSub, Int.reduceToNat, Int.reduceLT, Int.reduceLE, e2]
      exact ⟨k, by omega, k, _, rfl, by omega, rfl, h3, he2⟩
    · have : k = 0 := by omega
      subst this
      simp only [heapPop] at he2
      simp only [go_sem, Int.reduceBEq, Int.reduceBNe, Int.reduceNeg, reduceCtorEq, Nat.reduceEqDiff, Nat.reduceAdd, Nat.reduceLeDiff, Nat.reduceMul, Nat.reduceSub, Int.reduceToNat, Int.reduceLT, Int.reduceLE, g2']
      rw [show heapSort S.lt d a b = d'' by rw [he2, he]; rfl]
      exact h2
end Go.Am


/- Sorting a row at api_Want (Order): partitions. Printed out of SortT3.tmpl by sortgen.py. -/
set_option linter.unusedVariables false
set_option linter.unusedSimpArgs false
namespace Go.Am
open Go.Sort
variable {α : Type} [Inhabited α] {S : SortC R α 2} {m : Mem} {d : Array α}

theorem so_pa2 {a i j : Nat} (h : S.Row m d) (ha : a < S.n) (hj : j < S.n) (hi : i ≤ S.n) :
    WL R [0, 1, 4, 12, 13] RB.slices_partitionCmpFunc_api_Want_2 [(0, S.sv), (1, .int .i64 a), (4, S.cv), (12, .int .i64 i), (13, .int .i64 j)] m fun x e m' =>
      x = .exit 6 ∧ e = [(0, S.sv), (1, .int .i64 a), (4, S.cv), (12, .int .i64 (scanUp (fun x => S.lt x d[a]!) d j i)), (13, .int .i64 j), (120, .bool false)] ∧ S.Row m' d := by
  have hn := S.small
  refine WL.of (fun r e m' => ∃ (k : Nat), r = S.n + 1 - k ∧ k ≤ S.n ∧ e = [(0, S.sv), (1, .int .i64 a), (4, S.cv), (12, .int .i64 k), (13, .int .i64 j)] ∧ S.Row m' d ∧ scanUp (fun x => S.lt x d[a]!) d j k = scanUp (fun x => S.lt x d[a]!) d j i) (S.n + 1 - i)
    ⟨i, rfl, hi, by simp only [go_sem, Int.reduceBEq, Int.reduceBNe, Int.reduceNeg, reduceCtorEq, Nat.reduceEqDiff, Nat.reduceAdd, Nat.reduceLeDiff, Nat.reduceMul, Nat.reduceSub, Int.reduceToNat, Int.reduceLT, Int.reduceLE] <;> rfl, h, rfl⟩ ?_
  rintro n0 _ m1 ⟨k, hr, hk, rfl, h1, he⟩
  rw [scanUp] at he
  simp only [RB.slices_partitionCmpFunc_api_Want_2, go_sem, Int.reduceBEq, Int.reduceBNe, Int.reduceNeg, reduceCtorEq, Nat.reduceEqDiff, Nat.reduceAdd, Nat.reduceLeDiff, Nat.reduceMul, Nat.reduceSub, Int.reduceToNat, Int.reduceLT, Int.reduceLE]
  refine gT.of (fun g1' => ?_) (fun g1' => ?_) <;> (have g1 := g1'; try simp only [decide_eq_true_eq, decide_eq_false_iff_not, beq_iff_eq, bne_iff_ne, beq_eq_false_iff_ne, ne_eq, Bool.not_eq_true', Bool.not_eq_false', bne_eq_false_iff_eq, Int.not_lt, Int.not_le] at g1)
  · have hk2 : k < S.n := by omega
    simp only [go_sem, Int.reduceBEq, Int.reduceBNe, Int.reduceNeg, reduceCtorEq, Nat.reduceEqDiff, Nat.reduceAdd, Nat.reduceLeDiff, Nat.reduceMul, Nat.reduceSub, Int.reduceToNat, Int.reduceLT, Int.reduceLE, g1', S.ix hk2, S.ix ha, h1.ld hk2, h1.ld ha]
    refine gC.of (S.cmp m1 d[k]! d[a]!) ?_
    rintro _ m2 ⟨rfl, hx2⟩
    simp only [go_sem, Int.reduceBEq, Int.reduceBNe, Int.reduceNeg, reduceCtorEq, Nat.reduceEqDiff, Nat.reduceAdd, Nat.reduceLeDiff, Nat.reduceMul, Nat.reduceSub, Int.reduceToNat, Int.reduceLT, Int.reduceLE]
    have h2 := h1.keep hx2
    refine gT.of (fun g2' => ?_) (fun g2' => ?_) <;> (have g2 := g2'; try simp only [decide_eq_true_eq, decide_eq_false_iff_not, beq_iff_eq, bne_iff_ne, beq_eq_false_iff_ne, ne_eq, Bool.not_eq_true', Bool.not_eq_false', bne_eq_false_iff_eq, Int.not_lt, Int.not_le] at g2)
    · rw [if_pos (by rw [S.lt_t g2]; simp; omega)] at he
      simp only [go_sem, Int.reduceBEq, Int.reduceBNe, Int.reduceNeg, reduceCtorEq, Nat.reduceEqDiff, Nat.reduceAdd, Nat.reduceLeDiff, Nat.reduceMul, Nat.reduceSub, Int.reduceToNat, Int.reduceLT, Int.reduceLE, g2', nadd1 (show k < 4000000 by omega)]
      exact ⟨S.n + 1 - (k + 1), by omega, k + 1, rfl, by omega, rfl, h2, he⟩
    · rw [if_neg (by rw [S.lt_f' g2]; simp)] at he
      rw [← he]
      simp only [go_sem, Int.reduceBEq, Int.reduceBNe, Int.reduceNeg, reduceCtorEq, Nat.reduceEqDiff, Nat.reduceAdd, Nat.reduceLeDiff, Nat.reduceMul, Nat.reduceSub, Int.reduceToNat, Int.reduceLT, Int.reduceLE, g2']
      exact h2
  · rw [if_neg (by simp; omega)] at he
    rw [← he]
    simp only [go_sem, Int.reduceBEq, Int.reduceBNe, Int.reduceNeg, reduceCtorEq, Nat.reduceEqDiff, Nat.reduceAdd, Nat.reduceLeDiff, Nat.reduceMul, Nat.reduceSub, Int.reduceToNat, Int.reduceLT, Int.reduceLE, g1']
    exact h1

theorem so_pa5 {a i j : Nat} (h : S.Row m d) (ha : a < S.n) (hj : j < S.n) (hi : i ≤ S.n) :
    WL R [0, 1, 4, 12, 13] RB.slices_partitionCmpFunc_api_Want_5 [(0, S.sv), (1, .int .i64 a), (4, S.cv), (12, .int .i64 i), (13, .int .i64 j)] m fun x e m' =>
      x = .exit 0 ∧ e = [(0, S.sv), (1, .int .i64 a), (4, S.cv), (12, .int .i64 (scanUp (fun x => S.lt x d[a]!) d j i)), (13, .int .i64 j), (47, .bool false)] ∧ S.Row m' d := by
  have hn := S.small
  refine WL.of (fun r e m' => ∃ (k : Nat), r = S.n + 1 - k ∧ k ≤ S.n ∧ e = [(0, S.sv), (1, .int .i64 a), (4, S.cv), (12, .int .i64 k), (13, .int .i64 j)] ∧ S.Row m' d ∧ scanUp (fun x => S.lt x d[a]!) d j k = scanUp (fun x => S.lt x d[a]!) d j i) (S.n + 1 - i)
    ⟨i, rfl, hi, by simp only [go_sem, Int.reduceBEq, Int.reduceBNe, Int.reduceNeg, reduceCtorEq, Nat.reduceEqDiff, Nat.reduceAdd, Nat.reduceLeDiff, Nat.reduceMul, Nat.reduceSub, Int.reduceToNat, Int.reduceLT, Int.reduceLE] <;> rfl, h, rfl⟩ ?_
  rintro n0 _ m1 ⟨k, hr, hk, rfl, h1, he⟩
  rw [scanUp] at he
  simp only [RB.slices_partitionCmpFunc_api_Want_5, go_sem, Int.reduceBEq, Int.reduceBNe, Int.reduceNeg, reduceCtorEq, Nat.reduceEqDiff, Nat.reduceAdd, Nat.reduceLeDiff, Nat.reduceMul, Nat.reduceSub, Int.reduceToNat, Int.reduceLT, Int.reduceLE]
  refine gT.of (fun g1' => ?_) (fun g1' => ?_) <;> (have g1 := g1'; try simp only [decide_eq_true_eq, decide_eq_false_iff_not, beq_iff_eq, bne_iff_ne, beq_eq_false_iff_ne, ne_eq, Bool.not_eq_true', Bool.not_eq_false', bne_eq_false_iff_eq, Int.not_lt, Int.not_le] at g1)
  · have hk2 : k < S.n := by omega
    simp only [go_sem, Int.reduceBEq, Int.reduceBNe, Int.reduceNeg, reduceCtorEq, Nat.reduceEqDiff, Nat.reduceAdd, Nat.reduceLeDiff, Nat.reduceMul, Nat.reduceSub, Int.reduceToNat, Int.reduceLT, Int.reduceLE, g1', S.ix hk2, S.ix ha, h1.ld hk2, h1.ld ha]
    refine gC.of (S.cmp m1 d[k]! d[a]!) ?_
    rintro _ m2 ⟨rfl, hx2⟩
    simp only [go_sem, Int.reduceBEq, Int.reduceBNe, Int.reduceNeg, reduceCtorEq, Nat.reduceEqDiff, Nat.reduceAdd, Nat.reduceLeDiff, Nat.reduceMul, Nat.reduceSub, Int.reduceToNat, Int.reduceLT, Int.reduceLE]
    have h2 := h1.keep hx2
    refine gT.of (fun g2' => ?_) (fun g2' => ?_) <;> (have g2 := g2'; try simp only [decide_eq_true_eq, decide_eq_false_iff_not, beq_iff_eq, bne_iff_ne, beq_eq_false_iff_ne, ne_eq, Bool.not_eq_true', Bool.not_eq_false', bne_eq_false_iff_eq, Int.not_lt, Int.not_le] at g2)
    · rw [if_pos (by rw [S.lt_t g2]; simp; omega)] at he
      simp only [go_sem, Int.reduceBEq, Int.reduceBNe, Int.reduceNeg, reduceCtorEq, Nat.reduceEqDiff, Nat.reduceAdd, Nat.reduceLeDiff, Nat.reduceMul, Nat.reduceSub, Int.reduceToNat, Int.reduceLT, Int.reduceLE, g2', nadd1 (show k < 4000000 by omega)]
      exact ⟨S.n + 1 - (k + 1), by omega, k + 1, rfl, by omega, rfl, h2, he⟩
    · rw [if_neg (by rw [S.lt_f' g2]; simp)] at he
      rw [← he]
      simp only [go_sem, Int.reduceBEq, Int.reduceBNe, Int.reduceNeg, reduceCtorEq, Nat.reduceEqDiff, Nat.reduceAdd, Nat.reduceLeDiff, Nat.reduceMul, Nat.reduceSub, Int.reduceToNat, Int.reduceLT, Int.reduceLE, g2']
      exact h2
  · rw [if_neg (by simp; omega)] at he
    rw [← he]
    simp only [go_sem, Int.reduceBEq, Int.reduceBNe, Int.reduceNeg, reduceCtorEq, Nat.reduceEqDiff, Nat.reduceAdd, Nat.reduceLeDiff, Nat.reduceMul, Nat.reduceSub, Int.reduceToNat, Int.reduceLT, Int.reduceLE, g1']
    exact h1

theorem so_pa1 {a i j : Nat} (h : S.Row m d) (ha : a < S.n) (hj : j < S.n) (hi : 1 ≤ i) :
    WL R [0, 1, 4, 12, 13] RB.slices_partitionCmpFunc_api_Want_1 [(0, S.sv), (1, .int .i64 a), (4, S.cv), (12, .int .i64 i), (13, .int .i64 j)] m fun x e m' =>
      x = .exit 8 ∧ e = [(0, S.sv), (1, .int .i64 a), (4, S.cv), (12, .int .i64 i), (13, .int .i64 (scanDown (fun x => !S.lt x d[a]!) d i j)), (139, .bool false)] ∧ S.Row m' d := by
  have hn := S.small
  refine WL.of (fun r e m' => ∃ (k : Nat), r = k ∧ k < S.n ∧ e = [(0, S.sv), (1, .int .i64 a), (4, S.cv), (12, .int .i64 i), (13, .int .i64 k)] ∧ S.Row m' d ∧ scanDown (fun x => !S.lt x d[a]!) d i k = scanDown (fun x => !S.lt x d[a]!) d i j) j
    ⟨j, rfl, hj, by simp only [go_sem, Int.reduceBEq, Int.reduceBNe, Int.reduceNeg, reduceCtorEq, Nat.reduceEqDiff, Nat.reduceAdd, Nat.reduceLeDiff, Nat.reduceMul, Nat.reduceSub, Int.reduceToNat, Int.reduceLT, Int.reduceLE] <;> rfl, h, rfl⟩ ?_
  rintro n0 _ m1 ⟨k, hr, hk, rfl, h1, he⟩
  simp only [RB.slices_partitionCmpFunc_api_Want_1, go_sem, Int.reduceBEq, Int.reduceBNe, Int.reduceNeg, reduceCtorEq, Nat.reduceEqDiff, Nat.reduceAdd, Nat.reduceLeDiff, Nat.reduceMul, Nat.reduceSub, Int.reduceToNat, Int.reduceLT, Int.reduceLE]
  refine gT.of (fun g1' => ?_) (fun g1' => ?_) <;> (have g1 := g1'; try simp only [decide_eq_true_eq, decide_eq_false_iff_not, beq_iff_eq, bne_iff_ne, beq_eq_false_iff_ne, ne_eq, Bool.not_eq_true', Bool.not_eq_false', bne_eq_false_iff_eq, Int.not_lt, Int.not_le] at g1)
  · obtain ⟨k, rfl⟩ : ∃ k', k = k' + 1 := ⟨k - 1, by omega⟩
    simp only [scanDown] at he
    have e1 := nsub1 (i := k + 1) (by omega) (by omega)
    simp only [Nat.add_sub_cancel] at e1
    simp only [go_sem, Int.reduceBEq, Int.reduceBNe, Int.reduceNeg, reduceCtorEq, Nat.reduceEqDiff, Nat.reduceAdd, Nat.reduceLeDiff, Nat.reduceMul, Nat.reduceSub, Int.reduceToNat, Int.reduceLT, Int.reduceLE, g1', S.ix hk, S.ix ha, h1.ld hk, h1.ld ha]
    refine gC.of (S.cmp m1 d[k + 1]! d[a]!) ?_
    rintro _ m2 ⟨rfl, hx2⟩
    simp only [go_sem, Int.reduceBEq, Int.reduceBNe, Int.reduceNeg, reduceCtorEq, Nat.reduceEqDiff, Nat.reduceAdd, Nat.reduceLeDiff, Nat.reduceMul, Nat.reduceSub, Int.reduceToNat, Int.reduceLT, Int.reduceLE]
    have h2 := h1.keep hx2
    refine gT.of (fun g2' => ?_) (fun g2' => ?_) <;> (have g2 := g2'; try simp only [decide_eq_true_eq, decide_eq_false_iff_not, beq_iff_eq, bne_iff_ne, beq_eq_false_iff_ne, ne_eq, Bool.not_eq_true', Bool.not_eq_false', bne_eq_false_iff_eq, Int.not_lt, Int.not_le] at g2)
    · rw [if_pos (by rw [S.lt_f' (by simpa using g2)]; simp; omega)] at he
      simp only [go_sem, Int.reduceBEq, Int.reduceBNe, Int.reduceNeg, reduceCtorEq, Nat.reduceEqDiff, Nat.reduceAdd, Nat.reduceLeDiff, Nat.reduceMul, Nat.reduceSub, Int.reduceToNat, Int.reduceLT, Int.reduceLE, g2', e1]
      exact ⟨k, by omega, k, rfl, by omega, rfl, h2, he⟩
    · rw [if_neg (by rw [S.lt_t (by simpa using g2)]; simp)] at he
      rw [← he]
      simp only [go_sem, Int.reduceBEq, Int.reduceBNe, Int.reduceNeg, reduceCtorEq, Nat.reduceEqDiff, Nat.reduceAdd, Nat.reduceLeDiff, Nat.reduceMul, Nat.reduceSub, Int.reduceToNat, Int.reduceLT, Int.reduceLE, g2']
      exact h2
  · have he2 : scanDown (fun x => !S.lt x d[a]!) d i k = k := by
      cases k with
      | zero => rfl
      | succ k => simp only [scanDown]; rw [if_neg (by simp; omega)]
    rw [← he, he2]
    simp only [go_sem, Int.reduceBEq, Int.reduceBNe, Int.reduceNeg, reduceCtorEq, Nat.reduceEqDiff, Nat.reduceAdd, Nat.reduceLeDiff, Nat.reduceMul, Nat.reduceSub, Int.reduceToNat, Int.reduceLT, Int.reduceLE, g1']
    exact h1

theorem so_pa4 {a i j : Nat} (h : S.Row m d) (ha : a < S.n) (hj : j < S.n) (hi : 1 ≤ i) :
    WL R [0, 1, 4, 12, 13] RB.slices_partitionCmpFunc_api_Want_4 [(0, S.sv), (1, .int .i64 a), (4, S.cv), (12, .int .i64 i), (13, .int .i64 j)] m fun x e m' =>
      x = .exit 2 ∧ e = [(0, S.sv), (1, .int .i64 a), (4, S.cv), (12, .int .i64 i), (13, .int .i64 (scanDown (fun x => !S.lt x d[a]!) d i j)), (66, .bool false)] ∧ S.Row m' d := by
  have hn := S.small
  refine WL.of (fun r e m' => ∃ (k : Nat), r = k ∧ k < S.n ∧ e = [(0, S.sv), (1, .int .i64 a), (4, S.cv), (12, .int .i64 i), (13, .int .i64 k)] ∧ S.Row m' d ∧ scanDown (fun x => !S.lt x d[a]!) d i k = scanDown (fun x => !S.lt x d[a]!) d i j) j
    ⟨j, rfl, hj, by simp only [go_sem, Int.reduceBEq, Int.reduceBNe, Int.reduceNeg, reduceCtorEq, Nat.reduceEqDiff, Nat.reduceAdd, Nat.reduceLeDiff, Nat.reduceMul, Nat.reduceSub, Int.reduceToNat, Int.reduceLT, Int.reduceLE] <;> rfl, h, rfl⟩ ?_
  rintro n0 _ m1 ⟨k, hr, hk, rfl, h1, he⟩
  simp only [RB.slices_partitionCmpFunc_api_Want_4, go_sem, Int.reduceBEq, Int.reduceBNe, Int.reduceNeg, reduceCtorEq, Nat.reduceEqDiff, Nat.reduceAdd, Nat.reduceLeDiff, Nat.reduceMul, Nat.reduceSub, Int.reduceToNat, Int.reduceLT, Int.reduceLE]
  refine gT.of (fun g1' => ?_) (fun g1' => ?_) <;> (have g1 := g1'; try simp only [decide_eq_true_eq, decide_eq_false_iff_not, beq_iff_eq, bne_iff_ne, beq_eq_false_iff_ne, ne_eq, Bool.not_eq_true', Bool.not_eq_false', bne_eq_false_iff_eq, Int.not_lt, Int.not_le] at g1)
  · obtain ⟨k, rfl⟩ : ∃ k', k = k' + 1 := ⟨k - 1, by omega⟩
    simp only [scanDown] at he
    have e1 := nsub1 (i := k + 1) (by omega) (by omega)
    simp only [Nat.add_sub_cancel] at e1
    simp only [go_sem, Int.reduceBEq, Int.reduceBNe, Int.reduceNeg, reduceCtorEq, Nat.reduceEqDiff, Nat.reduceAdd, Nat.reduceLeDiff, Nat.reduceMul, Nat.reduceSub, Int.reduceToNat, Int.reduceLT, Int.reduceLE, g1', S.ix hk, S.ix ha, h1.ld hk, h1.ld ha]
    refine gC.of (S.cmp m1 d[k + 1]! d[a]!) ?_
    rintro _ m2 ⟨rfl, hx2⟩
    simp only [go_sem, Int.reduceBEq, Int.reduceBNe, Int.reduceNeg, reduceCtorEq, Nat.reduceEqDiff, Nat.reduceAdd, Nat.reduceLeDiff, Nat.reduceMul, Nat.reduceSub, Int.reduceToNat, Int.reduceLT, Int.reduceLE]
    have h2 := h1.keep hx2
    refine gT.of (fun g2' => ?_) (fun g2' => ?_) <;> (have g2 := g2'; try simp only [decide_eq_true_eq, decide_eq_false_iff_not, beq_iff_eq, bne_iff_ne, beq_eq_false_iff_ne, ne_eq, Bool.not_eq_true', Bool.not_eq_false', bne_eq_false_iff_eq, Int.not_lt, Int.not_le] at g2)
    · rw [if_pos (by rw [S.lt_f' (by simpa using g2)]; simp; omega)] at he
      simp only [go_sem, Int.reduceBEq, Int.reduceBNe, Int.reduceNeg, reduceCtorEq, Nat.reduceEqDiff, Nat.reduceAdd, Nat.reduceLeDiff, Nat.reduceMul, Nat.reduceSub, Int.reduceToNat, Int.reduceLT, Int.reduceLE, g2', e1]
      exact ⟨k, by omega, k, rfl, by omega, rfl, h2, he⟩
    · rw [if_neg (by rw [S.lt_t (by simpa using g2)]; simp)] at he
      rw [← he]
      simp only [go_sem, Int.reduceBEq, Int.reduceBNe, Int.reduceNeg, reduceCtorEq, Nat.reduceEqDiff, Nat.reduceAdd, Nat.reduceLeDiff, Nat.reduceMul, Nat.reduceSub, Int.reduceToNat, Int.reduceLT, Int.reduceLE, g2']
      exact h2
  · have he2 : scanDown (fun x => !S.lt x d[a]!) d i k = k := by
      cases k with
      | zero => rfl
      | succ k => simp only [scanDown]; rw [if_neg (by simp; omega)]
    rw [← he, he2]
    simp only [go_sem, Int.reduceBEq, Int.reduceBNe, Int.reduceNeg, reduceCtorEq, Nat.reduceEqDiff, Nat.reduceAdd, Nat.reduceLeDiff, Nat.reduceMul, Nat.reduceSub, Int.reduceToNat, Int.reduceLT, Int.reduceLE, g1']
    exact h1

theorem so_pa3 {a i j : Nat} (h : S.Row m d) (ha : a < S.n) (hj : j < S.n) (hi : 1 ≤ i) (hij : i ≤ j + 1) :
    WL R [0, 1, 4, 12, 13] RB.slices_partitionCmpFunc_api_Want_3 [(0, S.sv), (1, .int .i64 a), (4, S.cv), (12, .int .i64 i), (13, .int .i64 j)] m fun x e m' =>
      x = .exit 4 ∧ (∃ q b, e = [(0, S.sv), (1, .int .i64 a), (4, S.cv), (12, q), (13, .int .i64 (partLoop S.lt a i j d).1), (144, b)]) ∧ S.Row m' (partLoop S.lt a i j d).2 := by
  have hn := S.small
  refine WL.of (fun r e m' => ∃ (i' j' : Nat) (d' : Array α), r = j' + 1 - i' ∧ 1 ≤ i' ∧ i' ≤ j' + 1 ∧ j' < S.n ∧ e = [(0, S.sv), (1, .int .i64 a), (4, S.cv), (12, .int .i64 i'), (13, .int .i64 j')] ∧ S.Row m' d' ∧ partLoop S.lt a i' j' d' = partLoop S.lt a i j d) (j + 1 - i)
    ⟨i, j, d, rfl, hi, hij, hj, by simp only [go_sem, Int.reduceBEq, Int.reduceBNe, Int.reduceNeg, reduceCtorEq, Nat.reduceEqDiff, Nat.reduceAdd, Nat.reduceLeDiff, Nat.reduceMul, Nat.reduceSub, Int.reduceToNat, Int.reduceLT, Int.reduceLE] <;> rfl, h, rfl⟩ ?_
  rintro n0 _ m1 ⟨i', j', d', hr, hi', hij', hj', rfl, h1, he⟩
  simp only [RB.slices_partitionCmpFunc_api_Want_3, go_sem, Int.reduceBEq, Int.reduceBNe, Int.reduceNeg, reduceCtorEq, Nat.reduceEqDiff, Nat.reduceAdd, Nat.reduceLeDiff, Nat.reduceMul, Nat.reduceSub, Int.reduceToNat, Int.reduceLT, Int.reduceLE]
  rw [partLoop_eq] at he
  have u1 := scanUp_ge (fun x => S.lt x d'[a]!) d' j' i'
  have u2 := (scanUp_spec (fun x => S.lt x d'[a]!) d' j' _ i' rfl).2.1 hij'
  have u3 := (scanUp_spec (fun x => S.lt x d'[a]!) d' j' _ i' rfl).2.2.2
  refine WL.mono (so_pa2 h1 ha hj' (by omega)) ?_
  rintro _ _ m2 ⟨rfl, rfl, h2⟩
  generalize scanUp (fun x => S.lt x d'[a]!) d' j' i' = i2 at u1 u2 u3 he ⊢
  simp only [go_sem, Int.reduceBEq, Int.reduceBNe, Int.reduceNeg, reduceCtorEq, Nat.reduceEqDiff, Nat.reduceAdd, Nat.reduceLeDiff, Nat.reduceMul, Nat.reduceSub, Int.reduceToNat, Int.reduceLT, Int.reduceLE]
  have w1 := scanDown_le (fun x => !S.lt x d'[a]!) d' i2 j'
  have w2 := (scanDown_spec (fun x => !S.lt x d'[a]!) d' i2 j').2.1 (by omega)
  have w3 := (scanDown_spec (fun x => !S.lt x d'[a]!) d' i2 j').2.2.2
  refine WL.mono (so_pa1 h2 ha hj' (by omega)) ?_
  rintro _ _ m3 ⟨rfl, rfl, h3⟩
  generalize scanDown (fun x => !S.lt x d'[a]!) d' i2 j' = j2 at w1 w2 w3 he ⊢
  have hne : i2 ≠ j2 := by
    intro e
    subst e
    have q1 := u3 (by omega)
    have q2 := w3 (by omega) (by omega)
    first | (simp [q1] at q2; done) | (cases hh : S.lt d'[a]! d'[i2]! <;> simp [hh] at q1 q2)
  simp only [go_sem, Int.reduceBEq, Int.reduceBNe, Int.reduceNeg, reduceCtorEq, Nat.reduceEqDiff, Nat.reduceAdd, Nat.reduceLeDiff, Nat.reduceMul, Nat.reduceSub, Int.reduceToNat, Int.reduceLT, Int.reduceLE]
  refine gT.of (fun g1' => ?_) (fun g1' => ?_) <;> (have g1 := g1'; try simp only [decide_eq_true_eq, decide_eq_false_iff_not, beq_iff_eq, bne_iff_ne, beq_eq_false_iff_ne, ne_eq, Bool.not_eq_true', Bool.not_eq_false', bne_eq_false_iff_eq, Int.not_lt, Int.not_le] at g1)
  · rw [if_pos (by omega)] at he
    simp only [go_sem, Int.reduceBEq, Int.reduceBNe, Int.reduceNeg, reduceCtorEq, Nat.reduceEqDiff, Nat.reduceAdd, Nat.reduceLeDiff, Nat.reduceMul, Nat.reduceSub, Int.reduceToNat, Int.reduceLT, Int.reduceLE, g1']
    rw [← he]
    exact ⟨⟨_, _, rfl⟩, h3⟩
  · rw [if_neg (by omega)] at he
    have c1 : i2 < S.n := by omega
    have c2 : j2 < S.n := by omega
    obtain ⟨n1, n2, t1, t2, h5⟩ := h3.sw c1 c2
    simp only [go_sem, Int.reduceBEq, Int.reduceBNe, Int.reduceNeg, reduceCtorEq, Nat.reduceEqDiff, Nat.reduceAdd, Nat.reduceLeDiff, Nat.reduceMul, Nat.reduceSub, Int.reduceToNat, Int.reduceLT, Int.reduceLE, g1', S.ix c1, S.ix c2, h3.ld c1, h3.ld c2, t1, t2, nadd1 (show i2 < 4000000 by omega), nsub1 (show 0 < j2 by omega) (show j2 < 4000000 by omega)]
    exact ⟨j2 - 1 + 1 - (i2 + 1), by omega, i2 + 1, j2 - 1, _, rfl, by omega, by omega, by omega, rfl, h5, he⟩

theorem so_part {a b p : Nat} (h : S.Row m d) (hb : b ≤ S.n) (hp : a ≤ p) (hp2 : p < b) : WC R F.slices_partitionCmpFunc_api_Want [S.sv, .int .i64 a, .int .i64 b, .int .i64 p, S.cv] m fun r m' =>
    r = .tuple #[.int .i64 (partition S.lt d a b p).1, .bool (partition S.lt d a b p).2.1] ∧ S.Row m' (partition S.lt d a b p).2.2 := by
  refine WC.of R.slices_partitionCmpFunc_api_Want rfl ?_
  have hn := S.small
  have ca : a < S.n := by omega
  have cp : p < S.n := by omega
  obtain ⟨n1, n2, t1, t2, h1⟩ := h.sw ca cp
  simp only [RC.slices_partitionCmpFunc_api_Want, go_sem, Int.reduceBEq, Int.reduceBNe, Int.reduceNeg, reduceCtorEq, Nat.reduceEqDiff, Nat.reduceAdd, Nat.reduceLeDiff, Nat.reduceMul, Nat.reduceSub, Int.reduceToNat, Int.reduceLT, Int.reduceLE, S.ix ca, S.ix cp, h.ld ca, h.ld cp, t1, t2, nadd1 (show a < 4000000 by omega), nsub1 (show 0 < b by omega) (show b < 4000000 by omega)]
  have u1 := scanUp_ge (fun x => S.lt x (swp d a p)[a]!) (swp d a p) (b - 1) (a + 1)
  have u2 := (scanUp_spec (fun x => S.lt x (swp d a p)[a]!) (swp d a p) (b - 1) _ (a + 1) rfl).2.1 (by omega)
  have w1 := scanDown_le (fun x => !S.lt x (swp d a p)[a]!) (swp d a p) (scanUp (fun x => S.lt x (swp d a p)[a]!) (swp d a p) (b - 1) (a + 1)) (b - 1)
  have w2 := (scanDown_spec (fun x => !S.lt x (swp d a p)[a]!) (swp d a p) (scanUp (fun x => S.lt x (swp d a p)[a]!) (swp d a p) (b - 1) (a + 1)) (b - 1)).2.1 (by omega)
  have u3 := (scanUp_spec (fun x => S.lt x (swp d a p)[a]!) (swp d a p) (b - 1) _ (a + 1) rfl).2.2.2
  have w3 := (scanDown_spec (fun x => !S.lt x (swp d a p)[a]!) (swp d a p) (scanUp (fun x => S.lt x (swp d a p)[a]!) (swp d a p) (b - 1) (a + 1)) (b - 1)).2.2.2
  have hpe : partition S.lt d a b p = (if scanUp (fun x => S.lt x (swp d a p)[a]!) (swp d a p) (b - 1) (a + 1) > scanDown (fun x => !S.lt x (swp d a p)[a]!) (swp d a p) (scanUp (fun x => S.lt x (swp d a p)[a]!) (swp d a p) (b - 1) (a + 1)) (b - 1) then
      (scanDown (fun x => !S.lt x (swp d a p)[a]!) (swp d a p) (scanUp (fun x => S.lt x (swp d a p)[a]!) (swp d a p) (b - 1) (a + 1)) (b - 1), true, swp (swp d a p) (scanDown (fun x => !S.lt x (swp d a p)[a]!) (swp d a p) (scanUp (fun x => S.lt x (swp d a p)[a]!) (swp d a p) (b - 1) (a + 1)) (b - 1)) a)
      else ((partLoop S.lt a (scanUp (fun x => S.lt x (swp d a p)[a]!) (swp d a p) (b - 1) (a + 1) + 1) (scanDown (fun x => !S.lt x (swp d a p)[a]!) (swp d a p) (scanUp (fun x => S.lt x (swp d a p)[a]!) (swp d a p) (b - 1) (a + 1)) (b - 1) - 1) (swp (swp d a p) (scanUp (fun x => S.lt x (swp d a p)[a]!) (swp d a p) (b - 1) (a + 1)) (scanDown (fun x => !S.lt x (swp d a p)[a]!) (swp d a p) (scanUp (fun x => S.lt x (swp d a p)[a]!) (swp d a p) (b - 1) (a + 1)) (b - 1)))).1, false,
        swp (partLoop S.lt a (scanUp (fun x => S.lt x (swp d a p)[a]!) (swp d a p) (b - 1) (a + 1) + 1) (scanDown (fun x => !S.lt x (swp d a p)[a]!) (swp d a p) (scanUp (fun x => S.lt x (swp d a p)[a]!) (swp d a p) (b - 1) (a + 1)) (b - 1) - 1) (swp (swp d a p) (scanUp (fun x => S.lt x (swp d a p)[a]!) (swp d a p) (b - 1) (a + 1)) (scanDown (fun x => !S.lt x (swp d a p)[a]!) (swp d a p) (scanUp (fun x => S.lt x (swp d a p)[a]!) (swp d a p) (b - 1) (a + 1)) (b - 1)))).2
          (partLoop S.lt a (scanUp (fun x => S.lt x (swp d a p)[a]!) (swp d a p) (b - 1) (a + 1) + 1) (scanDown (fun x => !S.lt x (swp d a p)[a]!) (swp d a p) (scanUp (fun x => S.lt x (swp d a p)[a]!) (swp d a p) (b - 1) (a + 1)) (b - 1) - 1) (swp (swp d a p) (scanUp (fun x => S.lt x (swp d a p)[a]!) (swp d a p) (b - 1) (a + 1)) (scanDown (fun x => !S.lt x (swp d a p)[a]!) (swp d a p) (scanUp (fun x => S.lt x (swp d a p)[a]!) (swp d a p) (b - 1) (a + 1)) (b - 1)))).1 a)) := rfl
  rw [hpe]
  refine WL.mono (so_pa5 h1 ca (show b - 1 < S.n by omega) (by omega)) ?_
  rintro _ _ m2 ⟨rfl, rfl, h2⟩
  generalize scanUp (fun x => S.lt x (swp d a p)[a]!) (swp d a p) (b - 1) (a + 1) = i2 at u1 u2 u3 w1 w2 w3 ⊢
  simp only [go_sem, Int.reduceBEq, Int.reduceBNe, Int.reduceNeg, reduceCtorEq, Nat.reduceEqDiff, Nat.reduceAdd, Nat.reduceLeDiff, Nat.reduceMul, Nat.reduceSub, Int.reduceToNat, Int.reduceLT, Int.reduceLE]
  refine WL.mono (so_pa4 h2 ca (show b - 1 < S.n by omega) (by omega)) ?_
  rintro _ _ m3 ⟨rfl, rfl, h3⟩
  generalize scanDown (fun x => !S.lt x (swp d a p)[a]!) (swp d a p) i2 (b - 1) = j2 at w1 w2 w3 ⊢
  have hne : i2 ≠ j2 := by
    intro e
    subst e
    have q1 := u3 (by omega)
    have q2 := w3 (by omega) (by omega)
    first | (simp [q1] at q2; done) | (cases hh : S.lt d'[a]! d'[i2]! <;> simp [hh] at q1 q2)
  clear u3 w3
  generalize swp d a p = d1 at *
  simp only [go_sem, Int.reduceBEq, Int.reduceBNe, Int.reduceNeg, reduceCtorEq, Nat.reduceEqDiff, Nat.reduceAdd, Nat.reduceLeDiff, Nat.reduceMul, Nat.reduceSub, Int.reduceToNat, Int.reduceLT, Int.reduceLE]
  have c2 : j2 < S.n := by omega
  refine gT.of (fun g1' => ?_) (fun g1' => ?_) <;> (have g1 := g1'; try simp only [decide_eq_true_eq, decide_eq_false_iff_not, beq_iff_eq, bne_iff_ne, beq_eq_false_iff_ne, ne_eq, Bool.not_eq_true', Bool.not_eq_false', bne_eq_false_iff_eq, Int.not_lt, Int.not_le] at g1)
  · rw [if_pos (by omega)]
    obtain ⟨k1, k2, r1, r2, h5⟩ := h3.sw c2 ca
    simp only [go_sem, Int.reduceBEq, Int.reduceBNe, Int.reduceNeg, reduceCtorEq, Nat.reduceEqDiff, Nat.reduceAdd, Nat.reduceLeDiff, Nat.reduceMul, Nat.reduceSub, Int.reduceToNat, Int.reduceLT, Int.reduceLE, g1', S.ix c2, S.ix ca, h3.ld c2, h3.ld ca, r1, r2]
    exact h5
  · rw [if_neg (by omega)]
    have c1 : i2 < S.n := by omega
    obtain ⟨k1, k2, r1, r2, h5⟩ := h3.sw c1 c2
    simp only [go_sem, Int.reduceBEq, Int.reduceBNe, Int.reduceNeg, reduceCtorEq, Nat.reduceEqDiff, Nat.reduceAdd, Nat.reduceLeDiff, Nat.reduceMul, Nat.reduceSub, Int.reduceToNat, Int.reduceLT, Int.reduceLE, g1', S.ix c1, S.ix c2, h3.ld c1, h3.ld c2, r1, r2, nadd1 (show i2 < 4000000 by omega), nsub1 (show 0 < j2 by omega) (show j2 < 4000000 by omega)]
    refine WL.mono (so_pa3 h5 ca (show j2 - 1 < S.n by omega) (by omega) (by omega)) ?_
    rintro _ _ m4 ⟨rfl, ⟨q, bb, rfl⟩, h6⟩
    have hle := partLoop_le (S := S) (a := a) (j2 - 1 + 1 - (i2 + 1)) (i2 + 1) (j2 - 1) (swp d1 i2 j2) (Nat.le_refl _)
    generalize partLoop S.lt a (i2 + 1) (j2 - 1) (swp d1 i2 j2) = P at *
    have c3 : P.1 < S.n := by omega
    obtain ⟨k3, k4, r3, r4, h7⟩ := h6.sw c3 ca
    simp only [go_sem, Int.reduceBEq, Int.reduceBNe, Int.reduceNeg, reduceCtorEq, Nat.reduceEqDiff, Nat.reduceAdd, Nat.reduceLeDiff, Nat.reduceMul, Nat.reduceSub, Int.reduceToNat, Int.reduceLT, Int.reduceLE, S.ix c3, S.ix ca, h6.ld c3, h6.ld ca, r3, r4]
    exact h7

theorem so_pe2 {a i j : Nat} (h : S.Row m d) (ha : a < S.n) (hj : j < S.n) (hi : i ≤ S.n) :
    WL R [0, 1, 4, 11, 12] RB.slices_partitionEqualCmpFunc_api_Want_2 [(0, S.sv), (1, .int .i64 a), (4, S.cv), (11, .int .i64 i), (12, .int .i64 j)] m fun x e m' =>
      x = .exit 2 ∧ e = [(0, S.sv), (1, .int .i64 a), (4, S.cv), (11, .int .i64 (scanUp (fun x => !S.lt d[a]! x) d j i)), (12, .int .i64 j), (47, .bool false)] ∧ S.Row m' d := by
  have hn := S.small
  refine WL.of (fun r e m' => ∃ (k : Nat), r = S.n + 1 - k ∧ k ≤ S.n ∧ e = [(0, S.sv), (1, .int .i64 a), (4, S.cv), (11, .int .i64 k), (12, .int .i64 j)] ∧ S.Row m' d ∧ scanUp (fun x => !S.lt d[a]! x) d j k = scanUp (fun x => !S.lt d[a]! x) d j i) (S.n + 1 - i)
    ⟨i, rfl, hi, by simp only [go_sem, Int.reduceBEq, Int.reduceBNe, Int.reduceNeg, reduceCtorEq, Nat.reduceEqDiff, Nat.reduceAdd, Nat.reduceLeDiff, Nat.reduceMul, Nat.reduceSub, Int.reduceToNat, Int.reduceLT, Int.reduceLE] <;> rfl, h, rfl⟩ ?_
  rintro n0 _ m1 ⟨k, hr, hk, rfl, h1, he⟩
  rw [scanUp] at he
  simp only [RB.slices_partitionEqualCmpFunc_api_Want_2, go_sem, Int.reduceBEq, Int.reduceBNe, Int.reduceNeg, reduceCtorEq, Nat.reduceEqDiff, Nat.reduceAdd, Nat.reduceLeDiff, Nat.reduceMul, Nat.reduceSub, Int.reduceToNat, Int.reduceLT, Int.reduceLE]
  refine gT.of (fun g1' => ?_) (fun g1' => ?_) <;> (have g1 := g1'; try simp only [decide_eq_true_eq, decide_eq_false_iff_not, beq_iff_eq, bne_iff_ne, beq_eq_false_iff_ne, ne_eq, Bool.not_eq_true', Bool.not_eq_false', bne_eq_false_iff_eq, Int.not_lt, Int.not_le] at g1)
  · have hk2 : k < S.n := by omega
    simp only [go_sem, Int.reduceBEq, Int.reduceBNe, Int.reduceNeg, reduceCtorEq, Nat.reduceEqDiff, Nat.reduceAdd, Nat.reduceLeDiff, Nat.reduceMul, Nat.reduceSub, Int.reduceToNat, Int.reduceLT, Int.reduceLE, g1', S.ix hk2, S.ix ha, h1.ld hk2, h1.ld ha]
    refine gC.of (S.cmp m1 d[a]! d[k]!) ?_
    rintro _ m2 ⟨rfl, hx2⟩
    simp only [go_sem, Int.reduceBEq, Int.reduceBNe, Int.reduceNeg, reduceCtorEq, Nat.reduceEqDiff, Nat.reduceAdd, Nat.reduceLeDiff, Nat.reduceMul, Nat.reduceSub, Int.reduceToNat, Int.reduceLT, Int.reduceLE]
    have h2 := h1.keep hx2
    refine gT.of (fun g2' => ?_) (fun g2' => ?_) <;> (have g2 := g2'; try simp only [decide_eq_true_eq, decide_eq_false_iff_not, beq_iff_eq, bne_iff_ne, beq_eq_false_iff_ne, ne_eq, Bool.not_eq_true', Bool.not_eq_false', bne_eq_false_iff_eq, Int.not_lt, Int.not_le] at g2)
    · rw [if_pos (by rw [S.lt_f' (by simpa using g2)]; simp; omega)] at he
      simp only [go_sem, Int.reduceBEq, Int.reduceBNe, Int.reduceNeg, reduceCtorEq, Nat.reduceEqDiff, Nat.reduceAdd, Nat.reduceLeDiff, Nat.reduceMul, Nat.reduceSub, Int.reduceToNat, Int.reduceLT, Int.reduceLE, g2', nadd1 (show k < 4000000 by omega)]
      exact ⟨S.n + 1 - (k + 1), by omega, k + 1, rfl, by omega, rfl, h2, he⟩
    · rw [if_neg (by rw [S.lt_t (by simpa using g2)]; simp)] at he
      rw [← he]
      simp only [go_sem, Int.reduceBEq, Int.reduceBNe, Int.reduceNeg, reduceCtorEq, Nat.reduceEqDiff, Nat.reduceAdd, Nat.reduceLeDiff, Nat.reduceMul, Nat.reduceSub, Int.reduceToNat, Int.reduceLT, Int.reduceLE, g2']
      exact h2
  · rw [if_neg (by simp; omega)] at he
    rw [← he]
    simp only [go_sem, Int.reduceBEq, Int.reduceBNe, Int.reduceNeg, reduceCtorEq, Nat.reduceEqDiff, Nat.reduceAdd, Nat.reduceLeDiff, Nat.reduceMul, Nat.reduceSub, Int.reduceToNat, Int.reduceLT, Int.reduceLE, g1']
    exact h1

theorem so_pe1 {a i j : Nat} (h : S.Row m d) (ha : a < S.n) (hj : j < S.n) (hi : 1 ≤ i) :
    WL R [0, 1, 4, 11, 12] RB.slices_partitionEqualCmpFunc_api_Want_1 [(0, S.sv), (1, .int .i64 a), (4, S.cv), (11, .int .i64 i), (12, .int .i64 j)] m fun x e m' =>
      x = .exit 4 ∧ e = [(0, S.sv), (1, .int .i64 a), (4, S.cv), (11, .int .i64 i), (12, .int .i64 (scanDown (fun x => S.lt d[a]! x) d i j)), (65, .bool false)] ∧ S.Row m' d := by
  have hn := S.small
  refine WL.of (fun r e m' => ∃ (k : Nat), r = k ∧ k < S.n ∧ e = [(0, S.sv), (1, .int .i64 a), (4, S.cv), (11, .int .i64 i), (12, .int .i64 k)] ∧ S.Row m' d ∧ scanDown (fun x => S.lt d[a]! x) d i k = scanDown (fun x => S.lt d[a]! x) d i j) j
    ⟨j, rfl, hj, by simp only [go_sem, Int.reduceBEq, Int.reduceBNe, Int.reduceNeg, reduceCtorEq, Nat.reduceEqDiff, Nat.reduceAdd, Nat.reduceLeDiff, Nat.reduceMul, Nat.reduceSub, Int.reduceToNat, Int.reduceLT, Int.reduceLE] <;> rfl, h, rfl⟩ ?_
  rintro n0 _ m1 ⟨k, hr, hk, rfl, h1, he⟩
  simp only [RB.slices_partitionEqualCmpFunc_api_Want_1, go_sem, Int.reduceBEq, Int.reduceBNe, Int.reduceNeg, reduceCtorEq, Nat.reduceEqDiff, Nat.reduceAdd, Nat.reduceLeDiff, Nat.reduceMul, Nat.reduceSub, Int.reduceToNat, Int.reduceLT, Int.reduceLE]
  refine gT.of (fun g1' => ?_) (fun g1' => ?_) <;> (have g1 := g1'; try simp only [decide_eq_true_eq, decide_eq_false_iff_not, beq_iff_eq, bne_iff_ne, beq_eq_false_iff_ne, ne_eq, Bool.not_eq_true', Bool.not_eq_false', bne_eq_false_iff_eq, Int.not_lt, Int.not_le] at g1)
  · obtain ⟨k, rfl⟩ : ∃ k', k = k' + 1 := ⟨k - 1, by omega⟩
    simp only [scanDown] at he
    have e1 := nsub1 (i := k + 1) (by omega) (by omega)
    simp only [Nat.add_sub_cancel] at e1
    simp only [go_sem, Int.reduceBEq, Int.reduceBNe, Int.reduceNeg, reduceCtorEq, Nat.reduceEqDiff, Nat.reduceAdd, Nat.reduceLeDiff, Nat.reduceMul, Nat.reduceSub, Int.reduceToNat, Int.reduceLT, Int.reduceLE, g1', S.ix hk, S.ix ha, h1.ld hk, h1.ld ha]
    refine gC.of (S.cmp m1 d[a]! d[k + 1]!) ?_
    rintro _ m2 ⟨rfl, hx2⟩
    simp only [go_sem, Int.reduceBEq, Int.reduceBNe, Int.reduceNeg, reduceCtorEq, Nat.reduceEqDiff, Nat.reduceAdd, Nat.reduceLeDiff, Nat.reduceMul, Nat.reduceSub, Int.reduceToNat, Int.reduceLT, Int.reduceLE]
    have h2 := h1.keep hx2
    refine gT.of (fun g2' => ?_) (fun g2' => ?_) <;> (have g2 := g2'; try simp only [decide_eq_true_eq, decide_eq_false_iff_not, beq_iff_eq, bne_iff_ne, beq_eq_false_iff_ne, ne_eq, Bool.not_eq_true', Bool.not_eq_false', bne_eq_false_iff_eq, Int.not_lt, Int.not_le] at g2)
    · rw [if_pos (by rw [S.lt_t g2]; simp; omega)] at he
      simp only [go_sem, Int.reduceBEq, Int.reduceBNe, Int.reduceNeg, reduceCtorEq, Nat.reduceEqDiff, Nat.reduceAdd, Nat.reduceLeDiff, Nat.reduceMul, Nat.reduceSub, Int.reduceToNat, Int.reduceLT, Int.reduceLE, g2', e1]
      exact ⟨k, by omega, k, rfl, by omega, rfl, h2, he⟩
    · rw [if_neg (by rw [S.lt_f' g2]; simp)] at he
      rw [← he]
      simp only [go_sem, Int.reduceBEq, Int.reduceBNe, Int.reduceNeg, reduceCtorEq, Nat.reduceEqDiff, Nat.reduceAdd, Nat.reduceLeDiff, Nat.reduceMul, Nat.reduceSub, Int.reduceToNat, Int.reduceLT, Int.reduceLE, g2']
      exact h2
  · have he2 : scanDown (fun x => S.lt d[a]! x) d i k = k := by
      cases k with
      | zero => rfl
      | succ k => simp only [scanDown]; rw [if_neg (by simp; omega)]
    rw [← he, he2]
    simp only [go_sem, Int.reduceBEq, Int.reduceBNe, Int.reduceNeg, reduceCtorEq, Nat.reduceEqDiff, Nat.reduceAdd, Nat.reduceLeDiff, Nat.reduceMul, Nat.reduceSub, Int.reduceToNat, Int.reduceLT, Int.reduceLE, g1']
    exact h1

theorem so_pe3 {a i j : Nat} (h : S.Row m d) (ha : a < S.n) (hj : j < S.n) (hi : 1 ≤ i) (hij : i ≤ j + 1) :
    WL R [0, 1, 4, 11, 12] RB.slices_partitionEqualCmpFunc_api_Want_3 [(0, S.sv), (1, .int .i64 a), (4, S.cv), (11, .int .i64 i), (12, .int .i64 j)] m fun x e m' =>
      x = .exit 0 ∧ (∃ q b, e = [(0, S.sv), (1, .int .i64 a), (4, S.cv), (11, .int .i64 (partEqLoop S.lt a i j d).1), (12, q), (70, b)]) ∧ S.Row m' (partEqLoop S.lt a i j d).2 := by
  have hn := S.small
  refine WL.of (fun r e m' => ∃ (i' j' : Nat) (d' : Array α), r = j' + 1 - i' ∧ 1 ≤ i' ∧ i' ≤ j' + 1 ∧ j' < S.n ∧ e = [(0, S.sv), (1, .int .i64 a), (4, S.cv), (11, .int .i64 i'), (12, .int .i64 j')] ∧ S.Row m' d' ∧ partEqLoop S.lt a i' j' d' = partEqLoop S.lt a i j d) (j + 1 - i)
    ⟨i, j, d, rfl, hi, hij, hj, by simp only [go_sem, Int.reduceBEq, Int.reduceBNe, Int.reduceNeg, reduceCtorEq, Nat.reduceEqDiff, Nat.reduceAdd, Nat.reduceLeDiff, Nat.reduceMul, Nat.reduceSub, Int.reduceToNat, Int.reduceLT, Int.reduceLE] <;> rfl, h, rfl⟩ ?_
  rintro n0 _ m1 ⟨i', j', d', hr, hi', hij', hj', rfl, h1, he⟩
  simp only [RB.slices_partitionEqualCmpFunc_api_Want_3, go_sem, Int.reduceBEq, Int.reduceBNe, Int.reduceNeg, reduceCtorEq, Nat.reduceEqDiff, Nat.reduceAdd, Nat.reduceLeDiff, Nat.reduceMul, Nat.reduceSub, Int.reduceToNat, Int.reduceLT, Int.reduceLE]
  rw [partEqLoop_eq] at he
  have u1 := scanUp_ge (fun x => !S.lt d'[a]! x) d' j' i'
  have u2 := (scanUp_spec (fun x => !S.lt d'[a]! x) d' j' _ i' rfl).2.1 hij'
  have u3 := (scanUp_spec (fun x => !S.lt d'[a]! x) d' j' _ i' rfl).2.2.2
  refine WL.mono (so_pe2 h1 ha hj' (by omega)) ?_
  rintro _ _ m2 ⟨rfl, rfl, h2⟩
  generalize scanUp (fun x => !S.lt d'[a]! x) d' j' i' = i2 at u1 u2 u3 he ⊢
  simp only [go_sem, Int.reduceBEq, Int.reduceBNe, Int.reduceNeg, reduceCtorEq, Nat.reduceEqDiff, Nat.reduceAdd, Nat.reduceLeDiff, Nat.reduceMul, Nat.reduceSub, Int.reduceToNat, Int.reduceLT, Int.reduceLE]
  have w1 := scanDown_le (fun x => S.lt d'[a]! x) d' i2 j'
  have w2 := (scanDown_spec (fun x => S.lt d'[a]! x) d' i2 j').2.1 (by omega)
  have w3 := (scanDown_spec (fun x => S.lt d'[a]! x) d' i2 j').2.2.2
  refine WL.mono (so_pe1 h2 ha hj' (by omega)) ?_
  rintro _ _ m3 ⟨rfl, rfl, h3⟩
  generalize scanDown (fun x => S.lt d'[a]! x) d' i2 j' = j2 at w1 w2 w3 he ⊢
  have hne : i2 ≠ j2 := by
    intro e
    subst e
    have q1 := u3 (by omega)
    have q2 := w3 (by omega) (by omega)
    first | (simp [q1] at q2; done) | (cases hh : S.lt d'[a]! d'[i2]! <;> simp [hh] at q1 q2)
  simp only [go_sem, Int.reduceBEq, Int.reduceBNe, Int.reduceNeg, reduceCtorEq, Nat.reduceEqDiff, Nat.reduceAdd, Nat.reduceLeDiff, Nat.reduceMul, Nat.reduceSub, Int.reduceToNat, Int.reduceLT, Int.reduceLE]
  refine gT.of (fun g1' => ?_) (fun g1' => ?_) <;> (have g1 := g1'; try simp only [decide_eq_true_eq, decide_eq_false_iff_not, beq_iff_eq, bne_iff_ne, beq_eq_false_iff_ne, ne_eq, Bool.not_eq_true', Bool.not_eq_false', bne_eq_false_iff_eq, Int.not_lt, Int.not_le] at g1)
  · rw [if_pos (by omega)] at he
    simp only [go_sem, Int.reduceBEq, Int.reduceBNe, Int.reduceNeg, reduceCtorEq, Nat.reduceEqDiff, Nat.reduceAdd, Nat.reduceLeDiff, Nat.reduceMul, Nat.reduceSub, Int.reduceToNat, Int.reduceLT, Int.reduceLE, g1']
    rw [← he]
    exact ⟨⟨_, _, rfl⟩, h3⟩
  · rw [if_neg (by omega)] at he
    have c1 : i2 < S.n := by omega
    have c2 : j2 < S.n := by omega
    obtain ⟨n1, n2, t1, t2, h5⟩ := h3.sw c1 c2
    simp only [go_sem, Int.reduceBEq, Int.reduceBNe, Int.reduceNeg, reduceCtorEq, Nat.reduceEqDiff, Nat.reduceAdd, Nat.reduceLeDiff, Nat.reduceMul, Nat.reduceSub, Int.reduceToNat, Int.reduceLT, Int.reduceLE, g1', S.ix c1, S.ix c2, h3.ld c1, h3.ld c2, t1, t2, nadd1 (show i2 < 4000000 by omega), nsub1 (show 0 < j2 by omega) (show j2 < 4000000 by omega)]
    exact ⟨j2 - 1 + 1 - (i2 + 1), by omega, i2 + 1, j2 - 1, _, rfl, by omega, by omega, by omega, rfl, h5, he⟩

theorem so_parte {a b p : Nat} (h : S.Row m d) (hb : b ≤ S.n) (hp : a ≤ p) (hp2 : p < b) : WC R F.slices_partitionEqualCmpFunc_api_Want [S.sv, .int .i64 a, .int .i64 b, .int .i64 p, S.cv] m fun r m' =>
    r = .int .i64 (partitionEqual S.lt d a b p).1 ∧ S.Row m' (partitionEqual S.lt d a b p).2 := by
  refine WC.of R.slices_partitionEqualCmpFunc_api_Want rfl ?_
  have hn := S.small
  have ca : a < S.n := by omega
  have cp : p < S.n := by omega
  obtain ⟨n1, n2, t1, t2, h1⟩ := h.sw ca cp
  simp only [RC.slices_partitionEqualCmpFunc_api_Want, go_sem, Int.reduceBEq, Int.reduceBNe, Int.reduceNeg, reduceCtorEq, Nat.reduceEqDiff, Nat.reduceAdd, Nat.reduceLeDiff, Nat.reduceMul, Nat.reduceSub, Int.reduceToNat, Int.reduceLT, Int.reduceLE, S.ix ca, S.ix cp, h.ld ca, h.ld cp, t1, t2, nadd1 (show a < 4000000 by omega), nsub1 (show 0 < b by omega) (show b < 4000000 by omega)]
  refine WL.mono (so_pe3 h1 ca (show b - 1 < S.n by omega) (by omega) (by omega)) ?_
  rintro _ _ m2 ⟨rfl, ⟨q, bb, rfl⟩, h2⟩
  simp only [go_sem, Int.reduceBEq, Int.reduceBNe, Int.reduceNeg, reduceCtorEq, Nat.reduceEqDiff, Nat.reduceAdd, Nat.reduceLeDiff, Nat.reduceMul, Nat.reduceSub, Int.reduceToNat, Int.reduceLT, Int.reduceLE]
  exact ⟨rfl, h2⟩
end Go.Am


/- Sorting a row at api_Want (Order): insertion of a few. Printed out of SortT4.tmpl by sortgen.py. -/
set_option linter.unusedVariables false
set_option linter.unusedSimpArgs false
namespace Go.Am
open Go.Sort
variable {α : Type} [Inhabited α] {S : SortC R α 2} {m : Mem} {d : Array α}

theorem so_pi3 {a b i : Nat} {v10 : Value} {rest : Env} (h : S.Row m d) (hb : b ≤ S.n) (hi : 1 ≤ i) (hib : i ≤ b) :
    WL R [0, 1, 2, 3, 9, 10] RB.slices_partialInsertionSortCmpFunc_api_Want_3 ((0, S.sv) :: (1, .int .i64 a) :: (2, .int .i64 b) :: (3, S.cv) :: (9, .int .i64 i) :: (10, v10) :: rest) m fun x e m' =>
      x = .exit 2 ∧ e = [(0, S.sv), (1, .int .i64 a), (2, .int .i64 b), (3, S.cv), (9, .int .i64 (scanSorted S.lt d b i)), (10, v10), (36, .bool false)] ∧ S.Row m' d ∧ i ≤ scanSorted S.lt d b i ∧ scanSorted S.lt d b i ≤ b := by
  have hn := S.small
  refine WL.of (fun r e m' => ∃ (k : Nat), r = b - k ∧ 1 ≤ k ∧ i ≤ k ∧ k ≤ b ∧ e = [(0, S.sv), (1, .int .i64 a), (2, .int .i64 b), (3, S.cv), (9, .int .i64 k), (10, v10)] ∧ S.Row m' d ∧ scanSorted S.lt d b k = scanSorted S.lt d b i) (b - i)
    ⟨i, rfl, hi, Nat.le_refl _, hib, by simp only [go_sem, Int.reduceBEq, Int.reduceBNe, Int.reduceNeg, reduceCtorEq, Nat.reduceEqDiff, Nat.reduceAdd, Nat.reduceLeDiff, Nat.reduceMul, Nat.reduceSub, Int.reduceToNat, Int.reduceLT, Int.reduceLE] <;> rfl, h, rfl⟩ ?_
  rintro n0 _ m1 ⟨k, hr, hk1, hik, hkb, rfl, h1, he⟩
  rw [scanSorted] at he
  simp only [RB.slices_partialInsertionSortCmpFunc_api_Want_3, go_sem, Int.reduceBEq, Int.reduceBNe, Int.reduceNeg, reduceCtorEq, Nat.reduceEqDiff, Nat.reduceAdd, Nat.reduceLeDiff, Nat.reduceMul, Nat.reduceSub, Int.reduceToNat, Int.reduceLT, Int.reduceLE]
  refine gT.of (fun g1' => ?_) (fun g1' => ?_) <;> (have g1 := g1'; try simp only [decide_eq_true_eq, decide_eq_false_iff_not, beq_iff_eq, bne_iff_ne, beq_eq_false_iff_ne, ne_eq, Bool.not_eq_true', Bool.not_eq_false', bne_eq_false_iff_eq, Int.not_lt, Int.not_le] at g1)
  · have c1 : k < S.n := by omega
    have c0 : k - 1 < S.n := by omega
    simp only [go_sem, Int.reduceBEq, Int.reduceBNe, Int.reduceNeg, reduceCtorEq, Nat.reduceEqDiff, Nat.reduceAdd, Nat.reduceLeDiff, Nat.reduceMul, Nat.reduceSub, Int.reduceToNat, Int.reduceLT, Int.reduceLE, g1', nsub1 (show 0 < k by omega) (show k < 4000000 by omega), S.ix c1, S.ix c0, h1.ld c1, h1.ld c0]
    refine gC.of (S.cmp m1 d[k]! d[k - 1]!) ?_
    rintro _ m2 ⟨rfl, hx2⟩
    simp only [go_sem, Int.reduceBEq, Int.reduceBNe, Int.reduceNeg, reduceCtorEq, Nat.reduceEqDiff, Nat.reduceAdd, Nat.reduceLeDiff, Nat.reduceMul, Nat.reduceSub, Int.reduceToNat, Int.reduceLT, Int.reduceLE]
    have h2 := h1.keep hx2
    refine gT.of (fun g2' => ?_) (fun g2' => ?_) <;> (have g2 := g2'; try simp only [decide_eq_true_eq, decide_eq_false_iff_not, beq_iff_eq, bne_iff_ne, beq_eq_false_iff_ne, ne_eq, Bool.not_eq_true', Bool.not_eq_false', bne_eq_false_iff_eq, Int.not_lt, Int.not_le] at g2)
    · rw [if_pos (by rw [S.lt_f' (by simpa using g2)]; simp; omega)] at he
      simp only [go_sem, Int.reduceBEq, Int.reduceBNe, Int.reduceNeg, reduceCtorEq, Nat.reduceEqDiff, Nat.reduceAdd, Nat.reduceLeDiff, Nat.reduceMul, Nat.reduceSub, Int.reduceToNat, Int.reduceLT, Int.reduceLE, g2', nadd1 (show k < 4000000 by omega)]
      exact ⟨b - (k + 1), by omega, k + 1, rfl, by omega, by omega, by omega, rfl, h2, he⟩
    · rw [if_neg (by rw [S.lt_t (by simpa using g2)]; simp)] at he
      rw [← he]
      simp only [go_sem, Int.reduceBEq, Int.reduceBNe, Int.reduceNeg, reduceCtorEq, Nat.reduceEqDiff, Nat.reduceAdd, Nat.reduceLeDiff, Nat.reduceMul, Nat.reduceSub, Int.reduceToNat, Int.reduceLT, Int.reduceLE, g2']
      exact ⟨h2, hik, hkb⟩
  · rw [if_neg (by simp; omega)] at he
    rw [← he]
    simp only [go_sem, Int.reduceBEq, Int.reduceBNe, Int.reduceNeg, reduceCtorEq, Nat.reduceEqDiff, Nat.reduceAdd, Nat.reduceLeDiff, Nat.reduceMul, Nat.reduceSub, Int.reduceToNat, Int.reduceLT, Int.reduceLE, g1']
    exact ⟨h1, hik, hkb⟩

theorem so_pi2 {j : Nat} {v1 v2 v9 v10 : Value} (h : S.Row m d) (hj : j < S.n) :
    WL R [0, 1, 2, 3, 9, 10, 11] RB.slices_partialInsertionSortCmpFunc_api_Want_2 [(0, S.sv), (1, v1), (2, v2), (3, S.cv), (9, v9), (10, v10), (11, .int .i64 j)] m fun x e m' =>
      x = .exit 4 ∧ (∃ rest, e = (0, S.sv) :: (1, v1) :: (2, v2) :: (3, S.cv) :: (9, v9) :: (10, v10) :: rest) ∧ S.Row m' (shiftDown S.lt j d) := by
  have hn := S.small
  refine WL.of (fun r e m' => ∃ (k : Nat) (d' : Array α), r = k ∧ k < S.n ∧ e = [(0, S.sv), (1, v1), (2, v2), (3, S.cv), (9, v9), (10, v10), (11, .int .i64 k)] ∧ S.Row m' d' ∧ shiftDown S.lt k d' = shiftDown S.lt j d) j
    ⟨j, d, rfl, hj, by simp only [go_sem, Int.reduceBEq, Int.reduceBNe, Int.reduceNeg, reduceCtorEq, Nat.reduceEqDiff, Nat.reduceAdd, Nat.reduceLeDiff, Nat.reduceMul, Nat.reduceSub, Int.reduceToNat, Int.reduceLT, Int.reduceLE] <;> rfl, h, rfl⟩ ?_
  rintro n0 _ m1 ⟨k, d', hr, hk, rfl, h1, he⟩
  simp only [RB.slices_partialInsertionSortCmpFunc_api_Want_2, go_sem, Int.reduceBEq, Int.reduceBNe, Int.reduceNeg, reduceCtorEq, Nat.reduceEqDiff, Nat.reduceAdd, Nat.reduceLeDiff, Nat.reduceMul, Nat.reduceSub, Int.reduceToNat, Int.reduceLT, Int.reduceLE]
  refine gT.of (fun g1' => ?_) (fun g1' => ?_) <;> (have g1 := g1'; try simp only [decide_eq_true_eq, decide_eq_false_iff_not, beq_iff_eq, bne_iff_ne, beq_eq_false_iff_ne, ne_eq, Bool.not_eq_true', Bool.not_eq_false', bne_eq_false_iff_eq, Int.not_lt, Int.not_le] at g1)
  · obtain ⟨k, rfl⟩ : ∃ k', k = k' + 1 := ⟨k - 1, by omega⟩
    simp only [shiftDown] at he
    have c0 : k < S.n := by omega
    have e1 := nsub1 (i := k + 1) (by omega) (by omega)
    simp only [Nat.add_sub_cancel] at e1
    simp only [go_sem, Int.reduceBEq, Int.reduceBNe, Int.reduceNeg, reduceCtorEq, Nat.reduceEqDiff, Nat.reduceAdd, Nat.reduceLeDiff, Nat.reduceMul, Nat.reduceSub, Int.reduceToNat, Int.reduceLT, Int.reduceLE, g1', e1, S.ix hk, S.ix c0, h1.ld hk, h1.ld c0]
    refine gC.of (S.cmp m1 d'[k + 1]! d'[k]!) ?_
    rintro _ m2 ⟨rfl, hx2⟩
    simp only [go_sem, Int.reduceBEq, Int.reduceBNe, Int.reduceNeg, reduceCtorEq, Nat.reduceEqDiff, Nat.reduceAdd, Nat.reduceLeDiff, Nat.reduceMul, Nat.reduceSub, Int.reduceToNat, Int.reduceLT, Int.reduceLE]
    have h2 := h1.keep hx2
    refine gT.of (fun g2' => ?_) (fun g2' => ?_) <;> (have g2 := g2'; try simp only [decide_eq_true_eq, decide_eq_false_iff_not, beq_iff_eq, bne_iff_ne, beq_eq_false_iff_ne, ne_eq, Bool.not_eq_true', Bool.not_eq_false', bne_eq_false_iff_eq, Int.not_lt, Int.not_le] at g2)
    · rw [if_pos (by rw [S.lt_f' (by simpa using g2)]; rfl)] at he
      rw [← he]
      simp only [go_sem, Int.reduceBEq, Int.reduceBNe, Int.reduceNeg, reduceCtorEq, Nat.reduceEqDiff, Nat.reduceAdd, Nat.reduceLeDiff, Nat.reduceMul, Nat.reduceSub, Int.reduceToNat, Int.reduceLT, Int.reduceLE, g2']
      exact ⟨⟨_, rfl⟩, h2⟩
    · rw [if_neg (by rw [S.lt_t (by simpa using g2)]; simp)] at he
      obtain ⟨n1, n2, t1, t2, h5⟩ := h2.sw hk c0
      simp only [go_sem, Int.reduceBEq, Int.reduceBNe, Int.reduceNeg, reduceCtorEq, Nat.reduceEqDiff, Nat.reduceAdd, Nat.reduceLeDiff, Nat.reduceMul, Nat.reduceSub, Int.reduceToNat, Int.reduceLT, Int.reduceLE, g2', e1, S.ix hk, S.ix c0, h2.ld hk, h2.ld c0, t1, t2]
      exact ⟨k, by omega, k, _, rfl, c0, rfl, h5, he⟩
  · have hk0 : k = 0 := by omega
    subst hk0
    simp only [shiftDown] at he
    rw [← he]
    simp only [go_sem, Int.reduceBEq, Int.reduceBNe, Int.reduceNeg, reduceCtorEq, Nat.reduceEqDiff, Nat.reduceAdd, Nat.reduceLeDiff, Nat.reduceMul, Nat.reduceSub, Int.reduceToNat, Int.reduceLT, Int.reduceLE, g1']
    exact ⟨⟨_, rfl⟩, h1⟩

theorem so_pi1 {b j : Nat} {v1 v9 v10 : Value} (h : S.Row m d) (hj : 1 ≤ j) (hb : b ≤ S.n) (hjb : j ≤ b) :
    WL R [0, 1, 2, 3, 9, 10, 12] RB.slices_partialInsertionSortCmpFunc_api_Want_1 [(0, S.sv), (1, v1), (2, .int .i64 b), (3, S.cv), (9, v9), (10, v10), (12, .int .i64 j)] m fun x e m' =>
      x = .exit 6 ∧ (∃ rest, e = (0, S.sv) :: (1, v1) :: (2, .int .i64 b) :: (3, S.cv) :: (9, v9) :: (10, v10) :: rest) ∧ S.Row m' (shiftUp S.lt b j d) := by
  have hn := S.small
  refine WL.of (fun r e m' => ∃ (k : Nat) (d' : Array α), r = b - k ∧ 1 ≤ k ∧ k ≤ b ∧ e = [(0, S.sv), (1, v1), (2, .int .i64 b), (3, S.cv), (9, v9), (10, v10), (12, .int .i64 k)] ∧ S.Row m' d' ∧ shiftUp S.lt b k d' = shiftUp S.lt b j d) (b - j)
    ⟨j, d, rfl, hj, hjb, by simp only [go_sem, Int.reduceBEq, Int.reduceBNe, Int.reduceNeg, reduceCtorEq, Nat.reduceEqDiff, Nat.reduceAdd, Nat.reduceLeDiff, Nat.reduceMul, Nat.reduceSub, Int.reduceToNat, Int.reduceLT, Int.reduceLE] <;> rfl, h, rfl⟩ ?_
  rintro n0 _ m1 ⟨k, d', hr, hk1, hkb, rfl, h1, he⟩
  rw [shiftUp] at he
  simp only [RB.slices_partialInsertionSortCmpFunc_api_Want_1, go_sem, Int.reduceBEq, Int.reduceBNe, Int.reduceNeg, reduceCtorEq, Nat.reduceEqDiff, Nat.reduceAdd, Nat.reduceLeDiff, Nat.reduceMul, Nat.reduceSub, Int.reduceToNat, Int.reduceLT, Int.reduceLE]
  refine gT.of (fun g1' => ?_) (fun g1' => ?_) <;> (have g1 := g1'; try simp only [decide_eq_true_eq, decide_eq_false_iff_not, beq_iff_eq, bne_iff_ne, beq_eq_false_iff_ne, ne_eq, Bool.not_eq_true', Bool.not_eq_false', bne_eq_false_iff_eq, Int.not_lt, Int.not_le] at g1)
  · rw [if_pos (by omega)] at he
    have c1 : k < S.n := by omega
    have c0 : k - 1 < S.n := by omega
    have e1 := nsub1 (show 0 < k by omega) (show k < 4000000 by omega)
    simp only [go_sem, Int.reduceBEq, Int.reduceBNe, Int.reduceNeg, reduceCtorEq, Nat.reduceEqDiff, Nat.reduceAdd, Nat.reduceLeDiff, Nat.reduceMul, Nat.reduceSub, Int.reduceToNat, Int.reduceLT, Int.reduceLE, g1', e1, S.ix c1, S.ix c0, h1.ld c1, h1.ld c0]
    refine gC.of (S.cmp m1 d'[k]! d'[k - 1]!) ?_
    rintro _ m2 ⟨rfl, hx2⟩
    simp only [go_sem, Int.reduceBEq, Int.reduceBNe, Int.reduceNeg, reduceCtorEq, Nat.reduceEqDiff, Nat.reduceAdd, Nat.reduceLeDiff, Nat.reduceMul, Nat.reduceSub, Int.reduceToNat, Int.reduceLT, Int.reduceLE]
    have h2 := h1.keep hx2
    refine gT.of (fun g2' => ?_) (fun g2' => ?_) <;> (have g2 := g2'; try simp only [decide_eq_true_eq, decide_eq_false_iff_not, beq_iff_eq, bne_iff_ne, beq_eq_false_iff_ne, ne_eq, Bool.not_eq_true', Bool.not_eq_false', bne_eq_false_iff_eq, Int.not_lt, Int.not_le] at g2)
    · rw [if_pos (by rw [S.lt_f' (by simpa using g2)]; rfl)] at he
      rw [← he]
      simp only [go_sem, Int.reduceBEq, Int.reduceBNe, Int.reduceNeg, reduceCtorEq, Nat.reduceEqDiff, Nat.reduceAdd, Nat.reduceLeDiff, Nat.reduceMul, Nat.reduceSub, Int.reduceToNat, Int.reduceLT, Int.reduceLE, g2']
      exact ⟨⟨_, rfl⟩, h2⟩
    · rw [if_neg (by rw [S.lt_t (by simpa using g2)]; simp)] at he
      obtain ⟨n1, n2, t1, t2, h5⟩ := h2.sw c1 c0
      simp only [go_sem, Int.reduceBEq, Int.reduceBNe, Int.reduceNeg, reduceCtorEq, Nat.reduceEqDiff, Nat.reduceAdd, Nat.reduceLeDiff, Nat.reduceMul, Nat.reduceSub, Int.reduceToNat, Int.reduceLT, Int.reduceLE, g2', e1, S.ix c1, S.ix c0, h2.ld c1, h2.ld c0, t1, t2, nadd1 (show k < 4000000 by omega)]
      exact ⟨b - (k + 1), by omega, k + 1, _, rfl, by omega, by omega, rfl, h5, he⟩
  · rw [if_neg (by omega)] at he
    rw [← he]
    simp only [go_sem, Int.reduceBEq, Int.reduceBNe, Int.reduceNeg, reduceCtorEq, Nat.reduceEqDiff, Nat.reduceAdd, Nat.reduceLeDiff, Nat.reduceMul, Nat.reduceSub, Int.reduceToNat, Int.reduceLT, Int.reduceLE, g1']
    exact ⟨⟨_, rfl⟩, h1⟩

theorem so_pins {a b : Nat} (h : S.Row m d) (hb : b ≤ S.n) (hab : a < b) : WC R F.slices_partialInsertionSortCmpFunc_api_Want [S.sv, .int .i64 a, .int .i64 b, S.cv] m fun r m' =>
    r = .bool (partialInsertionSort S.lt d a b).2 ∧ S.Row m' (partialInsertionSort S.lt d a b).1 := by
  refine WC.of R.slices_partialInsertionSortCmpFunc_api_Want rfl ?_
  have hn := S.small
  simp only [RC.slices_partialInsertionSortCmpFunc_api_Want, go_sem, Int.reduceBEq, Int.reduceBNe, Int.reduceNeg, reduceCtorEq, Nat.reduceEqDiff, Nat.reduceAdd, Nat.reduceLeDiff, Nat.reduceMul, Nat.reduceSub, Int.reduceToNat, Int.reduceLT, Int.reduceLE, nadd1 (show a < 4000000 by omega)]
  refine WL.of (fun r e m' => ∃ (s i : Nat) (d' : Array α), r = s ∧ s ≤ 5 ∧ a < i ∧ i ≤ b ∧ e = [(0, S.sv), (1, .int .i64 a), (2, .int .i64 b), (3, S.cv), (9, .int .i64 i), (10, .int .i64 (5 - s : Nat))] ∧ S.Row m' d' ∧ partialIns S.lt a b s i d' = partialInsertionSort S.lt d a b) 5
    ⟨5, a + 1, d, rfl, by omega, by omega, by omega, by simp only [go_sem, Int.reduceBEq, Int.reduceBNe, Int.reduceNeg, reduceCtorEq, Nat.reduceEqDiff, Nat.reduceAdd, Nat.reduceLeDiff, Nat.reduceMul, Nat.reduceSub, Int.reduceToNat, Int.reduceLT, Int.reduceLE] <;> rfl, h, rfl⟩ ?_
  rintro n0 _ m1 ⟨s, i, d', hr, hs, hai, hib, rfl, h1, he⟩
  simp only [RB.slices_partialInsertionSortCmpFunc_api_Want_4, go_sem, Int.reduceBEq, Int.reduceBNe, Int.reduceNeg, reduceCtorEq, Nat.reduceEqDiff, Nat.reduceAdd, Nat.reduceLeDiff, Nat.reduceMul, Nat.reduceSub, Int.reduceToNat, Int.reduceLT, Int.reduceLE]
  refine gT.of (fun g1' => ?_) (fun g1' => ?_) <;> (have g1 := g1'; try simp only [decide_eq_true_eq, decide_eq_false_iff_not, beq_iff_eq, bne_iff_ne, beq_eq_false_iff_ne, ne_eq, Bool.not_eq_true', Bool.not_eq_false', bne_eq_false_iff_eq, Int.not_lt, Int.not_le] at g1)
  · obtain ⟨s, rfl⟩ : ∃ s', s = s' + 1 := ⟨s - 1, by omega⟩
    simp only [go_sem, Int.reduceBEq, Int.reduceBNe, Int.reduceNeg, reduceCtorEq, Nat.reduceEqDiff, Nat.reduceAdd, Nat.reduceLeDiff, Nat.reduceMul, Nat.reduceSub, Int.reduceToNat, Int.reduceLT, Int.reduceLE, g1']
    refine WL.mono (so_pi3 h1 hb (by omega) hib) ?_
    rintro _ _ m2 ⟨rfl, rfl, h2, p1, p2⟩
    simp only [partialIns] at he
    generalize scanSorted S.lt d' b i = i2 at p1 p2 he ⊢
    simp only [go_sem, Int.reduceBEq, Int.reduceBNe, Int.reduceNeg, reduceCtorEq, Nat.reduceEqDiff, Nat.reduceAdd, Nat.reduceLeDiff, Nat.reduceMul, Nat.reduceSub, Int.reduceToNat, Int.reduceLT, Int.reduceLE]
    refine gT.of (fun g2' => ?_) (fun g2' => ?_) <;> (have g2 := g2'; try simp only [decide_eq_true_eq, decide_eq_false_iff_not, beq_iff_eq, bne_iff_ne, beq_eq_false_iff_ne, ne_eq, Bool.not_eq_true', Bool.not_eq_false', bne_eq_false_iff_eq, Int.not_lt, Int.not_le] at g2)
    · rw [if_pos (by omega)] at he
      simp only [go_sem, Int.reduceBEq, Int.reduceBNe, Int.reduceNeg, reduceCtorEq, Nat.reduceEqDiff, Nat.reduceAdd, Nat.reduceLeDiff, Nat.reduceMul, Nat.reduceSub, Int.reduceToNat, Int.reduceLT, Int.reduceLE, g2']
      rw [← he]
      exact ⟨rfl, h2⟩
    · rw [if_neg (by omega)] at he
      simp only [go_sem, Int.reduceBEq, Int.reduceBNe, Int.reduceNeg, reduceCtorEq, Nat.reduceEqDiff, Nat.reduceAdd, Nat.reduceLeDiff, Nat.reduceMul, Nat.reduceSub, Int.reduceToNat, Int.reduceLT, Int.reduceLE, g2', nsub (show a ≤ b by omega) (show b < 4000000 by omega)]
      refine gT.of (fun g3' => ?_) (fun g3' => ?_) <;> (have g3 := g3'; try simp only [decide_eq_true_eq, decide_eq_false_iff_not, beq_iff_eq, bne_iff_ne, beq_eq_false_iff_ne, ne_eq, Bool.not_eq_true', Bool.not_eq_false', bne_eq_false_iff_eq, Int.not_lt, Int.not_le] at g3)
      · rw [if_pos (by omega)] at he
        simp only [go_sem, Int.reduceBEq, Int.reduceBNe, Int.reduceNeg, reduceCtorEq, Nat.reduceEqDiff, Nat.reduceAdd, Nat.reduceLeDiff, Nat.reduceMul, Nat.reduceSub, Int.reduceToNat, Int.reduceLT, Int.reduceLE, g3']
        rw [← he]
        exact ⟨rfl, h2⟩
      · rw [if_neg (by omega)] at he
        have c1 : i2 < S.n := by omega
        have c0 : i2 - 1 < S.n := by omega
        have e1 := nsub1 (show 0 < i2 by omega) (show i2 < 4000000 by omega)
        obtain ⟨n1, n2, t1, t2, h5⟩ := h2.sw c1 c0
        simp only [go_sem, Int.reduceBEq, Int.reduceBNe, Int.reduceNeg, reduceCtorEq, Nat.reduceEqDiff, Nat.reduceAdd, Nat.reduceLeDiff, Nat.reduceMul, Nat.reduceSub, Int.reduceToNat, Int.reduceLT, Int.reduceLE, g3', e1, S.ix c1, S.ix c0, h2.ld c1, h2.ld c0, t1, t2, nsub (show a ≤ i2 by omega) (show i2 < 4000000 by omega)]
        have se : IntKind.wrap .i64 (((5 - (s + 1) : Nat) : Int) + 1) = ((5 - s : Nat) : Int) := by rw [wrap_i64 (by omega) (by omega)]; omega
        refine gT.of (fun g4' => ?_) (fun g4' => ?_) <;> (have g4 := g4'; try simp only [decide_eq_true_eq, decide_eq_false_iff_not, beq_iff_eq, bne_iff_ne, beq_eq_false_iff_ne, ne_eq, Bool.not_eq_true', Bool.not_eq_false', bne_eq_false_iff_eq, Int.not_lt, Int.not_le] at g4)
        · rw [if_pos (show i2 - a ≥ 2 by omega)] at he
          simp only [go_sem, Int.reduceBEq, Int.reduceBNe, Int.reduceNeg, reduceCtorEq, Nat.reduceEqDiff, Nat.reduceAdd, Nat.reduceLeDiff, Nat.reduceMul, Nat.reduceSub, Int.reduceToNat, Int.reduceLT, Int.reduceLE, g4', e1]
          refine WL.mono (so_pi2 h5 c0) ?_
          rintro _ _ m3 ⟨rfl, ⟨rest, rfl⟩, h6⟩
          simp only [go_sem, Int.reduceBEq, Int.reduceBNe, Int.reduceNeg, reduceCtorEq, Nat.reduceEqDiff, Nat.reduceAdd, Nat.reduceLeDiff, Nat.reduceMul, Nat.reduceSub, Int.reduceToNat, Int.reduceLT, Int.reduceLE, nsub (show i2 ≤ b by omega) (show b < 4000000 by omega)]
          refine gT.of (fun g5' => ?_) (fun g5' => ?_) <;> (have g5 := g5'; try simp only [decide_eq_true_eq, decide_eq_false_iff_not, beq_iff_eq, bne_iff_ne, beq_eq_false_iff_ne, ne_eq, Bool.not_eq_true', Bool.not_eq_false', bne_eq_false_iff_eq, Int.not_lt, Int.not_le] at g5)
          · rw [if_pos (show b - i2 ≥ 2 by omega)] at he
            simp only [go_sem, Int.reduceBEq, Int.reduceBNe, Int.reduceNeg, reduceCtorEq, Nat.reduceEqDiff, Nat.reduceAdd, Nat.reduceLeDiff, Nat.reduceMul, Nat.reduceSub, Int.reduceToNat, Int.reduceLT, Int.reduceLE, g5', nadd1 (show i2 < 4000000 by omega)]
            refine WL.mono (so_pi1 h6 (by omega) hb (by omega)) ?_
            rintro _ _ m4 ⟨rfl, ⟨rest, rfl⟩, h7⟩
            simp only [go_sem, Int.reduceBEq, Int.reduceBNe, Int.reduceNeg, reduceCtorEq, Nat.reduceEqDiff, Nat.reduceAdd, Nat.reduceLeDiff, Nat.reduceMul, Nat.reduceSub, Int.reduceToNat, Int.reduceLT, Int.reduceLE, se]
            exact ⟨s, by omega, s, i2, _, rfl, by omega, by omega, by omega, rfl, h7, he⟩
          · rw [if_neg (show ¬ b - i2 ≥ 2 by omega)] at he
            simp only [go_sem, Int.reduceBEq, Int.reduceBNe, Int.reduceNeg, reduceCtorEq, Nat.reduceEqDiff, Nat.reduceAdd, Nat.reduceLeDiff, Nat.reduceMul, Nat.reduceSub, Int.reduceToNat, Int.reduceLT, Int.reduceLE, g5', se]
            exact ⟨s, by omega, s, i2, _, rfl, by omega, by omega, by omega, rfl, h6, he⟩
        · rw [if_neg (show ¬ i2 - a ≥ 2 by omega)] at he
          simp only [go_sem, Int.reduceBEq, Int.reduceBNe, Int.reduceNeg, reduceCtorEq, Nat.reduceEqDiff, Nat.reduceAdd, Nat.reduceLeDiff, Nat.reduceMul, Nat.reduceSub, Int.reduceToNat, Int.reduceLT, Int.reduceLE, g4', nsub (show i2 ≤ b by omega) (show b < 4000000 by omega)]
          refine gT.of (fun g5' => ?_) (fun g5' => ?_) <;> (have g5 := g5'; try simp only [decide_eq_true_eq, decide_eq_false_iff_not, beq_iff_eq, bne_iff_ne, beq_eq_false_iff_ne, ne_eq, Bool.not_eq_true', Bool.not_eq_false', bne_eq_false_iff_eq, Int.not_lt, Int.not_le] at g5)
          · rw [if_pos (show b - i2 ≥ 2 by omega)] at he
            simp only [go_sem, Int.reduceBEq, Int.reduceBNe, Int.reduceNeg, reduceCtorEq, Nat.reduceEqDiff, Nat.reduceAdd, Nat.reduceLeDiff, Nat.reduceMul, Nat.reduceSub, Int.reduceToNat, Int.reduceLT, Int.reduceLE, g5', nadd1 (show i2 < 4000000 by omega)]
            refine WL.mono (so_pi1 h5 (by omega) hb (by omega)) ?_
            rintro _ _ m4 ⟨rfl, ⟨rest, rfl⟩, h7⟩
            simp only [go_sem, Int.reduceBEq, Int.reduceBNe, Int.reduceNeg, reduceCtorEq, Nat.reduceEqDiff, Nat.reduceAdd, Nat.reduceLeDiff, Nat.reduceMul, Nat.reduceSub, Int.reduceToNat, Int.reduceLT, Int.reduceLE, se]
            exact ⟨s, by omega, s, i2, _, rfl, by omega, by omega, by omega, rfl, h7, he⟩
          · rw [if_neg (show ¬ b - i2 ≥ 2 by omega)] at he
            simp only [go_sem, Int.reduceBEq, Int.reduceBNe, Int.reduceNeg, reduceCtorEq, Nat.reduceEqDiff, Nat.reduceAdd, Nat.reduceLeDiff, Nat.reduceMul, Nat.reduceSub, Int.reduceToNat, Int.reduceLT, Int.reduceLE, g5', se]
            exact ⟨s, by omega, s, i2, _, rfl, by omega, by omega, by omega, rfl, h5, he⟩
  · have hs0 : s = 0 := by omega
    subst hs0
    simp only [partialIns] at he
    simp only [go_sem, Int.reduceBEq, Int.reduceBNe, Int.reduceNeg, reduceCtorEq, Nat.reduceEqDiff, Nat.reduceAdd, Nat.reduceLeDiff, Nat.reduceMul, Nat.reduceSub, Int.reduceToNat, Int.reduceLT, Int.reduceLE, g1']
    rw [← he]
    exact ⟨rfl, h1⟩
end Go.Am


/- Sorting a row at api_Want (Order): patterns are broken. Printed out of SortT5.tmpl by sortgen.py. -/
set_option linter.unusedVariables false
set_option linter.unusedSimpArgs false
namespace Go.Am
open Go.Sort
variable {α : Type} [Inhabited α] {S : SortC R α 2} {m : Mem} {d : Array α}

set_option maxRecDepth 20000 in
theorem so_len64 {x : BitVec 64} (hx : x.toNat < 1000000) : WC R F.math_bits_Len64 [u64 x] m fun r m' => r = .int .i64 (bitsLen x.toNat : Nat) ∧ m' = m := by
  refine WC.of R.math_bits_Len64 rfl ?_
  have e32 : (4294967296#64).toNat = 4294967296 := rfl
  have e16 : (65536#64).toNat = 65536 := rfl
  have e8 : (256#64).toNat = 256 := rfl
  have s16 : (16#64).toNat = 16 := rfl
  have s8 : (8#64).toNat = 8 := rfl
  have q16 : (x >>> 16).toNat = x.toNat / 2 ^ 16 := by rw [BitVec.toNat_ushiftRight, Nat.shiftRight_eq_div_pow]
  have q8 : (x >>> 8).toNat = x.toNat / 2 ^ 8 := by rw [BitVec.toNat_ushiftRight, Nat.shiftRight_eq_div_pow]
  have g32 : decide (4294967296 ≤ x.toNat) = false := by simp; omega
  simp only [RC.math_bits_Len64, go_sem, Int.reduceBEq, Int.reduceBNe, Int.reduceNeg, reduceCtorEq, Nat.reduceEqDiff, Nat.reduceAdd, Nat.reduceLeDiff, Nat.reduceMul, Nat.reduceSub, Int.reduceToNat, Int.reduceLT, Int.reduceLE, e32, g32, e16]
  refine gT.of (fun h1' => ?_) (fun h1' => ?_) <;> (have h1 := h1'; try simp only [decide_eq_true_eq, decide_eq_false_iff_not, beq_iff_eq, bne_iff_ne, beq_eq_false_iff_ne, ne_eq, Bool.not_eq_true', Bool.not_eq_false', bne_eq_false_iff_eq, Int.not_lt, Int.not_le] at h1)
  · have c1 : x.toNat / 2 ^ 16 < 256 := by omega
    have g8 : decide (256 ≤ x.toNat / 2 ^ 16) = false := by simp; omega
    have l8 := len8 c1
    have b8 := bitsLen8 c1
    have bb := bitsLen_shr (n := x.toNat) (k := 16) h1
    have w1 : IntKind.wrap .i64 (0 + 16) = 16 := rfl
    have w2 : IntKind.wrap .i64 ((bitsLen (x.toNat / 2 ^ 16) : Nat) : Int) = (bitsLen (x.toNat / 2 ^ 16) : Nat) := wrap_i64 (by omega) (by omega)
    have w3 : IntKind.wrap .i64 (16 + (bitsLen (x.toNat / 2 ^ 16) : Nat)) = ((bitsLen x.toNat : Nat) : Int) := by rw [wrap_i64 (by omega) (by omega)]; omega
    simp only [go_sem, Int.reduceBEq, Int.reduceBNe, Int.reduceNeg, reduceCtorEq, Nat.reduceEqDiff, Nat.reduceAdd, Nat.reduceLeDiff, Nat.reduceMul, Nat.reduceSub, Int.reduceToNat, Int.reduceLT, Int.reduceLE, h1', s16, e8, q16, g8, w1, conv_u8, wrap_u8 c1, l8, conv_i64_u8, w2, w3]
  · simp only [go_sem, Int.reduceBEq, Int.reduceBNe, Int.reduceNeg, reduceCtorEq, Nat.reduceEqDiff, Nat.reduceAdd, Nat.reduceLeDiff, Nat.reduceMul, Nat.reduceSub, Int.reduceToNat, Int.reduceLT, Int.reduceLE, h1', e8]
    refine gT.of (fun h2' => ?_) (fun h2' => ?_) <;> (have h2 := h2'; try simp only [decide_eq_true_eq, decide_eq_false_iff_not, beq_iff_eq, bne_iff_ne, beq_eq_false_iff_ne, ne_eq, Bool.not_eq_true', Bool.not_eq_false', bne_eq_false_iff_eq, Int.not_lt, Int.not_le] at h2)
    · have c1 : x.toNat / 2 ^ 8 < 256 := by omega
      have l8 := len8 c1
      have b8 := bitsLen8 c1
      have bb := bitsLen_shr (n := x.toNat) (k := 8) h2
      have w1 : IntKind.wrap .i64 (0 + 8) = 8 := rfl
      have w2 : IntKind.wrap .i64 ((bitsLen (x.toNat / 2 ^ 8) : Nat) : Int) = (bitsLen (x.toNat / 2 ^ 8) : Nat) := wrap_i64 (by omega) (by omega)
      have w3 : IntKind.wrap .i64 (8 + (bitsLen (x.toNat / 2 ^ 8) : Nat)) = ((bitsLen x.toNat : Nat) : Int) := by rw [wrap_i64 (by omega) (by omega)]; omega
      simp only [go_sem, Int.reduceBEq, Int.reduceBNe, Int.reduceNeg, reduceCtorEq, Nat.reduceEqDiff, Nat.reduceAdd, Nat.reduceLeDiff, Nat.reduceMul, Nat.reduceSub, Int.reduceToNat, Int.reduceLT, Int.reduceLE, h2', s8, w1, conv_u8, q8, wrap_u8 c1, l8, conv_i64_u8, w2, w3]
    · have c1 : x.toNat < 256 := by omega
      have l8 := len8 c1
      have b8 := bitsLen8 c1
      have w2 : IntKind.wrap .i64 ((bitsLen x.toNat : Nat) : Int) = (bitsLen x.toNat : Nat) := wrap_i64 (by omega) (by omega)
      have w3 : IntKind.wrap .i64 (0 + (bitsLen x.toNat : Nat)) = ((bitsLen x.toNat : Nat) : Int) := by rw [wrap_i64 (by omega) (by omega)]; omega
      simp only [go_sem, Int.reduceBEq, Int.reduceBNe, Int.reduceNeg, reduceCtorEq, Nat.reduceEqDiff, Nat.reduceAdd, Nat.reduceLeDiff, Nat.reduceMul, Nat.reduceSub, Int.reduceToNat, Int.reduceLT, Int.reduceLE, h2', conv_u8, wrap_u8 c1, l8, conv_i64_u8, w2, w3]

theorem so_len {x : BitVec 64} (hx : x.toNat < 1000000) : WC R F.math_bits_Len [u64 x] m fun r m' => r = .int .i64 (bitsLen x.toNat : Nat) ∧ m' = m := by
  refine WC.of R.math_bits_Len rfl ?_
  simp only [RC.math_bits_Len, go_sem, Int.reduceBEq, Int.reduceBNe, Int.reduceNeg, reduceCtorEq, Nat.reduceEqDiff, Nat.reduceAdd, Nat.reduceLeDiff, Nat.reduceMul, Nat.reduceSub, Int.reduceToNat, Int.reduceLT, Int.reduceLE]
  refine gC.of (so_len64 hx) ?_
  rintro _ m1 ⟨rfl, hm⟩
  subst hm
  simp only [go_sem, Int.reduceBEq, Int.reduceBNe, Int.reduceNeg, reduceCtorEq, Nat.reduceEqDiff, Nat.reduceAdd, Nat.reduceLeDiff, Nat.reduceMul, Nat.reduceSub, Int.reduceToNat, Int.reduceLT, Int.reduceLE]

theorem so_pow2 {n : Nat} (hx : n < 1000000) : WC R F.slices_nextPowerOfTwo [.int .i64 (n : Nat)] m fun r m' => r = u64 (1#64 <<< bitsLen n) ∧ m' = m := by
  refine WC.of R.slices_nextPowerOfTwo rfl ?_
  have e : (BitVec.ofInt 64 (n : Int)).toNat = n := by rw [BitVec.ofInt_natCast, BitVec.toNat_ofNat, Nat.mod_eq_of_lt (by omega)]
  simp only [RC.slices_nextPowerOfTwo, go_sem, Int.reduceBEq, Int.reduceBNe, Int.reduceNeg, reduceCtorEq, Nat.reduceEqDiff, Nat.reduceAdd, Nat.reduceLeDiff, Nat.reduceMul, Nat.reduceSub, Int.reduceToNat, Int.reduceLT, Int.reduceLE]
  refine gC.of (so_len (x := BitVec.ofInt 64 (n : Int)) (by omega)) ?_
  rintro _ m1 ⟨rfl, hm⟩
  subst hm
  rw [e]
  have h0 : (0 : Int) ≤ (bitsLen n : Nat) := by omega
  simp only [go_sem, Int.reduceBEq, Int.reduceBNe, Int.reduceNeg, reduceCtorEq, Nat.reduceEqDiff, Nat.reduceAdd, Nat.reduceLeDiff, Nat.reduceMul, Nat.reduceSub, Int.reduceToNat, Int.reduceLT, Int.reduceLE, h0, Int.toNat_natCast]

structure so_Gen (m : Mem) (q : Nat) (x : BitVec 64) : Prop where
  at_ : m.blk q = some (.cells [u64 x] (some 1))
  lt : q < m.next
theorem so_Gen.ld {q : Nat} {x : BitVec 64} (h : so_Gen m q x) : aLoad false 1 m (.pointer (some ⟨q, 0, none⟩)) = some (u64 x) := by
  rw [load_w, h.at_]; rfl
theorem so_Gen.st {q : Nat} {x : BitVec 64} (h : so_Gen m q x) (y : BitVec 64) : ∃ m', aStore 1 m (.pointer (some ⟨q, 0, none⟩)) (u64 y) = some m' ∧ so_Gen m' q y ∧ Upd m m' [q] := by
  refine ⟨m.set q (some (.cells [u64 y] (some 1))), ?_, ⟨by simp [Mem.set], h.lt⟩, Upd.set (by simp)⟩
  rw [store_b, h.at_]
  rfl

theorem so_next {q : Nat} {r : UInt64} (h : so_Gen m q r.toBitVec) : WC R F.slices_xorshift_Next [.pointer (some ⟨q, 0, none⟩)] m fun v m' => v = u64 (xorNext r).toBitVec ∧ so_Gen m' q (xorNext r).toBitVec ∧ Upd m m' [q] := by
  refine WC.of R.slices_xorshift_Next rfl ?_
  have e13 : (13#64).toNat = 13 := rfl
  have e7 : (7#64).toNat = 7 := rfl
  have e17 : (17#64).toNat = 17 := rfl
  rw [xor_bv]
  obtain ⟨m1, t1, h1, u1⟩ := h.st (r.toBitVec ^^^ r.toBitVec <<< 13)
  generalize hy : r.toBitVec ^^^ r.toBitVec <<< 13 = y at t1 h1 ⊢
  obtain ⟨m2, t2, h2, u2⟩ := h1.st (y ^^^ y >>> 7)
  generalize hz : y ^^^ y >>> 7 = z at t2 h2 ⊢
  obtain ⟨m3, t3, h3, u3⟩ := h2.st (z ^^^ z <<< 17)
  simp only [RC.slices_xorshift_Next, go_sem, Int.reduceBEq, Int.reduceBNe, Int.reduceNeg, reduceCtorEq, Nat.reduceEqDiff, Nat.reduceAdd, Nat.reduceLeDiff, Nat.reduceMul, Nat.reduceSub, Int.reduceToNat, Int.reduceLT, Int.reduceLE, h.ld, e13, hy, t1, h1.ld, e7, hz, t2, h2.ld, e17, t3, h3.ld]
  exact ⟨h3, (u1.trans u2 (fun _ h => h) (fun _ h => .inl h)).trans u3 (fun _ h => h) (fun _ h => .inl h)⟩

set_option maxHeartbeats 2000000 in
theorem so_brk {a b : Nat} {cv : Value} (h : S.Row m d) (hb : b ≤ S.n) (hab : a ≤ b) (hm : S.m0.next ≤ m.next) : WC R F.slices_breakPatternsCmpFunc_api_Want [S.sv, .int .i64 a, .int .i64 b, cv] m fun r m' => S.Row m' (breakPatterns d a b) := by
  refine WC.of R.slices_breakPatternsCmpFunc_api_Want rfl ?_
  have hn := S.small
  simp only [RC.slices_breakPatternsCmpFunc_api_Want, go_sem, Int.reduceBEq, Int.reduceBNe, Int.reduceNeg, reduceCtorEq, Nat.reduceEqDiff, Nat.reduceAdd, Nat.reduceLeDiff, Nat.reduceMul, Nat.reduceSub, Int.reduceToNat, Int.reduceLT, Int.reduceLE, nsub hab (show b < 4000000 by omega)]
  refine gT.of (fun g1' => ?_) (fun g1' => ?_) <;> (have g1 := g1'; try simp only [decide_eq_true_eq, decide_eq_false_iff_not, beq_iff_eq, bne_iff_ne, beq_eq_false_iff_ne, ne_eq, Bool.not_eq_true', Bool.not_eq_false', bne_eq_false_iff_eq, Int.not_lt, Int.not_le] at g1)
  · rw [bpN_eq (by omega)]
    have eof : BitVec.ofInt 64 ((b - a : Nat) : Int) = (UInt64.ofNat (b - a)).toBitVec := by rw [BitVec.ofInt_natCast]; rfl
    have i1 : (b - a) / 4 ≤ b - a := Nat.div_le_self _ _
    have hx0 : Ext m (m.new (.cells [u64 0#64] (some 1))) := Ext.new
    have hg0 : so_Gen (m.new (.cells [u64 0#64] (some 1))) m.next 0#64 := ⟨by simp [Mem.new], by simp [Mem.new]⟩
    obtain ⟨m1, t0, hg1, u1⟩ := hg0.st (UInt64.ofNat (b - a)).toBitVec
    have hx1 : Ext m m1 := Upd.ext_of hx0 u1 (by simp)
    simp only [go_sem, Int.reduceBEq, Int.reduceBNe, Int.reduceNeg, reduceCtorEq, Nat.reduceEqDiff, Nat.reduceAdd, Nat.reduceLeDiff, Nat.reduceMul, Nat.reduceSub, Int.reduceToNat, Int.reduceLT, Int.reduceLE, g1', eof, conv_u, t0]
    have hq : S.b ≠ m.next := by have := h.lt; omega
    refine gC.of (so_pow2 (n := b - a) (by omega)) ?_
    rintro _ m2 ⟨rfl, hmm⟩
    subst hmm
    have p2 := two_pow_bitsLen_le (n := b - a) (by omega)
    have p0 : 0 < 2 ^ bitsLen (b - a) := Nat.two_pow_pos _
    have em : (1#64 <<< bitsLen (b - a)).toNat = 1 <<< bitsLen (b - a) := by
      rw [BitVec.toNat_shiftLeft]
      have e1 : (1#64).toNat = 1 := rfl
      rw [e1, Nat.one_shiftLeft, Nat.mod_eq_of_lt (by omega)]
    have em1 : (1#64 <<< bitsLen (b - a) - 1#64).toNat = (1 <<< bitsLen (b - a)) - 1 := by
      rw [BitVec.toNat_sub, em, Nat.one_shiftLeft]
      have e1 : (1#64).toNat = 1 := rfl
      rw [e1]; omega
    rw [← Nat.one_shiftLeft] at p2 p0
    generalize hM : 1#64 <<< bitsLen (b - a) = M at em em1 ⊢
    generalize hK : 1 <<< bitsLen (b - a) = K at em em1 p2 p0 ⊢
    clear hM hK em
    clear u1 hx0 hg0
    obtain ⟨i0, hi0⟩ : ∃ i0, i0 = a + (b - a) / 4 * 2 - 1 := ⟨_, rfl⟩
    have hi1 : a + (b - a) / 4 * 2 = i0 + 1 := by omega
    have hi2 : i0 + 3 ≤ b := by omega
    rw [← hi0]
    simp only [go_sem, Int.reduceBEq, Int.reduceBNe, Int.reduceNeg, reduceCtorEq, Nat.reduceEqDiff, Nat.reduceAdd, Nat.reduceLeDiff, Nat.reduceMul, Nat.reduceSub, Int.reduceToNat, Int.reduceLT, Int.reduceLE, nq4 (show b - a < 4000000 by omega), nm2 (show (b - a) / 4 < 1000000 by omega), nadd (show a + (b - a) / 4 * 2 < 4000000 by omega), nsub1 (show 0 < a + (b - a) / 4 * 2 by omega) (show a + (b - a) / 4 * 2 < 4000000 by omega), ← hi0]
    refine ⟨by omega, ?_⟩
    generalize hfin : bpN a (b - a) K 3 (UInt64.ofNat (b - a)) d i0 = fin
    refine WL.of (fun r e m' => ∃ (k : Nat) (s : UInt64) (d' : Array α), r = k ∧ k ≤ 3 ∧ e = [(0, S.sv), (1, .int .i64 a), (8, .int .i64 (b - a : Nat)), (9, .pointer (some ⟨m.next, 0, none⟩)), (10, u64 M), (11, .int .i64 (i0 + (3 - k) : Nat))] ∧ S.Row m' d' ∧ so_Gen m' m.next s.toBitVec ∧
        bpN a (b - a) K k s d' (i0 + (3 - k)) = fin) 3
      ⟨3, _, d, rfl, by omega, by simp only [go_sem, Int.reduceBEq, Int.reduceBNe, Int.reduceNeg, reduceCtorEq, Nat.reduceEqDiff, Nat.reduceAdd, Nat.reduceLeDiff, Nat.reduceMul, Nat.reduceSub, Int.reduceToNat, Int.reduceLT, Int.reduceLE] <;> rfl, h.keep hx1, hg1, hfin⟩ ?_
    rintro n0 _ m3 ⟨k, s, d', hr, hk, rfl, h3, hg3, he⟩
    simp only [RB.slices_breakPatternsCmpFunc_api_Want_1, go_sem, Int.reduceBEq, Int.reduceBNe, Int.reduceNeg, reduceCtorEq, Nat.reduceEqDiff, Nat.reduceAdd, Nat.reduceLeDiff, Nat.reduceMul, Nat.reduceSub, Int.reduceToNat, Int.reduceLT, Int.reduceLE, nq4 (show b - a < 4000000 by omega), nm2 (show (b - a) / 4 < 1000000 by omega), nadd (show a + (b - a) / 4 * 2 < 4000000 by omega), nadd1 (show a + (b - a) / 4 * 2 < 4000000 by omega)]
    refine ⟨by omega, ?_⟩
    refine gT.of (fun g2' => ?_) (fun g2' => ?_) <;> (have g2 := g2'; try simp only [decide_eq_true_eq, decide_eq_false_iff_not, beq_iff_eq, bne_iff_ne, beq_eq_false_iff_ne, ne_eq, Bool.not_eq_true', Bool.not_eq_false', bne_eq_false_iff_eq, Int.not_lt, Int.not_le] at g2)
    · obtain ⟨k, rfl⟩ : ∃ k', k = k' + 1 := ⟨k - 1, by omega⟩
      simp only [go_sem, Int.reduceBEq, Int.reduceBNe, Int.reduceNeg, reduceCtorEq, Nat.reduceEqDiff, Nat.reduceAdd, Nat.reduceLeDiff, Nat.reduceMul, Nat.reduceSub, Int.reduceToNat, Int.reduceLT, Int.reduceLE, g2']
      refine gC.of (so_next hg3) ?_
      rintro _ m4 ⟨rfl, hg4, hu4⟩
      have h4 := h3.so_other hu4 hq hm
      simp only [bpN, breakStep] at he
      generalize xorNext s = s' at hg4 he ⊢
      have ea : (s'.toBitVec &&& (M - 1#64)).toNat = s'.toNat &&& (K - 1) := by rw [BitVec.toNat_and, em1]; rfl
      have hle : s'.toNat &&& (K - 1) ≤ K - 1 := Nat.and_le_right
      generalize s'.toNat &&& (K - 1) = o at ea he hle
      have wo : IntKind.wrap .i64 ((o : Nat) : Int) = (o : Nat) := wrap_i64 (by omega) (by omega)
      have c0 : i0 + (3 - (k + 1)) < S.n := by omega
      have es : i0 + (3 - (k + 1)) + 1 = i0 + (3 - k) := by omega
      have n1 := nadd1 (show i0 + (3 - (k + 1)) < 4000000 by omega)
      rw [es] at n1 he
      simp only [go_sem, Int.reduceBEq, Int.reduceBNe, Int.reduceNeg, reduceCtorEq, Nat.reduceEqDiff, Nat.reduceAdd, Nat.reduceLeDiff, Nat.reduceMul, Nat.reduceSub, Int.reduceToNat, Int.reduceLT, Int.reduceLE, ea, wo]
      refine gT.of (fun g3' => ?_) (fun g3' => ?_) <;> (have g3 := g3'; try simp only [decide_eq_true_eq, decide_eq_false_iff_not, beq_iff_eq, bne_iff_ne, beq_eq_false_iff_ne, ne_eq, Bool.not_eq_true', Bool.not_eq_false', bne_eq_false_iff_eq, Int.not_lt, Int.not_le] at g3)
      · rw [if_pos (by omega)] at he
        have c1 : a + (o - (b - a)) < S.n := by omega
        obtain ⟨n1', n2', t1, t2, h5⟩ := h4.sw c0 c1
        simp only [go_sem, Int.reduceBEq, Int.reduceBNe, Int.reduceNeg, reduceCtorEq, Nat.reduceEqDiff, Nat.reduceAdd, Nat.reduceLeDiff, Nat.reduceMul, Nat.reduceSub, Int.reduceToNat, Int.reduceLT, Int.reduceLE, g3', nsub (show b - a ≤ o by omega) (show o < 4000000 by omega), nadd (show a + (o - (b - a)) < 4000000 by omega), S.ix c0, S.ix c1, h4.ld c0, h4.ld c1, t1, t2, n1]
        refine ⟨k, by omega, k, _, _, rfl, by omega, rfl, h5, ?_, he⟩
        exact ⟨by rw [(aStore_keep t2) _ (by simpa using fun e => hq e.symm), (aStore_keep t1) _ (by simpa using fun e => hq e.symm)]; exact hg4.at_, by rw [aStore_next t2, aStore_next t1]; exact hg4.lt⟩
      · rw [if_neg (by omega)] at he
        have c1 : a + o < S.n := by omega
        obtain ⟨n1', n2', t1, t2, h5⟩ := h4.sw c0 c1
        simp only [go_sem, Int.reduceBEq, Int.reduceBNe, Int.reduceNeg, reduceCtorEq, Nat.reduceEqDiff, Nat.reduceAdd, Nat.reduceLeDiff, Nat.reduceMul, Nat.reduceSub, Int.reduceToNat, Int.reduceLT, Int.reduceLE, g3', nadd (show a + o < 4000000 by omega), S.ix c0, S.ix c1, h4.ld c0, h4.ld c1, t1, t2, n1]
        refine ⟨k, by omega, k, _, _, rfl, by omega, rfl, h5, ?_, he⟩
        exact ⟨by rw [(aStore_keep t2) _ (by simpa using fun e => hq e.symm), (aStore_keep t1) _ (by simpa using fun e => hq e.symm)]; exact hg4.at_, by rw [aStore_next t2, aStore_next t1]; exact hg4.lt⟩
    · have hk0 : k = 0 := by omega
      subst hk0
      simp only [bpN] at he
      simp only [go_sem, Int.reduceBEq, Int.reduceBNe, Int.reduceNeg, reduceCtorEq, Nat.reduceEqDiff, Nat.reduceAdd, Nat.reduceLeDiff, Nat.reduceMul, Nat.reduceSub, Int.reduceToNat, Int.reduceLT, Int.reduceLE, g2']
      rw [← he]
      exact h3
  · have e : breakPatterns d a b = d := by
      unfold breakPatterns
      simp only
      rw [if_neg (by omega)]
    rw [e]
    simp only [go_sem, Int.reduceBEq, Int.reduceBNe, Int.reduceNeg, reduceCtorEq, Nat.reduceEqDiff, Nat.reduceAdd, Nat.reduceLeDiff, Nat.reduceMul, Nat.reduceSub, Int.reduceToNat, Int.reduceLT, Int.reduceLE, g1']
    exact h
end Go.Am


/- Sorting a row at api_Want (Order): the whole. Printed out of SortT6.tmpl by sortgen.py. -/
set_option linter.unusedVariables false
set_option linter.unusedSimpArgs false
namespace Go.Am
open Go.Sort
variable {α : Type} [Inhabited α] {S : SortC R α 2} {m : Mem} {d : Array α}

theorem so_hint2 {h : Hint} : (hintN h == 2) = decide (h = .decreasing) := by cases h <;> rfl
theorem so_hint1 {h : Hint} : (hintN h == 1) = decide (h = .increasing) := by cases h <;> rfl

set_option maxHeartbeats 4000000 in
theorem so_pdq : ∀ (N : Nat) (m : Mem) (d : Array α) (a b limit : Nat), b - a ≤ N → S.Row m d → b ≤ S.n → a ≤ b → limit < 1000000 →
    WC R F.slices_pdqsortCmpFunc_api_Want [S.sv, .int .i64 a, .int .i64 b, .int .i64 limit, S.cv] m fun r m' => S.Row m' (pdq S.lt d a b limit true true) := by
  intro N
  induction N using Nat.strongRecOn with
  | _ N ih =>
  intro m d a b limit hN h hb hab hlim
  refine WC.of R.slices_pdqsortCmpFunc_api_Want rfl ?_
  have hn := S.small
  simp only [RC.slices_pdqsortCmpFunc_api_Want, go_sem, Int.reduceBEq, Int.reduceBNe, Int.reduceNeg, reduceCtorEq, Nat.reduceEqDiff, Nat.reduceAdd, Nat.reduceLeDiff, Nat.reduceMul, Nat.reduceSub, Int.reduceToNat, Int.reduceLT, Int.reduceLE]
  generalize hfin : pdq S.lt d a b limit true true = fin
  refine WL.of (fun r e m' => ∃ (a' b' lim : Nat) (wb wp : Bool) (d' : Array α), r = b' - a' ∧ b' - a' ≤ N ∧ b' ≤ S.n ∧ a' ≤ b' ∧ lim < 1000000 ∧ e = [(0, S.sv), (1, .int .i64 a'), (2, .int .i64 b'), (3, .int .i64 lim), (4, S.cv), (10, .bool wb), (11, .bool wp)] ∧ S.Row m' d' ∧ pdq S.lt d' a' b' lim wb wp = fin) (b - a)
    ⟨a, b, limit, true, true, d, rfl, hN, hb, hab, hlim, by simp only [go_sem, Int.reduceBEq, Int.reduceBNe, Int.reduceNeg, reduceCtorEq, Nat.reduceEqDiff, Nat.reduceAdd, Nat.reduceLeDiff, Nat.reduceMul, Nat.reduceSub, Int.reduceToNat, Int.reduceLT, Int.reduceLE] <;> rfl, h, hfin⟩ ?_
  clear hfin h hb hab hlim hN
  rintro n0 _ m1 ⟨a', b', lim, wb, wp, d', hr, hN, hb, hab, hlim, rfl, h1, he⟩
  simp only [RB.slices_pdqsortCmpFunc_api_Want_1, go_sem, Int.reduceBEq, Int.reduceBNe, Int.reduceNeg, reduceCtorEq, Nat.reduceEqDiff, Nat.reduceAdd, Nat.reduceLeDiff, Nat.reduceMul, Nat.reduceSub, Int.reduceToNat, Int.reduceLT, Int.reduceLE, nsub hab (show b' < 4000000 by omega)]
  refine gT.of (fun g1' => ?_) (fun g1' => ?_) <;> (have g1 := g1'; try simp only [decide_eq_true_eq, decide_eq_false_iff_not, beq_iff_eq, bne_iff_ne, beq_eq_false_iff_ne, ne_eq, Bool.not_eq_true', Bool.not_eq_false', bne_eq_false_iff_eq, Int.not_lt, Int.not_le] at g1)
  · rw [pdq_small (by omega)] at he
    simp only [go_sem, Int.reduceBEq, Int.reduceBNe, Int.reduceNeg, reduceCtorEq, Nat.reduceEqDiff, Nat.reduceAdd, Nat.reduceLeDiff, Nat.reduceMul, Nat.reduceSub, Int.reduceToNat, Int.reduceLT, Int.reduceLE, g1']
    refine gC.of (so_ins h1 hb hab) ?_
    rintro _ m2 h2
    rw [he] at h2
    simp only [go_sem, Int.reduceBEq, Int.reduceBNe, Int.reduceNeg, reduceCtorEq, Nat.reduceEqDiff, Nat.reduceAdd, Nat.reduceLeDiff, Nat.reduceMul, Nat.reduceSub, Int.reduceToNat, Int.reduceLT, Int.reduceLE]
    exact h2
  · simp only [go_sem, Int.reduceBEq, Int.reduceBNe, Int.reduceNeg, reduceCtorEq, Nat.reduceEqDiff, Nat.reduceAdd, Nat.reduceLeDiff, Nat.reduceMul, Nat.reduceSub, Int.reduceToNat, Int.reduceLT, Int.reduceLE, g1']
    refine gT.of (fun g2' => ?_) (fun g2' => ?_) <;> (have g2 := g2'; try simp only [decide_eq_true_eq, decide_eq_false_iff_not, beq_iff_eq, bne_iff_ne, beq_eq_false_iff_ne, ne_eq, Bool.not_eq_true', Bool.not_eq_false', bne_eq_false_iff_eq, Int.not_lt, Int.not_le] at g2)
    · rw [pdq_heap (by omega) (by omega)] at he
      simp only [go_sem, Int.reduceBEq, Int.reduceBNe, Int.reduceNeg, reduceCtorEq, Nat.reduceEqDiff, Nat.reduceAdd, Nat.reduceLeDiff, Nat.reduceMul, Nat.reduceSub, Int.reduceToNat, Int.reduceLT, Int.reduceLE, g2']
      refine gC.of (so_heap h1 hb (by omega)) ?_
      rintro _ m2 h2
      rw [he] at h2
      simp only [go_sem, Int.reduceBEq, Int.reduceBNe, Int.reduceNeg, reduceCtorEq, Nat.reduceEqDiff, Nat.reduceAdd, Nat.reduceLeDiff, Nat.reduceMul, Nat.reduceSub, Int.reduceToNat, Int.reduceLT, Int.reduceLE]
      exact h2
    · simp only [go_sem, Int.reduceBEq, Int.reduceBNe, Int.reduceNeg, reduceCtorEq, Nat.reduceEqDiff, Nat.reduceAdd, Nat.reduceLeDiff, Nat.reduceMul, Nat.reduceSub, Int.reduceToNat, Int.reduceLT, Int.reduceLE, g2']
      have hlim0 : 0 < lim := by omega
      have hab' : a' < b' := by omega
      have h12 : ¬ b' - a' ≤ 12 := by omega
      -- patterns
      refine gT_mid (fun e m' => (∃ rest, e = (0, S.sv) :: (1, .int .i64 a') :: (2, .int .i64 b') :: (3, .int .i64 (rd S.lt d' a' b' lim wb wp).lim) :: (4, S.cv) :: (10, .bool wb) :: (11, .bool wp) :: (12, .int .i64 (b' - a' : Nat)) :: rest) ∧ S.Row m' (rd S.lt d' a' b' lim wb wp).d1) (fun g => ?_) (fun g => ?_) ?_
      · cases wb with
        | true => simp at g
        | false =>
          simp only [go_sem, Int.reduceBEq, Int.reduceBNe, Int.reduceNeg, reduceCtorEq, Nat.reduceEqDiff, Nat.reduceAdd, Nat.reduceLeDiff, Nat.reduceMul, Nat.reduceSub, Int.reduceToNat, Int.reduceLT, Int.reduceLE]
          refine gC.of (so_brk h1 hb hab h1.upd.next) ?_
          rintro _ m2 h2
          simp only [go_sem, Int.reduceBEq, Int.reduceBNe, Int.reduceNeg, reduceCtorEq, Nat.reduceEqDiff, Nat.reduceAdd, Nat.reduceLeDiff, Nat.reduceMul, Nat.reduceSub, Int.reduceToNat, Int.reduceLT, Int.reduceLE, nsub1 hlim0 (show lim < 4000000 by omega)]
          exact ⟨⟨_, rfl⟩, h2⟩
      · cases wb with
        | false => simp at g
        | true =>
          simp only [go_sem, Int.reduceBEq, Int.reduceBNe, Int.reduceNeg, reduceCtorEq, Nat.reduceEqDiff, Nat.reduceAdd, Nat.reduceLeDiff, Nat.reduceMul, Nat.reduceSub, Int.reduceToNat, Int.reduceLT, Int.reduceLE]
          exact ⟨⟨_, rfl⟩, h1⟩
      rintro _ m2 ⟨⟨rest, rfl⟩, h2⟩
      have hlx : (rd S.lt d' a' b' lim wb wp).lim < 1000000 := Nat.lt_of_le_of_lt rd_lim_le hlim
      simp only [go_sem, Int.reduceBEq, Int.reduceBNe, Int.reduceNeg, reduceCtorEq, Nat.reduceEqDiff, Nat.reduceAdd, Nat.reduceLeDiff, Nat.reduceMul, Nat.reduceSub, Int.reduceToNat, Int.reduceLT, Int.reduceLE]
      refine gC.of (so_choose h2 hb hab' h2.upd.next) ?_
      rintro _ m3 ⟨rfl, h3⟩
      have hc := choosePivot_holds S.lt (rd S.lt d' a' b' lim wb wp).d1 a' b' hab'
      rw [← rd_c (lt := S.lt) (d := d') (a := a') (b := b') (limit := lim) (wb := wb) (wp := wp)] at hc ⊢
      simp only [go_sem, Int.reduceBEq, Int.reduceBNe, Int.reduceNeg, reduceCtorEq, Nat.reduceEqDiff, Nat.reduceAdd, Nat.reduceLeDiff, Nat.reduceMul, Nat.reduceSub, Int.reduceToNat, Int.reduceLT, Int.reduceLE, aExt0, aExt1, so_hint2]
      -- the other way round
      refine gT_mid (fun e m' => (∃ rest, e = (0, S.sv) :: (1, .int .i64 a') :: (2, .int .i64 b') :: (3, .int .i64 (rd S.lt d' a' b' lim wb wp).lim) :: (4, S.cv) :: (10, .bool wb) :: (11, .bool wp) :: (12, .int .i64 (b' - a' : Nat)) :: (13, .int .i64 (rd S.lt d' a' b' lim wb wp).pivot) :: (14, .int .i64 (hintN (rd S.lt d' a' b' lim wb wp).hint)) :: rest) ∧ S.Row m' (rd S.lt d' a' b' lim wb wp).d2) (fun g => ?_) (fun g => ?_) ?_
      · have g : (rd S.lt d' a' b' lim wb wp).c.2 = .decreasing := by simpa using g
        obtain ⟨r1, r2, r3⟩ := rd_dec g
        rw [r1, r2, r3]
        simp only [go_sem, Int.reduceBEq, Int.reduceBNe, Int.reduceNeg, reduceCtorEq, Nat.reduceEqDiff, Nat.reduceAdd, Nat.reduceLeDiff, Nat.reduceMul, Nat.reduceSub, Int.reduceToNat, Int.reduceLT, Int.reduceLE]
        refine gC.of (so_rev h3 hb hab') ?_
        rintro _ m4 h4
        simp only [go_sem, Int.reduceBEq, Int.reduceBNe, Int.reduceNeg, reduceCtorEq, Nat.reduceEqDiff, Nat.reduceAdd, Nat.reduceLeDiff, Nat.reduceMul, Nat.reduceSub, Int.reduceToNat, Int.reduceLT, Int.reduceLE, nsub1 (show 0 < b' by omega) (show b' < 4000000 by omega), nsub hc.1 (show (rd S.lt d' a' b' lim wb wp).c.1 < 4000000 by omega), nsub (show (rd S.lt d' a' b' lim wb wp).c.1 - a' ≤ b' - 1 by omega) (show b' - 1 < 4000000 by omega)]
        exact ⟨⟨_, rfl⟩, h4⟩
      · have g : (rd S.lt d' a' b' lim wb wp).c.2 ≠ .decreasing := by simpa using g
        obtain ⟨r1, r2, r3⟩ := rd_not g
        rw [r1, r2, r3]
        simp only [go_sem, Int.reduceBEq, Int.reduceBNe, Int.reduceNeg, reduceCtorEq, Nat.reduceEqDiff, Nat.reduceAdd, Nat.reduceLeDiff, Nat.reduceMul, Nat.reduceSub, Int.reduceToNat, Int.reduceLT, Int.reduceLE]
        exact ⟨⟨_, rfl⟩, h3⟩
      rintro _ m4 ⟨⟨rest, rfl⟩, h4⟩
      have hpv : a' ≤ (rd S.lt d' a' b' lim wb wp).pivot ∧ (rd S.lt d' a' b' lim wb wp).pivot < b' := pivot_range hc.1 hc.2 ((rd S.lt d' a' b' lim wb wp).c.2 = .decreasing)
      -- a few by insertion
      have hpd : (rd S.lt d' a' b' lim wb wp).pi.2 = true → pdq S.lt d' a' b' lim wb wp = (rd S.lt d' a' b' lim wb wp).pi.1 := pdq_done h12 (by omega)
      have hpiy := rd_pi_yes (lt := S.lt) (d := d') (a := a') (b := b') (limit := lim) (wb := wb) (wp := wp)
      have hpin := rd_pi_no (lt := S.lt) (d := d') (a := a') (b := b') (limit := lim) (wb := wb) (wp := wp)
      have hpe := pdq_eq (lt := S.lt) (d := d') (a := a') (b := b') (limit := lim) (wb := wb) (wp := wp) h12 (by omega)
      have hpl := pdq_left (lt := S.lt) (d := d') (a := a') (b := b') (limit := lim) (wb := wb) (wp := wp) h12 (by omega)
      have hpr := pdq_right (lt := S.lt) (d := d') (a := a') (b := b') (limit := lim) (wb := wb) (wp := wp) h12 (by omega)
      generalize hrd : rd S.lt d' a' b' lim wb wp = D at *
      refine gp_seq_mid (fun e m' => (∃ rest, e = (0, S.sv) :: (1, .int .i64 a') :: (2, .int .i64 b') :: (3, .int .i64 D.lim) :: (4, S.cv) :: (10, .bool wb) :: (11, .bool wp) :: (12, .int .i64 (b' - a' : Nat)) :: (13, .int .i64 D.pivot) :: rest) ∧ S.Row m' D.pi.1 ∧ D.pi.2 = false) ?_ ?_
      · have no : (wb && wp && decide (D.hint = .increasing)) = false → S.Row m4 D.pi.1 ∧ D.pi.2 = false := fun hc => by rw [hpin hc]; exact ⟨h4, rfl⟩
        cases wb with
        | false => simp only [go_sem, Int.reduceBEq, Int.reduceBNe, Int.reduceNeg, reduceCtorEq, Nat.reduceEqDiff, Nat.reduceAdd, Nat.reduceLeDiff, Nat.reduceMul, Nat.reduceSub, Int.reduceToNat, Int.reduceLT, Int.reduceLE]; exact ⟨⟨_, rfl⟩, no rfl⟩
        | true =>
          cases wp with
          | false => simp only [go_sem, Int.reduceBEq, Int.reduceBNe, Int.reduceNeg, reduceCtorEq, Nat.reduceEqDiff, Nat.reduceAdd, Nat.reduceLeDiff, Nat.reduceMul, Nat.reduceSub, Int.reduceToNat, Int.reduceLT, Int.reduceLE]; exact ⟨⟨_, rfl⟩, no rfl⟩
          | true =>
            simp only [go_sem, Int.reduceBEq, Int.reduceBNe, Int.reduceNeg, reduceCtorEq, Nat.reduceEqDiff, Nat.reduceAdd, Nat.reduceLeDiff, Nat.reduceMul, Nat.reduceSub, Int.reduceToNat, Int.reduceLT, Int.reduceLE, so_hint1]
            refine gT.of (fun g => ?_) (fun g => ?_)
            · have hpi := hpiy (by simpa using g)
              simp only [go_sem, Int.reduceBEq, Int.reduceBNe, Int.reduceNeg, reduceCtorEq, Nat.reduceEqDiff, Nat.reduceAdd, Nat.reduceLeDiff, Nat.reduceMul, Nat.reduceSub, Int.reduceToNat, Int.reduceLT, Int.reduceLE, g]
              refine gC.of (so_pins h4 hb hab') ?_
              rintro _ m5 ⟨rfl, h5⟩
              rw [← hpi] at h5 ⊢
              simp only [go_sem, Int.reduceBEq, Int.reduceBNe, Int.reduceNeg, reduceCtorEq, Nat.reduceEqDiff, Nat.reduceAdd, Nat.reduceLeDiff, Nat.reduceMul, Nat.reduceSub, Int.reduceToNat, Int.reduceLT, Int.reduceLE]
              refine gT.of (fun g3 => ?_) (fun g3 => ?_)
              · simp only [go_sem, Int.reduceBEq, Int.reduceBNe, Int.reduceNeg, reduceCtorEq, Nat.reduceEqDiff, Nat.reduceAdd, Nat.reduceLeDiff, Nat.reduceMul, Nat.reduceSub, Int.reduceToNat, Int.reduceLT, Int.reduceLE]
                rw [hpd g3] at he
                rw [he] at h5
                exact h5
              · simp only [go_sem, Int.reduceBEq, Int.reduceBNe, Int.reduceNeg, reduceCtorEq, Nat.reduceEqDiff, Nat.reduceAdd, Nat.reduceLeDiff, Nat.reduceMul, Nat.reduceSub, Int.reduceToNat, Int.reduceLT, Int.reduceLE]
                exact ⟨⟨_, rfl⟩, h5, g3⟩
            · simp only [go_sem, Int.reduceBEq, Int.reduceBNe, Int.reduceNeg, reduceCtorEq, Nat.reduceEqDiff, Nat.reduceAdd, Nat.reduceLeDiff, Nat.reduceMul, Nat.reduceSub, Int.reduceToNat, Int.reduceLT, Int.reduceLE, g]
              exact ⟨⟨_, rfl⟩, no (by simpa using g)⟩
      rintro _ m5 ⟨⟨rest, rfl⟩, h5, hp2⟩
      have hpe := hpe hp2
      have hpl := hpl hp2
      have hpr := hpr hp2
      clear hpd hpiy hpin h4 h3 h2 h1
      have c0 : a' - 1 < S.n := by omega
      have cp : D.pivot < S.n := by omega
      -- the rest, where what is ahead is less
      have rest2 : ∀ (m6 : Mem) (rest : Env), S.Row m6 D.pi.1 → (decide (a' > 0) && !S.lt D.pi.1[a' - 1]! D.pi.1[D.pivot]!) = false → True := fun _ _ _ _ => trivial
      clear rest2
      refine gp_seq_mid (fun e m' => (∃ rest, e = (0, S.sv) :: (1, .int .i64 a') :: (2, .int .i64 b') :: (3, .int .i64 D.lim) :: (4, S.cv) :: (10, .bool wb) :: (11, .bool wp) :: (12, .int .i64 (b' - a' : Nat)) :: (13, .int .i64 D.pivot) :: rest) ∧ S.Row m' D.pi.1 ∧ (decide (a' > 0) && !S.lt D.pi.1[a' - 1]! D.pi.1[D.pivot]!) = false) ?_ ?_
      · simp only [go_sem, Int.reduceBEq, Int.reduceBNe, Int.reduceNeg, reduceCtorEq, Nat.reduceEqDiff, Nat.reduceAdd, Nat.reduceLeDiff, Nat.reduceMul, Nat.reduceSub, Int.reduceToNat, Int.reduceLT, Int.reduceLE]
        refine gT.of (fun g3' => ?_) (fun g3' => ?_) <;> (have g3 := g3'; try simp only [decide_eq_true_eq, decide_eq_false_iff_not, beq_iff_eq, bne_iff_ne, beq_eq_false_iff_ne, ne_eq, Bool.not_eq_true', Bool.not_eq_false', bne_eq_false_iff_eq, Int.not_lt, Int.not_le] at g3)
        · simp only [go_sem, Int.reduceBEq, Int.reduceBNe, Int.reduceNeg, reduceCtorEq, Nat.reduceEqDiff, Nat.reduceAdd, Nat.reduceLeDiff, Nat.reduceMul, Nat.reduceSub, Int.reduceToNat, Int.reduceLT, Int.reduceLE, g3', nsub1 (show 0 < a' by omega) (show a' < 4000000 by omega), S.ix c0, S.ix cp, h5.ld c0, h5.ld cp]
          refine gC.of (S.cmp m5 D.pi.1[a' - 1]! D.pi.1[D.pivot]!) ?_
          rintro _ m6 ⟨rfl, hx6⟩
          simp only [go_sem, Int.reduceBEq, Int.reduceBNe, Int.reduceNeg, reduceCtorEq, Nat.reduceEqDiff, Nat.reduceAdd, Nat.reduceLeDiff, Nat.reduceMul, Nat.reduceSub, Int.reduceToNat, Int.reduceLT, Int.reduceLE]
          have h6 := h5.keep hx6
          refine gT.of (fun g4' => ?_) (fun g4' => ?_) <;> (have g4 := g4'; try simp only [decide_eq_true_eq, decide_eq_false_iff_not, beq_iff_eq, bne_iff_ne, beq_eq_false_iff_ne, ne_eq, Bool.not_eq_true', Bool.not_eq_false', bne_eq_false_iff_eq, Int.not_lt, Int.not_le] at g4)
          · have hcd : (decide (a' > 0) && !S.lt D.pi.1[a' - 1]! D.pi.1[D.pivot]!) = true := by rw [S.lt_f' (by simpa using g4)]; simp; omega
            have rg := parte_rng (lt := S.lt) (d := D.pi.1) (p := D.pivot) hab'
            have hpe := hpe hcd rg
            rw [he] at hpe
            simp only [go_sem, Int.reduceBEq, Int.reduceBNe, Int.reduceNeg, reduceCtorEq, Nat.reduceEqDiff, Nat.reduceAdd, Nat.reduceLeDiff, Nat.reduceMul, Nat.reduceSub, Int.reduceToNat, Int.reduceLT, Int.reduceLE, g4']
            refine gC.of (so_parte h6 hb hpv.1 hpv.2) ?_
            rintro _ m7 ⟨rfl, h7⟩
            simp only [go_sem, Int.reduceBEq, Int.reduceBNe, Int.reduceNeg, reduceCtorEq, Nat.reduceEqDiff, Nat.reduceAdd, Nat.reduceLeDiff, Nat.reduceMul, Nat.reduceSub, Int.reduceToNat, Int.reduceLT, Int.reduceLE]
            exact ⟨b' - (partitionEqual S.lt D.pi.1 a' b' D.pivot).1, by omega, _, b', D.lim, wb, wp, _, rfl, by omega, hb, rg.2, hlx, rfl, h7, hpe.symm⟩
          · simp only [go_sem, Int.reduceBEq, Int.reduceBNe, Int.reduceNeg, reduceCtorEq, Nat.reduceEqDiff, Nat.reduceAdd, Nat.reduceLeDiff, Nat.reduceMul, Nat.reduceSub, Int.reduceToNat, Int.reduceLT, Int.reduceLE, g4']
            refine ⟨⟨_, rfl⟩, h6, ?_⟩
            rw [S.lt_t (by simpa using g4)]; simp
        · simp only [go_sem, Int.reduceBEq, Int.reduceBNe, Int.reduceNeg, reduceCtorEq, Nat.reduceEqDiff, Nat.reduceAdd, Nat.reduceLeDiff, Nat.reduceMul, Nat.reduceSub, Int.reduceToNat, Int.reduceLT, Int.reduceLE, g3']
          refine ⟨⟨_, rfl⟩, h5, ?_⟩
          have : decide (a' > 0) = false := by simp; omega
          rw [this]; rfl
      rintro _ m6 ⟨⟨rest, rfl⟩, h6, hcd⟩
      have rg := part_rng (lt := S.lt) (d := D.pi.1) (p := D.pivot) hab'
      have hpl := hpl hcd rg
      have hpr := hpr hcd rg
      simp only [go_sem, Int.reduceBEq, Int.reduceBNe, Int.reduceNeg, reduceCtorEq, Nat.reduceEqDiff, Nat.reduceAdd, Nat.reduceLeDiff, Nat.reduceMul, Nat.reduceSub, Int.reduceToNat, Int.reduceLT, Int.reduceLE]
      refine gC.of (so_part h6 hb hpv.1 hpv.2) ?_
      rintro _ m7 ⟨rfl, h7⟩
      generalize partition S.lt D.pi.1 a' b' D.pivot = pt at *
      obtain ⟨mid, ap, d4⟩ := pt
      simp only at rg hpl hpr h7
      simp only [go_sem, Int.reduceBEq, Int.reduceBNe, Int.reduceNeg, reduceCtorEq, Nat.reduceEqDiff, Nat.reduceAdd, Nat.reduceLeDiff, Nat.reduceMul, Nat.reduceSub, Int.reduceToNat, Int.reduceLT, Int.reduceLE, aExt0, aExt1, nsub rg.1 (show mid < 4000000 by omega), nsub (show mid ≤ b' by omega) (show b' < 4000000 by omega), nq8 (show b' - a' < 4000000 by omega)]
      refine ⟨by omega, ?_⟩
      refine gT.of (fun g5' => ?_) (fun g5' => ?_) <;> (have g5 := g5'; try simp only [decide_eq_true_eq, decide_eq_false_iff_not, beq_iff_eq, bne_iff_ne, beq_eq_false_iff_ne, ne_eq, Bool.not_eq_true', Bool.not_eq_false', bne_eq_false_iff_eq, Int.not_lt, Int.not_le] at g5)
      · have hpl := hpl (by omega)
        rw [he] at hpl
        simp only [go_sem, Int.reduceBEq, Int.reduceBNe, Int.reduceNeg, reduceCtorEq, Nat.reduceEqDiff, Nat.reduceAdd, Nat.reduceLeDiff, Nat.reduceMul, Nat.reduceSub, Int.reduceToNat, Int.reduceLT, Int.reduceLE, g5']
        refine gC.of (ih (mid - a') (by omega) m7 d4 a' mid D.lim (Nat.le_refl _) h7 (by omega) (by omega) hlx) ?_
        rintro _ m8 h8
        simp only [go_sem, Int.reduceBEq, Int.reduceBNe, Int.reduceNeg, reduceCtorEq, Nat.reduceEqDiff, Nat.reduceAdd, Nat.reduceLeDiff, Nat.reduceMul, Nat.reduceSub, Int.reduceToNat, Int.reduceLT, Int.reduceLE, nadd1 (show mid < 4000000 by omega)]
        refine ⟨b' - (mid + 1), by omega, mid + 1, b', D.lim, _, _, _, rfl, by omega, hb, by omega, hlx, rfl, h8, ?_⟩
        rw [hpl]
        congr 1
        rw [decide_eq_decide]; omega
      · have hpr := hpr (by omega)
        rw [he] at hpr
        simp only [go_sem, Int.reduceBEq, Int.reduceBNe, Int.reduceNeg, reduceCtorEq, Nat.reduceEqDiff, Nat.reduceAdd, Nat.reduceLeDiff, Nat.reduceMul, Nat.reduceSub, Int.reduceToNat, Int.reduceLT, Int.reduceLE, g5', nadd1 (show mid < 4000000 by omega)]
        refine gC.of (ih (b' - (mid + 1)) (by omega) m7 d4 (mid + 1) b' D.lim (Nat.le_refl _) h7 hb (by omega) hlx) ?_
        rintro _ m8 h8
        simp only [go_sem, Int.reduceBEq, Int.reduceBNe, Int.reduceNeg, reduceCtorEq, Nat.reduceEqDiff, Nat.reduceAdd, Nat.reduceLeDiff, Nat.reduceMul, Nat.reduceSub, Int.reduceToNat, Int.reduceLT, Int.reduceLE]
        refine ⟨mid - a', by omega, a', mid, D.lim, _, _, _, rfl, by omega, by omega, by omega, hlx, rfl, h8, ?_⟩
        rw [hpr]
        congr 1
        rw [decide_eq_decide]; omega

theorem so_sort (h : S.Row m d) (hO : SWO S.lt) : WC R F.slices_SortFunc_api_Want_api_Want [S.sv, S.cv] m fun r m' => ∃ d', S.Row m' d' ∧ PermIn 0 d.size d d' ∧ SortedIn S.lt 0 d.size d' := by
  refine WC.of R.slices_SortFunc_api_Want_api_Want rfl ?_
  have hn := S.small
  have hlen : aLen S.sv = some (.int .i64 S.n) := rfl
  have e : (BitVec.ofInt 64 ((S.n : Nat) : Int)).toNat = S.n := by rw [BitVec.ofInt_natCast, BitVec.toNat_ofNat, Nat.mod_eq_of_lt (by omega)]
  simp only [RC.slices_SortFunc_api_Want_api_Want, go_sem, Int.reduceBEq, Int.reduceBNe, Int.reduceNeg, reduceCtorEq, Nat.reduceEqDiff, Nat.reduceAdd, Nat.reduceLeDiff, Nat.reduceMul, Nat.reduceSub, Int.reduceToNat, Int.reduceLT, Int.reduceLE, hlen]
  refine gC.of (so_len (x := BitVec.ofInt 64 ((S.n : Nat) : Int)) (by omega)) ?_
  rintro _ _ ⟨rfl, hm⟩
  subst hm
  rw [e]
  have hbl : bitsLen S.n ≤ 20 := (bitsLen_le_iff _ _).2 (by omega)
  simp only [go_sem, Int.reduceBEq, Int.reduceBNe, Int.reduceNeg, reduceCtorEq, Nat.reduceEqDiff, Nat.reduceAdd, Nat.reduceLeDiff, Nat.reduceMul, Nat.reduceSub, Int.reduceToNat, Int.reduceLT, Int.reduceLE]
  refine gC.of (so_pdq S.n _ d 0 S.n (bitsLen S.n) (by omega) h (Nat.le_refl _) (Nat.zero_le _) (by omega)) ?_
  rintro _ m2 h2
  simp only [go_sem, Int.reduceBEq, Int.reduceBNe, Int.reduceNeg, reduceCtorEq, Nat.reduceEqDiff, Nat.reduceAdd, Nat.reduceLeDiff, Nat.reduceMul, Nat.reduceSub, Int.reduceToNat, Int.reduceLT, Int.reduceLE]
  have := pdq_sorts S.lt hO d 0 S.n (bitsLen S.n) true true (Nat.zero_le _) (by rw [h.size]; exact Nat.le_refl _) (.inl rfl)
  rw [h.size]
  exact ⟨_, h2, this⟩
end Go.Am


/- The sort of a slice of one's own, of api_Want (Order). Printed out of SortT7.tmpl by sortgen.py. -/
set_option linter.unusedVariables false
set_option linter.unusedSimpArgs false
namespace Go.Am
open Go.Sort
variable {α : Type} [Inhabited α]

theorem so_insNil {m : Mem} {v fv : Value} : WC R F.slices_insertionSortCmpFunc_api_Want [v, .int .i64 0, .int .i64 0, fv] m fun r m' => m' = m := by
  refine WC.of R.slices_insertionSortCmpFunc_api_Want rfl ?_
  have w : IntKind.wrap .i64 (0 + 1) = 1 := rfl
  simp only [RC.slices_insertionSortCmpFunc_api_Want, go_sem, Int.reduceBEq, Int.reduceBNe, Int.reduceNeg, reduceCtorEq, Nat.reduceEqDiff, Nat.reduceAdd, Nat.reduceLeDiff, Nat.reduceMul, Nat.reduceSub, Int.reduceToNat, Int.reduceLT, Int.reduceLE, w]
  refine WL.of (fun r e m' => m' = m ∧ e = [(0, v), (1, .int .i64 0), (2, .int .i64 0), (3, fv), (8, .int .i64 1)]) 0 ⟨rfl, by simp only [go_sem, Int.reduceBEq, Int.reduceBNe, Int.reduceNeg, reduceCtorEq, Nat.reduceEqDiff, Nat.reduceAdd, Nat.reduceLeDiff, Nat.reduceMul, Nat.reduceSub, Int.reduceToNat, Int.reduceLT, Int.reduceLE] <;> rfl⟩ ?_
  rintro _ _ _ ⟨rfl, rfl⟩
  have e0 : decide ((1 : Int) < 0) = false := rfl
  simp only [RB.slices_insertionSortCmpFunc_api_Want_2, go_sem, Int.reduceBEq, Int.reduceBNe, Int.reduceNeg, reduceCtorEq, Nat.reduceEqDiff, Nat.reduceAdd, Nat.reduceLeDiff, Nat.reduceMul, Nat.reduceSub, Int.reduceToNat, Int.reduceLT, Int.reduceLE, e0]

theorem so_pdqNil {m : Mem} {v fv : Value} {lim : Nat} : WC R F.slices_pdqsortCmpFunc_api_Want [v, .int .i64 0, .int .i64 0, .int .i64 lim, fv] m fun r m' => m' = m := by
  refine WC.of R.slices_pdqsortCmpFunc_api_Want rfl ?_
  simp only [RC.slices_pdqsortCmpFunc_api_Want, go_sem, Int.reduceBEq, Int.reduceBNe, Int.reduceNeg, reduceCtorEq, Nat.reduceEqDiff, Nat.reduceAdd, Nat.reduceLeDiff, Nat.reduceMul, Nat.reduceSub, Int.reduceToNat, Int.reduceLT, Int.reduceLE]
  refine WL.of (fun r e m' => m' = m ∧ e = [(0, v), (1, .int .i64 0), (2, .int .i64 0), (3, .int .i64 lim), (4, fv), (10, .bool true), (11, .bool true)]) 0 ⟨rfl, by simp only [go_sem, Int.reduceBEq, Int.reduceBNe, Int.reduceNeg, reduceCtorEq, Nat.reduceEqDiff, Nat.reduceAdd, Nat.reduceLeDiff, Nat.reduceMul, Nat.reduceSub, Int.reduceToNat, Int.reduceLT, Int.reduceLE] <;> rfl⟩ ?_
  rintro _ _ _ ⟨rfl, rfl⟩
  have w : IntKind.wrap .i64 (0 - 0) = 0 := rfl
  have e0 : decide ((0 : Int) ≤ 12) = true := rfl
  simp only [RB.slices_pdqsortCmpFunc_api_Want_1, go_sem, Int.reduceBEq, Int.reduceBNe, Int.reduceNeg, reduceCtorEq, Nat.reduceEqDiff, Nat.reduceAdd, Nat.reduceLeDiff, Nat.reduceMul, Nat.reduceSub, Int.reduceToNat, Int.reduceLT, Int.reduceLE, w, e0]
  refine gC.of so_insNil ?_
  rintro _ m1 rfl
  simp only [go_sem, Int.reduceBEq, Int.reduceBNe, Int.reduceNeg, reduceCtorEq, Nat.reduceEqDiff, Nat.reduceAdd, Nat.reduceLeDiff, Nat.reduceMul, Nat.reduceSub, Int.reduceToNat, Int.reduceLT, Int.reduceLE]

theorem so_sortNil {m : Mem} {fv : Value} : WC R F.slices_SortFunc_api_Want_api_Want [.slice none 0 0, fv] m fun r m' => m' = m := by
  refine WC.of R.slices_SortFunc_api_Want_api_Want rfl ?_
  have hlen : aLen (.slice none 0 0) = some (.int .i64 0) := rfl
  simp only [RC.slices_SortFunc_api_Want_api_Want, go_sem, Int.reduceBEq, Int.reduceBNe, Int.reduceNeg, reduceCtorEq, Nat.reduceEqDiff, Nat.reduceAdd, Nat.reduceLeDiff, Nat.reduceMul, Nat.reduceSub, Int.reduceToNat, Int.reduceLT, Int.reduceLE, hlen]
  refine gC.of (so_len (x := BitVec.ofInt 64 0) (by decide)) ?_
  rintro _ _ ⟨rfl, hm⟩
  subst hm
  simp only [go_sem, Int.reduceBEq, Int.reduceBNe, Int.reduceNeg, reduceCtorEq, Nat.reduceEqDiff, Nat.reduceAdd, Nat.reduceLeDiff, Nat.reduceMul, Nat.reduceSub, Int.reduceToNat, Int.reduceLT, Int.reduceLE]
  refine gC.of so_pdqNil ?_
  rintro _ m1 rfl
  simp only [go_sem, Int.reduceBEq, Int.reduceBNe, Int.reduceNeg, reduceCtorEq, Nat.reduceEqDiff, Nat.reduceAdd, Nat.reduceLeDiff, Nat.reduceMul, Nat.reduceSub, Int.reduceToNat, Int.reduceLT, Int.reduceLE]

/-- One's own row, sorted. -/
theorem so_own {m0 m : Mem} {l : List α} {f : α → List Value} {v : Value} {cf : α → α → Int} {g : Nat} (hf : ∀ a, (f a).length = 2) (h1 : ∀ a, oneCells (f a) = true)
    (hcmp : ∀ (m : Mem) (x y : α), WC R g [.agg (f x).toArray, .agg (f y).toArray] m fun r m' => r = .int .i64 (cf x y) ∧ Ext m m')
    (hO : SWO fun x y => decide (cf x y < 0)) (ho : Own m0 m 2 l.length (l.flatMap f) v) (hx0 : Ext m0 m) (hl : l.length < 1000000) :
    WC R F.slices_SortFunc_api_Want_api_Want [v, .func (.func g) #[] #[]] m fun r m' => ∃ l' : List α, l'.Perm l ∧ l'.Pairwise (fun x y => ¬ cf y x < 0) ∧ Own m0 m' 2 l'.length (l'.flatMap f) v ∧ Ext m0 m' ∧ Upd m m' (vb v) := by
  cases ho with
  | nil h hc =>
    have e := List.eq_nil_of_length_eq_zero h
    subst e
    refine WC.mono so_sortNil ?_
    rintro _ m1 rfl
    exact ⟨[], .nil, .nil, .nil rfl rfl, hx0, Upd.refl _ _⟩
  | @«at» b c all hb hb2 hnc hm hal hcs hone =>
    let S : SortC R α 2 := ⟨f, hf, h1, cf, g, hcmp, b, 0, l.length, c, [], all.drop (l.length * 2), rfl, m, hl⟩
    have hrow : S.Row m l.toArray := ⟨by show m.blk b = _; rw [hm, ← hcs]; show _ = some (AObj.cells ([] ++ all.take (l.length * 2) ++ all.drop (l.length * 2)) _); rw [List.nil_append, List.take_append_drop], hb2, by simp [S], Upd.refl _ _⟩
    refine WC.mono (so_sort (S := S) hrow hO) ?_
    rintro _ m1 ⟨d', hr, ⟨hsz, -, hp⟩, hs⟩
    have hp : d'.toList.Perm l := by
      have e : d'.extract 0 l.toArray.size = d' := by rw [← hsz]; exact Array.extract_size
      rw [e, Array.extract_size] at hp
      exact hp
    have hlen : d'.toList.length = l.length := hp.length_eq
    have hu : Upd m m1 [b] := hr.upd
    refine ⟨d'.toList, hp, ?_, ?_, hu.ext_of hx0 (by simpa using hb), hu⟩
    · rw [List.pairwise_iff_getElem]
      intro i j hi hj hij
      have := hs i j (Nat.zero_le _) hij (by simpa [← hlen] using hj)
      rw [getElem!_pos d' j (by simpa using hj), getElem!_pos d' i (by simpa using hi)] at this
      have := of_decide_eq_false this
      simpa using this
    · rw [hlen]
      have hfl : (d'.toList.flatMap f).length = l.length * 2 := by rw [flat_len hf, hlen]
      refine .at (all := d'.toList.flatMap f ++ all.drop (l.length * 2)) hb hr.lt hnc hr.at_ ?_ ?_ ?_
      · have e1 : l.length * 2 ≤ c * 2 := Nat.mul_le_mul_right _ hnc
        rw [List.length_append, hfl, List.length_drop, hal]; omega
      · rw [List.take_left' hfl]
      · unfold oneCells
        rw [List.all_eq_true]
        intro x hx
        obtain ⟨y, _, hy⟩ := List.mem_flatMap.1 hx
        have := h1 y
        unfold oneCells at this
        exact List.all_eq_true.1 this x hy
end Go.Am


/- slices.Insert at one's own row. -/
set_option linter.unusedVariables false
set_option linter.unusedSimpArgs false
namespace Go.Am

/-- One more behind one's own, out of another block. -/
theorem Own.app1 {m0 m : Mem} {u n by_ : Nat} {cs xs : List Value} {v x : Value} (h : Own m0 m u n cs v) (hx : Ext m0 m) (hs : Sl m u 1 xs x) (h1 : oneCells xs = true) (hby : (n + 1) * by_ ≤ 2 ^ 47) (hn : n + 1 < 2 ^ 62) :
    ∃ v' m', aApp none u by_ m v x = some (v', m') ∧ Own m0 m' u (n + 1) (cs ++ xs) v' ∧ Ext m0 m' := by
  obtain ⟨hsrc, hlen⟩ := hs.src
  have hxl := hs.length
  cases h with
  | nil h hc =>
    subst h; subst hc
    refine ⟨.slice (some ⟨m.next, 0, none⟩) 1 1, m.new (.cells xs (some u)), ?_, ?_, hx.trans Ext.new⟩
    · simp only [aApp, hlen, Option.bind_some, hsrc, Nat.one_ne_zero, if_false]
      rw [if_pos ⟨by simpa using hby, by simp, h1⟩]
      rfl
    · rw [Nat.zero_add, List.nil_append]
      exact .at (all := xs) hx.next (by simp [Mem.new]) (Nat.le_refl _) (by simp [Mem.new]) hxl (by rw [← hxl, List.take_length]) h1
  | @«at» b c all hb hb2 hnc hm hl hcs hone =>
    by_cases hroom : n + 1 ≤ c
    · have hle : n * u + 1 * u ≤ c * u := by rw [← Nat.add_mul]; exact Nat.mul_le_mul_right _ hroom
      refine ⟨.slice (some ⟨b, 0, none⟩) (n + 1) c, m.set b (some (.cells (writeL all (n * u) xs) (some u))), ?_, ?_, hx.set hb⟩
      · simp only [aApp, hlen, Option.bind_some, hsrc, Nat.one_ne_zero, if_false, Nat.zero_add]
        rw [if_pos hroom]
        unfold aWrite
        rw [hm]
        simp only
        rw [if_pos ⟨by omega, h1⟩]; rfl
      · refine .at (all := writeL all (n * u) xs) hb (by simpa [Mem.set] using hb2) hroom (by simp [Mem.set]) ?_ ?_ (oneCells_append hone h1)
        · unfold writeL; simp; omega
        · unfold writeL
          rw [Nat.add_mul, List.append_assoc, List.take_append]
          have e : (all.take (n * u)).length = n * u := by simp; omega
          rw [e, List.take_of_length_le (by omega), show n * u + 1 * u - n * u = xs.length by omega, List.take_left, hcs]
    · have hcn : n = c := by omega
      subst hcn
      have hall : all.take (n * u) = all := by rw [← hl, List.take_length]
      rw [hall] at hcs
      subst hcs
      refine ⟨.slice (some ⟨m.next, 0, none⟩) (n + 1) (n + 1), (m.set b none).new (.cells (all ++ xs) (some u)), ?_, ?_, (hx.set hb).trans Ext.new⟩
      · simp only [aApp, hlen, Option.bind_some, hsrc, Nat.one_ne_zero, if_false, Nat.zero_add]
        rw [if_neg hroom, hm]
        simp only [List.drop_zero, hall]
        rw [if_pos ⟨hby, hn, h1, hone, Nat.le_refl _, by omega, .inr ⟨by first | rfl | trivial, .inr (by first | rfl | trivial)⟩⟩]
        simp only [Option.isSome_some, true_and, hl, if_true, place]
        rfl
      · refine .at (all := all ++ xs) (by have := hx.next; omega) (by simp [Mem.new, Mem.set]) (Nat.le_refl _) (by simp [Mem.new, Mem.set]) (by simp [hl, hxl, Nat.add_mul]) ?_ (oneCells_append hone h1)
        rw [Nat.add_mul, List.take_of_length_le (by simp; omega)]

theorem oneCells_ins {u i : Nat} {cs es : List Value} (h1 : oneCells cs = true) (h2 : oneCells es = true) : oneCells (insRow u i cs es) = true := by
  unfold insRow
  exact oneCells_append (oneCells_append (oneCells_sub h1 fun x hx => List.mem_of_mem_take hx) h2) (oneCells_sub h1 fun x hx => List.mem_of_mem_drop hx)

/-- One element into one's own row. -/
theorem insert_own {m0 m : Mem} {u n by_ q i : Nat} {cs es : List Value} {v : Value} (h : Own m0 m u n cs v) (hx : Ext m0 m) (hq : Bk m q es u) (hqv : q ∉ vb v) (he : es.length = u) (h1 : oneCells es = true) (hu : 0 < u) (hb0 : 0 < by_) (hby : (n + 1) * by_ ≤ 2 ^ 47) (hn : n < 1000000000) (hi : i ≤ n) :
    ∃ v' m', X.insert u by_ [v, .int .i64 i, .slice (some ⟨q, 0, none⟩) 1 1] m = some (v', m') ∧ Own m0 m' u (n + 1) (insRow u i cs es) v' ∧ Ext m0 m' := by
  have hs : Sl m u 1 es (.slice (some ⟨q, 0, none⟩) 1 1) := by
    refine .at (Nat.le_refl _) ?_
    unfold aCells
    rw [hq.at_]
    simp only [Nat.zero_add, List.drop_zero, Nat.one_mul]
    rw [if_pos (by omega), ← he, List.take_length]
  obtain ⟨v', m', e1, e2, e3⟩ := h.app1 (by_ := by_) hx hs h1 hby (by omega)
  have hcl := h.sl.length
  have hend : i = n → insRow u i cs es = cs ++ es := by
    rintro rfl
    unfold insRow
    rw [List.take_of_length_le (by omega), List.drop_of_length_le (by omega), List.append_nil]
  cases h with
  | nil hn0 hc =>
    subst hn0
    obtain rfl : i = 0 := by omega
    refine ⟨v', m', ?_, by rw [hend rfl]; exact e2, e3⟩
    simp only [X.insert]
    rw [if_pos (by rfl)]; exact e1
  | @«at» b c all hb hb2 hnc hm hl hcs hone =>
    by_cases hin : i = n
    · refine ⟨v', m', ?_, by rw [hend hin]; exact e2, e3⟩
      simp only [X.insert]
      rw [if_pos (by rw [hin])]; exact e1
    · have hnu : n * u ≤ c * u := Nat.mul_le_mul_right _ hnc
      have hqb : q ≠ b := fun e => hqv (by simp [vb, e])
      have hrow : (all.drop 0).take (n * u) = cs := by rw [List.drop_zero, hcs]
      have hx2 : (es.drop 0).take u = es := by rw [List.drop_zero, ← he, List.take_length]
      refine ⟨.slice (some ⟨m.next, 0, none⟩) (n + 1) (n + 1), (m.set b none).new (.cells (insRow u i cs es) (some u)), ?_, ?_, (hx.set hb).trans Ext.new⟩
      · simp only [X.insert]
        rw [if_neg (by omega), hm, hq.at_]
        simp only []
        rw [hrow, hx2, if_pos ⟨by first | rfl | trivial, hu, hb0, by omega, by omega, hqb, hnc, by omega, by omega, hn, by omega, hone, h1⟩, Int.toNat_natCast]
      · have hlen : (insRow u i cs es).length = (n + 1) * u := insRow_len hcl he (by omega)
        exact .at (all := insRow u i cs es) (by have := hx.next; omega) (by simp [Mem.new, Mem.set]) (Nat.le_refl _) (by simp [Mem.new, Mem.set]) hlen (by rw [← hlen, List.take_length]) (oneCells_ins hone h1)

theorem insRow_flat {α : Type} {f : α → List Value} {u i : Nat} {l : List α} {a : α} (hf : ∀ a, (f a).length = u) (hi : i ≤ l.length) : insRow u i (l.flatMap f) (f a) = (l.take i ++ a :: l.drop i).flatMap f := by
  unfold insRow
  have e : l.flatMap f = (l.take i).flatMap f ++ (l.drop i).flatMap f := by rw [← List.flatMap_append, List.take_append_drop]
  have hl : ((l.take i).flatMap f).length = i * u := by rw [flat_len hf, List.length_take]; congr 1; omega
  rw [e, List.take_left' hl, List.drop_left' hl]
  simp
end Go.Am


/- Wants in their order: the walks. -/
set_option linter.unusedVariables false
set_option linter.unusedSimpArgs false
namespace Go.Am
variable {m : Mem}

theorem cmpNaN {a : Int} : WC R F.cmp_isNaN_int [.int .i64 a] m fun r m' => r = .bool false ∧ m' = m := by
  refine WC.of R.cmp_isNaN_int rfl ?_
  have e : (a != a) = false := bne_self_eq_false a
  simp only [RC.cmp_isNaN_int, go_sem, Int.reduceBEq, Int.reduceBNe, Int.reduceNeg, reduceCtorEq, Nat.reduceEqDiff, Nat.reduceAdd, Nat.reduceLeDiff, Nat.reduceMul, Nat.reduceSub, Int.reduceToNat, Int.reduceLT, Int.reduceLE, e]

def cmpI (a b : Int) : Int := if a < b then -1 else if b < a then 1 else 0
theorem cmpInt {a b : Int} : WC R F.cmp_Compare_int [.int .i64 a, .int .i64 b] m fun r m' => r = .int .i64 (cmpI a b) ∧ m' = m := by
  refine WC.of R.cmp_Compare_int rfl ?_
  simp only [RC.cmp_Compare_int, go_sem, Int.reduceBEq, Int.reduceBNe, Int.reduceNeg, reduceCtorEq, Nat.reduceEqDiff, Nat.reduceAdd, Nat.reduceLeDiff, Nat.reduceMul, Nat.reduceSub, Int.reduceToNat, Int.reduceLT, Int.reduceLE]
  refine gC.of cmpNaN ?_
  rintro _ m_ ⟨rfl, hm_⟩
  replace hm_ := hm_.symm
  subst hm_
  simp only [go_sem, Int.reduceBEq, Int.reduceBNe, Int.reduceNeg, reduceCtorEq, Nat.reduceEqDiff, Nat.reduceAdd, Nat.reduceLeDiff, Nat.reduceMul, Nat.reduceSub, Int.reduceToNat, Int.reduceLT, Int.reduceLE]
  refine gC.of cmpNaN ?_
  rintro _ m_ ⟨rfl, hm_⟩
  replace hm_ := hm_.symm
  subst hm_
  simp only [go_sem, Int.reduceBEq, Int.reduceBNe, Int.reduceNeg, reduceCtorEq, Nat.reduceEqDiff, Nat.reduceAdd, Nat.reduceLeDiff, Nat.reduceMul, Nat.reduceSub, Int.reduceToNat, Int.reduceLT, Int.reduceLE]
  by_cases h1 : a < b
  · have e : cmpI a b = -1 := by unfold cmpI; rw [if_pos h1]
    simp only [go_sem, Int.reduceBEq, Int.reduceBNe, Int.reduceNeg, reduceCtorEq, Nat.reduceEqDiff, Nat.reduceAdd, Nat.reduceLeDiff, Nat.reduceMul, Nat.reduceSub, Int.reduceToNat, Int.reduceLT, Int.reduceLE, decide_eq_true h1, e]
  · by_cases h2 : b < a
    · have e : cmpI a b = 1 := by unfold cmpI; rw [if_neg h1, if_pos h2]
      simp only [go_sem, Int.reduceBEq, Int.reduceBNe, Int.reduceNeg, reduceCtorEq, Nat.reduceEqDiff, Nat.reduceAdd, Nat.reduceLeDiff, Nat.reduceMul, Nat.reduceSub, Int.reduceToNat, Int.reduceLT, Int.reduceLE, decide_eq_false h1, decide_eq_true h2, e]
    · have e : cmpI a b = 0 := by unfold cmpI; rw [if_neg h1, if_neg h2]
      simp only [go_sem, Int.reduceBEq, Int.reduceBNe, Int.reduceNeg, reduceCtorEq, Nat.reduceEqDiff, Nat.reduceAdd, Nat.reduceLeDiff, Nat.reduceMul, Nat.reduceSub, Int.reduceToNat, Int.reduceLT, Int.reduceLE, decide_eq_false h1, decide_eq_false h2, e]

theorem cmpOr {a b : Int} {q : Nat} (hb : Bk m q [.int .i64 a, .int .i64 b] 1) : WC R F.cmp_Or_int [.slice (some ⟨q, 0, none⟩) 2 2] m fun r m' => r = .int .i64 (if a ≠ 0 then a else b) ∧ m' = m := by
  refine WC.of R.cmp_Or_int rfl ?_
  have l0 : aLoad false 1 m (.pointer (some ⟨q, 0, none⟩)) = some (.int .i64 a) := by simp only [go_sem, Int.reduceBEq, Int.reduceBNe, Int.reduceNeg, reduceCtorEq, Nat.reduceEqDiff, Nat.reduceAdd, Nat.reduceLeDiff, Nat.reduceMul, Nat.reduceSub, Int.reduceToNat, Int.reduceLT, Int.reduceLE, load_w, load_a, store_b, idxS_b, set_blk, new_blk, set_next, new_next, len_s, ldW_c, ldA_c, stB_c, toArr_one, size_one, toList_toArr, size_toArr, List.length_cons, List.length_nil, List.getElem?_cons_zero, List.getElem?_cons_succ, Nat.zero_add, Nat.add_zero, hb.at_]
  have l1 : aLoad false 1 m (.pointer (some ⟨q, 1, none⟩)) = some (.int .i64 b) := by simp only [go_sem, Int.reduceBEq, Int.reduceBNe, Int.reduceNeg, reduceCtorEq, Nat.reduceEqDiff, Nat.reduceAdd, Nat.reduceLeDiff, Nat.reduceMul, Nat.reduceSub, Int.reduceToNat, Int.reduceLT, Int.reduceLE, load_w, load_a, store_b, idxS_b, set_blk, new_blk, set_next, new_next, len_s, ldW_c, ldA_c, stB_c, toArr_one, size_one, toList_toArr, size_toArr, List.length_cons, List.length_nil, List.getElem?_cons_zero, List.getElem?_cons_succ, Nat.zero_add, Nat.add_zero, hb.at_]
  have hlen : aLen (.slice (some ⟨q, 0, none⟩) 2 2) = some (.int .i64 2) := rfl
  have i0 : aIdxS 1 (.slice (some ⟨q, 0, none⟩) 2 2) (.int .i64 0) = some (.pointer (some ⟨q, 0, none⟩)) := rfl
  have i1 : aIdxS 1 (.slice (some ⟨q, 0, none⟩) 2 2) (.int .i64 1) = some (.pointer (some ⟨q, 1, none⟩)) := rfl
  simp only [RC.cmp_Or_int, go_sem, Int.reduceBEq, Int.reduceBNe, Int.reduceNeg, reduceCtorEq, Nat.reduceEqDiff, Nat.reduceAdd, Nat.reduceLeDiff, Nat.reduceMul, Nat.reduceSub, Int.reduceToNat, Int.reduceLT, Int.reduceLE, hlen]
  refine WL.of (fun n e m' => ∃ i : Nat, i ≤ 2 ∧ n = 2 - i ∧ m' = m ∧ e = [(3, .int .i64 0), (6, .slice (some ⟨q, 0, none⟩) 2 2), (7, .int .i64 2), (8, .int .i64 i)] ∧ (0 < i → a = 0) ∧ (1 < i → b = 0)) 2
    ⟨0, by omega, by omega, rfl, by simp only [go_sem, Int.reduceBEq, Int.reduceBNe, Int.reduceNeg, reduceCtorEq, Nat.reduceEqDiff, Nat.reduceAdd, Nat.reduceLeDiff, Nat.reduceMul, Nat.reduceSub, Int.reduceToNat, Int.reduceLT, Int.reduceLE] <;> rfl, by omega, by omega⟩ ?_
  rintro _ _ m' ⟨i, hi, rfl, hm, rfl, ha, hb'⟩
  subst hm
  simp only [RB.cmp_Or_int_1, go_sem, Int.reduceBEq, Int.reduceBNe, Int.reduceNeg, reduceCtorEq, Nat.reduceEqDiff, Nat.reduceAdd, Nat.reduceLeDiff, Nat.reduceMul, Nat.reduceSub, Int.reduceToNat, Int.reduceLT, Int.reduceLE]
  have hi3 : i = 0 ∨ i = 1 ∨ i = 2 := by omega
  rcases hi3 with rfl | rfl | rfl
  · have w0 : IntKind.wrap .i64 (0 + 1) = 1 := rfl
    simp only [go_sem, Int.reduceBEq, Int.reduceBNe, Int.reduceNeg, reduceCtorEq, Nat.reduceEqDiff, Nat.reduceAdd, Nat.reduceLeDiff, Nat.reduceMul, Nat.reduceSub, Int.reduceToNat, Int.reduceLT, Int.reduceLE, i0, l0]
    by_cases h : a = 0
    · have e : (a != 0) = false := by rw [h]; rfl
      simp only [go_sem, Int.reduceBEq, Int.reduceBNe, Int.reduceNeg, reduceCtorEq, Nat.reduceEqDiff, Nat.reduceAdd, Nat.reduceLeDiff, Nat.reduceMul, Nat.reduceSub, Int.reduceToNat, Int.reduceLT, Int.reduceLE, e, w0]
      exact ⟨1, by omega, 1, by omega, rfl, rfl, fun _ => h, by omega⟩
    · have e : (a != 0) = true := by rw [bne_iff_ne]; exact h
      simp only [go_sem, Int.reduceBEq, Int.reduceBNe, Int.reduceNeg, reduceCtorEq, Nat.reduceEqDiff, Nat.reduceAdd, Nat.reduceLeDiff, Nat.reduceMul, Nat.reduceSub, Int.reduceToNat, Int.reduceLT, Int.reduceLE, e]
      rw [if_pos h]
  · have w0 : IntKind.wrap .i64 (1 + 1) = 2 := rfl
    have ha0 := ha (by omega)
    simp only [go_sem, Int.reduceBEq, Int.reduceBNe, Int.reduceNeg, reduceCtorEq, Nat.reduceEqDiff, Nat.reduceAdd, Nat.reduceLeDiff, Nat.reduceMul, Nat.reduceSub, Int.reduceToNat, Int.reduceLT, Int.reduceLE, i1, l1]
    by_cases h : b = 0
    · have e : (b != 0) = false := by rw [h]; rfl
      simp only [go_sem, Int.reduceBEq, Int.reduceBNe, Int.reduceNeg, reduceCtorEq, Nat.reduceEqDiff, Nat.reduceAdd, Nat.reduceLeDiff, Nat.reduceMul, Nat.reduceSub, Int.reduceToNat, Int.reduceLT, Int.reduceLE, e, w0]
      exact ⟨0, by omega, 2, by omega, rfl, rfl, fun _ => ha0, fun _ => h⟩
    · have e : (b != 0) = true := by rw [bne_iff_ne]; exact h
      simp only [go_sem, Int.reduceBEq, Int.reduceBNe, Int.reduceNeg, reduceCtorEq, Nat.reduceEqDiff, Nat.reduceAdd, Nat.reduceLeDiff, Nat.reduceMul, Nat.reduceSub, Int.reduceToNat, Int.reduceLT, Int.reduceLE, e]
      rw [if_neg (by simp [ha0])]
  · simp only [go_sem, Int.reduceBEq, Int.reduceBNe, Int.reduceNeg, reduceCtorEq, Nat.reduceEqDiff, Nat.reduceAdd, Nat.reduceLeDiff, Nat.reduceMul, Nat.reduceSub, Int.reduceToNat, Int.reduceLT, Int.reduceLE]
    rw [if_neg (by simp [ha (by omega)]), hb' (by omega)]

def cfO (a b : Sp) : Int := if cmpI b.2 a.2 ≠ 0 then cmpI b.2 a.2 else cmpI a.1 b.1
theorem cfO_neg {a b : Sp} : cfO a b < 0 ↔ ahdO a b := by
  unfold cfO cmpI ahdO
  split <;> split <;> (try split) <;> (try split) <;> omega

theorem st2 {M : Mem} {b : Nat} {x y : Value} (h : Bk M b [x, y] 2) : aLoad true 2 M (.pointer (some ⟨b, 0, none⟩)) = some (.agg #[x, y]) := by
  simp only [go_sem, Int.reduceBEq, Int.reduceBNe, Int.reduceNeg, reduceCtorEq, Nat.reduceEqDiff, Nat.reduceAdd, Nat.reduceLeDiff, Nat.reduceMul, Nat.reduceSub, Int.reduceToNat, Int.reduceLT, Int.reduceLE, load_w, load_a, store_b, idxS_b, set_blk, new_blk, set_next, new_next, len_s, ldW_c, ldA_c, stB_c, toArr_one, size_one, toList_toArr, size_toArr, List.length_cons, List.length_nil, List.getElem?_cons_zero, List.getElem?_cons_succ, Nat.zero_add, Nat.add_zero, h.at_]
theorem ld2_0 {M : Mem} {b : Nat} {x y : Value} (h : Bk M b [x, y] 2) : aLoad false 1 M (.pointer (some ⟨b, 0, none⟩)) = some x := by
  simp only [go_sem, Int.reduceBEq, Int.reduceBNe, Int.reduceNeg, reduceCtorEq, Nat.reduceEqDiff, Nat.reduceAdd, Nat.reduceLeDiff, Nat.reduceMul, Nat.reduceSub, Int.reduceToNat, Int.reduceLT, Int.reduceLE, load_w, load_a, store_b, idxS_b, set_blk, new_blk, set_next, new_next, len_s, ldW_c, ldA_c, stB_c, toArr_one, size_one, toList_toArr, size_toArr, List.length_cons, List.length_nil, List.getElem?_cons_zero, List.getElem?_cons_succ, Nat.zero_add, Nat.add_zero, h.at_]
theorem ld2_1 {M : Mem} {b : Nat} {x y : Value} (h : Bk M b [x, y] 2) : aLoad false 1 M (.pointer (some ⟨b, 1, none⟩)) = some y := by
  simp only [go_sem, Int.reduceBEq, Int.reduceBNe, Int.reduceNeg, reduceCtorEq, Nat.reduceEqDiff, Nat.reduceAdd, Nat.reduceLeDiff, Nat.reduceMul, Nat.reduceSub, Int.reduceToNat, Int.reduceLT, Int.reduceLE, load_w, load_a, store_b, idxS_b, set_blk, new_blk, set_next, new_next, len_s, ldW_c, ldA_c, stB_c, toArr_one, size_one, toList_toArr, size_toArr, List.length_cons, List.length_nil, List.getElem?_cons_zero, List.getElem?_cons_succ, Nat.zero_add, Nat.add_zero, h.at_]

theorem orCmp (m : Mem) (a b : Sp) : WC R F.order_compare [.agg (spV a).toArray, .agg (spV b).toArray] m fun r m' => r = .int .i64 (cfO a b) ∧ Ext m m' := by
  refine WC.of R.order_compare rfl ?_
  simp only [RC.order_compare, spV, go_sem, Int.reduceBEq, Int.reduceBNe, Int.reduceNeg, reduceCtorEq, Nat.reduceEqDiff, Nat.reduceAdd, Nat.reduceLeDiff, Nat.reduceMul, Nat.reduceSub, Int.reduceToNat, Int.reduceLT, Int.reduceLE]
  have hx1 : Ext m (m.new (.cells [.int .i64 a.1, .int .i64 a.2] (some 2))) := Ext.new
  have hb1 : Bk (m.new (.cells [.int .i64 a.1, .int .i64 a.2] (some 2))) m.next [.int .i64 a.1, .int .i64 a.2] 2 := Bk.new
  generalize m.new (.cells [.int .i64 a.1, .int .i64 a.2] (some 2)) = m1 at hx1 hb1 ⊢
  have hx2 : Ext m1 (m1.new (.cells [.int .i64 b.1, .int .i64 b.2] (some 2))) := Ext.new
  have hb2 : Bk (m1.new (.cells [.int .i64 b.1, .int .i64 b.2] (some 2))) m1.next [.int .i64 b.1, .int .i64 b.2] 2 := Bk.new
  have hb12 := hb1.keep hx2
  generalize m1.new (.cells [.int .i64 b.1, .int .i64 b.2] (some 2)) = m2 at hx2 hb2 hb12 ⊢
  simp only [go_sem, Int.reduceBEq, Int.reduceBNe, Int.reduceNeg, reduceCtorEq, Nat.reduceEqDiff, Nat.reduceAdd, Nat.reduceLeDiff, Nat.reduceMul, Nat.reduceSub, Int.reduceToNat, Int.reduceLT, Int.reduceLE, ld2_1 hb2, ld2_1 hb12, ld2_0 hb2, ld2_0 hb12]
  refine gC.of cmpInt ?_
  rintro _ m' ⟨rfl, hm⟩
  replace hm := hm.symm
  subst hm
  simp only [go_sem, Int.reduceBEq, Int.reduceBNe, Int.reduceNeg, reduceCtorEq, Nat.reduceEqDiff, Nat.reduceAdd, Nat.reduceLeDiff, Nat.reduceMul, Nat.reduceSub, Int.reduceToNat, Int.reduceLT, Int.reduceLE]
  refine gC.of cmpInt ?_
  rintro _ m' ⟨rfl, hm⟩
  replace hm := hm.symm
  subst hm
  simp only [go_sem, Int.reduceBEq, Int.reduceBNe, Int.reduceNeg, reduceCtorEq, Nat.reduceEqDiff, Nat.reduceAdd, Nat.reduceLeDiff, Nat.reduceMul, Nat.reduceSub, Int.reduceToNat, Int.reduceLT, Int.reduceLE]
  have hx3 : Ext m2 ((m2.bump 13).set (m2.next + 10) (some (.cells [.int .i64 (cmpI b.2 a.2), .int .i64 (cmpI a.1 b.1)] (some 1)))) := Ext.set ⟨by simp, fun b hb => rfl⟩ (by omega)
  have hb3 : Bk ((m2.bump 13).set (m2.next + 10) (some (.cells [.int .i64 (cmpI b.2 a.2), .int .i64 (cmpI a.1 b.1)] (some 1)))) (m2.next + 10) [.int .i64 (cmpI b.2 a.2), .int .i64 (cmpI a.1 b.1)] 1 := ⟨by simp [Mem.set], by simp [Mem.set]⟩
  generalize (m2.bump 13).set (m2.next + 10) (some (.cells [.int .i64 (cmpI b.2 a.2), .int .i64 (cmpI a.1 b.1)] (some 1))) = m3 at hx3 hb3 ⊢
  refine gC.of (cmpOr hb3) ?_
  rintro _ m' ⟨rfl, hm⟩
  subst hm
  simp only [go_sem, Int.reduceBEq, Int.reduceBNe, Int.reduceNeg, reduceCtorEq, Nat.reduceEqDiff, Nat.reduceAdd, Nat.reduceLeDiff, Nat.reduceMul, Nat.reduceSub, Int.reduceToNat, Int.reduceLT, Int.reduceLE]
  exact ⟨rfl, (hx1.trans hx2).trans hx3⟩

theorem orAhead (m : Mem) (a b : Sp) : WC R F.order_Ahead [.agg (spV a).toArray, .agg (spV b).toArray] m fun r m' => r = .bool (decide (ahdO a b)) ∧ Ext m m' := by
  refine WC.of R.order_Ahead rfl ?_
  simp only [RC.order_Ahead, spV, go_sem, Int.reduceBEq, Int.reduceBNe, Int.reduceNeg, reduceCtorEq, Nat.reduceEqDiff, Nat.reduceAdd, Nat.reduceLeDiff, Nat.reduceMul, Nat.reduceSub, Int.reduceToNat, Int.reduceLT, Int.reduceLE]
  have hx1 : Ext m (m.new (.cells [.int .i64 a.1, .int .i64 a.2] (some 2))) := Ext.new
  have hb1 : Bk (m.new (.cells [.int .i64 a.1, .int .i64 a.2] (some 2))) m.next [.int .i64 a.1, .int .i64 a.2] 2 := Bk.new
  generalize m.new (.cells [.int .i64 a.1, .int .i64 a.2] (some 2)) = m1 at hx1 hb1 ⊢
  have hx2 : Ext m1 (m1.new (.cells [.int .i64 b.1, .int .i64 b.2] (some 2))) := Ext.new
  have hb2 : Bk (m1.new (.cells [.int .i64 b.1, .int .i64 b.2] (some 2))) m1.next [.int .i64 b.1, .int .i64 b.2] 2 := Bk.new
  have hb12 := hb1.keep hx2
  generalize m1.new (.cells [.int .i64 b.1, .int .i64 b.2] (some 2)) = m2 at hx2 hb2 hb12 ⊢
  simp only [go_sem, Int.reduceBEq, Int.reduceBNe, Int.reduceNeg, reduceCtorEq, Nat.reduceEqDiff, Nat.reduceAdd, Nat.reduceLeDiff, Nat.reduceMul, Nat.reduceSub, Int.reduceToNat, Int.reduceLT, Int.reduceLE, st2 hb12, st2 hb2]
  refine gC.of (orCmp m2 a b) ?_
  rintro _ m3 ⟨rfl, hx3⟩
  have e : decide (cfO a b < 0) = decide (ahdO a b) := by rw [decide_eq_decide]; exact cfO_neg
  simp only [go_sem, Int.reduceBEq, Int.reduceBNe, Int.reduceNeg, reduceCtorEq, Nat.reduceEqDiff, Nat.reduceAdd, Nat.reduceLeDiff, Nat.reduceMul, Nat.reduceSub, Int.reduceToNat, Int.reduceLT, Int.reduceLE, e]
  exact (hx1.trans hx2).trans hx3

theorem refAhead (m : Mem) (a b : Sp) : WC R F.ref08_Ahead [.agg (spV a).toArray, .agg (spV b).toArray] m fun r m' => r = .bool (decide (ahdO a b)) ∧ Ext m m' := by
  refine WC.of R.ref08_Ahead rfl ?_
  simp only [RC.ref08_Ahead, spV, go_sem, Int.reduceBEq, Int.reduceBNe, Int.reduceNeg, reduceCtorEq, Nat.reduceEqDiff, Nat.reduceAdd, Nat.reduceLeDiff, Nat.reduceMul, Nat.reduceSub, Int.reduceToNat, Int.reduceLT, Int.reduceLE]
  have hx1 : Ext m (m.new (.cells [.int .i64 a.1, .int .i64 a.2] (some 2))) := Ext.new
  have hb1 : Bk (m.new (.cells [.int .i64 a.1, .int .i64 a.2] (some 2))) m.next [.int .i64 a.1, .int .i64 a.2] 2 := Bk.new
  generalize m.new (.cells [.int .i64 a.1, .int .i64 a.2] (some 2)) = m1 at hx1 hb1 ⊢
  have hx2 : Ext m1 (m1.new (.cells [.int .i64 b.1, .int .i64 b.2] (some 2))) := Ext.new
  have hb2 : Bk (m1.new (.cells [.int .i64 b.1, .int .i64 b.2] (some 2))) m1.next [.int .i64 b.1, .int .i64 b.2] 2 := Bk.new
  have hb12 := hb1.keep hx2
  generalize m1.new (.cells [.int .i64 b.1, .int .i64 b.2] (some 2)) = m2 at hx2 hb2 hb12 ⊢
  simp only [go_sem, Int.reduceBEq, Int.reduceBNe, Int.reduceNeg, reduceCtorEq, Nat.reduceEqDiff, Nat.reduceAdd, Nat.reduceLeDiff, Nat.reduceMul, Nat.reduceSub, Int.reduceToNat, Int.reduceLT, Int.reduceLE, ld2_1 hb12, ld2_1 hb2]
  by_cases h1 : b.2 < a.2
  · have e : decide (ahdO a b) = true := decide_eq_true (.inl h1)
    simp only [go_sem, Int.reduceBEq, Int.reduceBNe, Int.reduceNeg, reduceCtorEq, Nat.reduceEqDiff, Nat.reduceAdd, Nat.reduceLeDiff, Nat.reduceMul, Nat.reduceSub, Int.reduceToNat, Int.reduceLT, Int.reduceLE, decide_eq_true h1, e]
    exact hx1.trans hx2
  · by_cases h2 : a.2 = b.2
    · have e2 : (a.2 == b.2) = true := beq_iff_eq.2 h2
      have e : decide (a.1 < b.1) = decide (ahdO a b) := by rw [decide_eq_decide]; unfold ahdO; omega
      simp only [go_sem, Int.reduceBEq, Int.reduceBNe, Int.reduceNeg, reduceCtorEq, Nat.reduceEqDiff, Nat.reduceAdd, Nat.reduceLeDiff, Nat.reduceMul, Nat.reduceSub, Int.reduceToNat, Int.reduceLT, Int.reduceLE, decide_eq_false h1, ld2_1 hb12, ld2_1 hb2, e2, ld2_0 hb12, ld2_0 hb2, e]
      exact hx1.trans hx2
    · have e2 : (a.2 == b.2) = false := by rw [beq_eq_false_iff_ne]; exact h2
      have e : decide (ahdO a b) = false := decide_eq_false (by unfold ahdO; omega)
      simp only [go_sem, Int.reduceBEq, Int.reduceBNe, Int.reduceNeg, reduceCtorEq, Nat.reduceEqDiff, Nat.reduceAdd, Nat.reduceLeDiff, Nat.reduceMul, Nat.reduceSub, Int.reduceToNat, Int.reduceLT, Int.reduceLE, decide_eq_false h1, ld2_1 hb12, ld2_1 hb2, e2, e]
      exact hx1.trans hx2

/-- Where a want goes. -/
theorem orPut_loop {m0 : Mem} {b : Nat} {l : List Sp} {v : Value} {w : Sp} (hs : Sl m 2 l.length (l.flatMap spV) v) (hb : SlLt m v) (hl : l.length < 100000) (hB : Bk m b [.int .i64 w.1, .int .i64 w.2] 2) :
    WL R [0, 3, 5] RB.order_Put_1 [(0, v), (3, .pointer (some ⟨b, 0, none⟩)), (5, .int .i64 (0 : Nat))] m fun x e' m' =>
      Ext m m' ∧ x = .exit 0 ∧ ∃ (j : Nat) (rest : Env), j ≤ l.length ∧ putO l w = l.take j ++ w :: l.drop j ∧ e' = (0, v) :: (3, .pointer (some ⟨b, 0, none⟩)) :: (5, .int .i64 j) :: rest := by
  refine WL.of (fun n e m' => ∃ j : Nat, j ≤ l.length ∧ n = l.length - j ∧ Ext m m' ∧ e = [(0, v), (3, .pointer (some ⟨b, 0, none⟩)), (5, .int .i64 j)] ∧ ∀ q (h : q < l.length), q < j → ¬ ahdO w l[q]) l.length
    ⟨0, by omega, by omega, Ext.refl _, by simp only [go_sem, Int.reduceBEq, Int.reduceBNe, Int.reduceNeg, reduceCtorEq, Nat.reduceEqDiff, Nat.reduceAdd, Nat.reduceLeDiff, Nat.reduceMul, Nat.reduceSub, Int.reduceToNat, Int.reduceLT, Int.reduceLE] <;> rfl, fun _ _ h => by omega⟩ ?_
  rintro _ _ m1 ⟨j, hj, rfl, hx, rfl, hall⟩
  have hs1 := hs.keep hb hx
  have hB1 := hB.keep hx
  simp only [RB.order_Put_1, go_sem, Int.reduceBEq, Int.reduceBNe, Int.reduceNeg, reduceCtorEq, Nat.reduceEqDiff, Nat.reduceAdd, Nat.reduceLeDiff, Nat.reduceMul, Nat.reduceSub, Int.reduceToNat, Int.reduceLT, Int.reduceLE, hs1.len]
  by_cases g1 : j < l.length
  · have e1 : decide ((j : Int) < (l.length : Int)) = true := decide_eq_true (by omega)
    have s1 := step1 (show j < 1000000 by omega)
    obtain ⟨bw, ow, q1, q2, -, -⟩ := hs1.elem spV_len (k := .i64) (i := j) g1
    simp only [go_sem, Int.reduceBEq, Int.reduceBNe, Int.reduceNeg, reduceCtorEq, Nat.reduceEqDiff, Nat.reduceAdd, Nat.reduceLeDiff, Nat.reduceMul, Nat.reduceSub, Int.reduceToNat, Int.reduceLT, Int.reduceLE, e1, st2 hB1, q1, q2]
    refine gC.of (orAhead m1 w l[j]) ?_
    rintro _ m2 ⟨rfl, hx2⟩
    by_cases g2 : ahdO w l[j]
    · simp only [go_sem, Int.reduceBEq, Int.reduceBNe, Int.reduceNeg, reduceCtorEq, Nat.reduceEqDiff, Nat.reduceAdd, Nat.reduceLeDiff, Nat.reduceMul, Nat.reduceSub, Int.reduceToNat, Int.reduceLT, Int.reduceLE, decide_eq_true g2]
      exact ⟨hx.trans hx2, j, _, hj, putO_at hj hall fun _ => g2, rfl⟩
    · simp only [go_sem, Int.reduceBEq, Int.reduceBNe, Int.reduceNeg, reduceCtorEq, Nat.reduceEqDiff, Nat.reduceAdd, Nat.reduceLeDiff, Nat.reduceMul, Nat.reduceSub, Int.reduceToNat, Int.reduceLT, Int.reduceLE, decide_eq_false g2, s1]
      refine ⟨l.length - (j + 1), by omega, j + 1, by omega, rfl, hx.trans hx2, rfl, fun q h hq => ?_⟩
      by_cases e : q = j
      · subst e; exact g2
      · exact hall q h (by omega)
  · have e1 : decide ((j : Int) < (l.length : Int)) = false := decide_eq_false (by omega)
    simp only [go_sem, Int.reduceBEq, Int.reduceBNe, Int.reduceNeg, reduceCtorEq, Nat.reduceEqDiff, Nat.reduceAdd, Nat.reduceLeDiff, Nat.reduceMul, Nat.reduceSub, Int.reduceToNat, Int.reduceLT, Int.reduceLE, e1]
    exact ⟨hx, j, _, hj, putO_at hj hall fun h => absurd h g1, rfl⟩
theorem refPut_loop {m0 : Mem} {b : Nat} {l : List Sp} {v : Value} {w : Sp} (hs : Sl m 2 l.length (l.flatMap spV) v) (hb : SlLt m v) (hl : l.length < 100000) (hB : Bk m b [.int .i64 w.1, .int .i64 w.2] 2) :
    WL R [0, 3, 5] RB.ref08_Put_1 [(0, v), (3, .pointer (some ⟨b, 0, none⟩)), (5, .int .i64 (0 : Nat))] m fun x e' m' =>
      Ext m m' ∧ x = .exit 0 ∧ ∃ (j : Nat) (rest : Env), j ≤ l.length ∧ putO l w = l.take j ++ w :: l.drop j ∧ e' = (0, v) :: (3, .pointer (some ⟨b, 0, none⟩)) :: (5, .int .i64 j) :: rest := by
  refine WL.of (fun n e m' => ∃ j : Nat, j ≤ l.length ∧ n = l.length - j ∧ Ext m m' ∧ e = [(0, v), (3, .pointer (some ⟨b, 0, none⟩)), (5, .int .i64 j)] ∧ ∀ q (h : q < l.length), q < j → ¬ ahdO w l[q]) l.length
    ⟨0, by omega, by omega, Ext.refl _, by simp only [go_sem, Int.reduceBEq, Int.reduceBNe, Int.reduceNeg, reduceCtorEq, Nat.reduceEqDiff, Nat.reduceAdd, Nat.reduceLeDiff, Nat.reduceMul, Nat.reduceSub, Int.reduceToNat, Int.reduceLT, Int.reduceLE] <;> rfl, fun _ _ h => by omega⟩ ?_
  rintro _ _ m1 ⟨j, hj, rfl, hx, rfl, hall⟩
  have hs1 := hs.keep hb hx
  have hB1 := hB.keep hx
  simp only [RB.ref08_Put_1, go_sem, Int.reduceBEq, Int.reduceBNe, Int.reduceNeg, reduceCtorEq, Nat.reduceEqDiff, Nat.reduceAdd, Nat.reduceLeDiff, Nat.reduceMul, Nat.reduceSub, Int.reduceToNat, Int.reduceLT, Int.reduceLE, hs1.len]
  by_cases g1 : j < l.length
  · have e1 : decide ((j : Int) < (l.length : Int)) = true := decide_eq_true (by omega)
    have s1 := step1 (show j < 1000000 by omega)
    obtain ⟨bw, ow, q1, q2, -, -⟩ := hs1.elem spV_len (k := .i64) (i := j) g1
    simp only [go_sem, Int.reduceBEq, Int.reduceBNe, Int.reduceNeg, reduceCtorEq, Nat.reduceEqDiff, Nat.reduceAdd, Nat.reduceLeDiff, Nat.reduceMul, Nat.reduceSub, Int.reduceToNat, Int.reduceLT, Int.reduceLE, e1, st2 hB1, q1, q2]
    refine gC.of (refAhead m1 w l[j]) ?_
    rintro _ m2 ⟨rfl, hx2⟩
    by_cases g2 : ahdO w l[j]
    · simp only [go_sem, Int.reduceBEq, Int.reduceBNe, Int.reduceNeg, reduceCtorEq, Nat.reduceEqDiff, Nat.reduceAdd, Nat.reduceLeDiff, Nat.reduceMul, Nat.reduceSub, Int.reduceToNat, Int.reduceLT, Int.reduceLE, decide_eq_true g2]
      exact ⟨hx.trans hx2, j, _, hj, putO_at hj hall fun _ => g2, rfl⟩
    · simp only [go_sem, Int.reduceBEq, Int.reduceBNe, Int.reduceNeg, reduceCtorEq, Nat.reduceEqDiff, Nat.reduceAdd, Nat.reduceLeDiff, Nat.reduceMul, Nat.reduceSub, Int.reduceToNat, Int.reduceLT, Int.reduceLE, decide_eq_false g2, s1]
      refine ⟨l.length - (j + 1), by omega, j + 1, by omega, rfl, hx.trans hx2, rfl, fun q h hq => ?_⟩
      by_cases e : q = j
      · subst e; exact g2
      · exact hall q h (by omega)
  · have e1 : decide ((j : Int) < (l.length : Int)) = false := decide_eq_false (by omega)
    simp only [go_sem, Int.reduceBEq, Int.reduceBNe, Int.reduceNeg, reduceCtorEq, Nat.reduceEqDiff, Nat.reduceAdd, Nat.reduceLeDiff, Nat.reduceMul, Nat.reduceSub, Int.reduceToNat, Int.reduceLT, Int.reduceLE, e1]
    exact ⟨hx, j, _, hj, putO_at hj hall fun h => absurd h g1, rfl⟩

theorem orPut {l : List Sp} {v : Value} {w : Sp} (hs : Sl m 2 l.length (l.flatMap spV) v) (hb : SlLt m v) (hl : l.length < 100000) :
    WC R F.order_Put [v, .agg (spV w).toArray] m fun r m' => Own m m' 2 (putO l w).length ((putO l w).flatMap spV) r ∧ Ext m m' := by
  refine WC.of R.order_Put rfl ?_
  simp only [RC.order_Put, spV, go_sem, Int.reduceBEq, Int.reduceBNe, Int.reduceNeg, reduceCtorEq, Nat.reduceEqDiff, Nat.reduceAdd, Nat.reduceLeDiff, Nat.reduceMul, Nat.reduceSub, Int.reduceToNat, Int.reduceLT, Int.reduceLE]
  have hx1 : Ext m (m.new (.cells [.int .i64 w.1, .int .i64 w.2] (some 2))) := Ext.new
  have hb1 : Bk (m.new (.cells [.int .i64 w.1, .int .i64 w.2] (some 2))) m.next [.int .i64 w.1, .int .i64 w.2] 2 := Bk.new
  generalize m.new (.cells [.int .i64 w.1, .int .i64 w.2] (some 2)) = m1 at hx1 hb1 ⊢
  refine WL.mono (orPut_loop (m0 := m) (hs.keep hb hx1) (hb.keep hx1) hl hb1) ?_
  rintro _ _ m2 ⟨hx2, rfl, j, rest, hj, hput, rfl⟩
  have hx02 := hx1.trans hx2
  have hb12 := hb1.keep hx2
  have hn2 := hx2.next
  have hsB := (hs.keep hb hx02).keep (hb.keep hx02) (Ext.bump (n := 7))
  have hlB := (hb.keep hx02).keep (Ext.bump (m := m2) (n := 7))
  have hone : ∀ l : List Sp, oneCells (l.flatMap spV) = true := spV_flat
  simp only [go_sem, Int.reduceBEq, Int.reduceBNe, Int.reduceNeg, reduceCtorEq, Nat.reduceEqDiff, Nat.reduceAdd, Nat.reduceLeDiff, Nat.reduceMul, Nat.reduceSub, Int.reduceToNat, Int.reduceLT, Int.reduceLE, st2 hb12]
  refine gC.of (wt_Clone spV_len (hone l) hsB hlB (by omega)) ?_
  rintro cv m3 ⟨hO, hx3, -⟩
  have hk3 := hx3.same m.next (by have := hb12.lt; simp; omega)
  have hnb : (m2.bump 7).next = m2.next + 7 := rfl
  have hn3 := hx3.next
  simp only [go_sem, Int.reduceBEq, Int.reduceBNe, Int.reduceNeg, reduceCtorEq, Nat.reduceEqDiff, Nat.reduceAdd, Nat.reduceLeDiff, Nat.reduceMul, Nat.reduceSub, Int.reduceToNat, Int.reduceLT, Int.reduceLE, watchOk_cons, watchOk_nil, blkOf_ptr, hk3]
  have hu4 : Upd m3 (m3.set (m2.next + 4) (some (.cells [.int .i64 w.1, .int .i64 w.2] (some 2)))) [m2.next + 4] := Upd.set (by simp)
  have hb4 : Bk (m3.set (m2.next + 4) (some (.cells [.int .i64 w.1, .int .i64 w.2] (some 2)))) (m2.next + 4) [.int .i64 w.1, .int .i64 w.2] 2 := ⟨by simp [Mem.set], by simp [Mem.set]; omega⟩
  generalize m3.set (m2.next + 4) (some (.cells [.int .i64 w.1, .int .i64 w.2] (some 2))) = m4 at hu4 hb4 ⊢
  have hge := hO.ge
  have hqv : m2.next + 4 ∉ vb cv := fun h => by have := hge _ h; omega
  have hO4 := (hO.weak (Ext.bump (m := m2) (n := 7))).updq hu4 (fun c hc => by simp; intro e; subst e; exact hqv hc)
  have hx4 : Ext m2 m4 := hu4.ext_of ((Ext.bump (m := m2) (n := 7)).trans hx3) (by simp)
  obtain ⟨v', m5, e1, e2, e3⟩ := insert_own (u := 2) (by_ := 16) (i := j) hO4 hx4 hb4 hqv rfl rfl (by omega) (by omega) (by omega) (by omega) hj
  refine gC.of (WC.ext (Q := fun v'' m'' => v'' = v' ∧ m'' = m5) R.slices_Insert_api_Want_api_Want (v := v') (m' := m5) e1 ⟨rfl, rfl⟩) ?_
  rintro _ _ ⟨rfl, rfl⟩
  simp only [go_sem, Int.reduceBEq, Int.reduceBNe, Int.reduceNeg, reduceCtorEq, Nat.reduceEqDiff, Nat.reduceAdd, Nat.reduceLeDiff, Nat.reduceMul, Nat.reduceSub, Int.reduceToNat, Int.reduceLT, Int.reduceLE]
  have hf : insRow 2 j (l.flatMap spV) [.int .i64 w.1, .int .i64 w.2] = (putO l w).flatMap spV := by rw [hput]; exact insRow_flat (f := spV) (a := w) spV_len hj
  rw [hf] at e2
  rw [putO_len]
  exact ⟨e2.weak hx02, hx02.trans e3⟩

theorem orSort {l : List Sp} {v : Value} (hs : Sl m 2 l.length (l.flatMap spV) v) (hb : SlLt m v) (hl : l.length < 100000) :
    WC R F.order_Sort [v] m fun r m' => Own m m' 2 (sortO l).length ((sortO l).flatMap spV) r ∧ Ext m m' := by
  refine WC.of R.order_Sort rfl ?_
  simp only [RC.order_Sort, go_sem, Int.reduceBEq, Int.reduceBNe, Int.reduceNeg, reduceCtorEq, Nat.reduceEqDiff, Nat.reduceAdd, Nat.reduceLeDiff, Nat.reduceMul, Nat.reduceSub, Int.reduceToNat, Int.reduceLT, Int.reduceLE]
  refine gC.of (wt_Clone spV_len (spV_flat l) hs hb (by omega)) ?_
  rintro cv m1 ⟨hO, hx1, -⟩
  simp only [go_sem, Int.reduceBEq, Int.reduceBNe, Int.reduceNeg, reduceCtorEq, Nat.reduceEqDiff, Nat.reduceAdd, Nat.reduceLeDiff, Nat.reduceMul, Nat.reduceSub, Int.reduceToNat, Int.reduceLT, Int.reduceLE]
  have hO' : Go.Sort.SWO fun x y : Sp => decide (cfO x y < 0) := by
    have e : (fun x y : Sp => decide (cfO x y < 0)) = fun x y : Sp => decide (ahdO x y) := by funext x y; rw [decide_eq_decide]; exact cfO_neg
    rw [e]
    exact ⟨fun x => by simp [ahdO], fun x y z h1 h2 => by simp only [decide_eq_true_eq] at *; unfold ahdO at *; omega, fun x y z h1 h2 => by simp only [decide_eq_false_iff_not] at *; unfold ahdO at *; omega⟩
  refine gC.of (so_own spV_len spV_one orCmp hO' hO hx1 (by omega)) ?_
  rintro _ m2 ⟨L, hp, hso, hO2, hx2, -⟩
  have hL : L = sortO l := sortO_eq hp (hso.imp fun {a b} h => by rw [cfO_neg] at h; exact h)
  subst hL
  simp only [go_sem, Int.reduceBEq, Int.reduceBNe, Int.reduceNeg, reduceCtorEq, Nat.reduceEqDiff, Nat.reduceAdd, Nat.reduceLeDiff, Nat.reduceMul, Nat.reduceSub, Int.reduceToNat, Int.reduceLT, Int.reduceLE]
  exact ⟨hO2, hx2⟩

theorem orWithout1 {e : Sp} {x : Int} {b : Nat} (hb : Bk m b [.int .i64 x] 1) : WC R F.order_Without_1 [.agg (spV e).toArray, .pointer (some ⟨b, 0, none⟩)] m fun r m' => r = .bool (e.1 == x) ∧ Ext m m' := by
  refine WC.of R.order_Without_1 rfl ?_
  simp only [RC.order_Without_1, spV, go_sem, Int.reduceBEq, Int.reduceBNe, Int.reduceNeg, reduceCtorEq, Nat.reduceEqDiff, Nat.reduceAdd, Nat.reduceLeDiff, Nat.reduceMul, Nat.reduceSub, Int.reduceToNat, Int.reduceLT, Int.reduceLE]
  have hx1 : Ext m (m.new (.cells [.int .i64 e.1, .int .i64 e.2] (some 2))) := Ext.new
  have hb1 : Bk (m.new (.cells [.int .i64 e.1, .int .i64 e.2] (some 2))) m.next [.int .i64 e.1, .int .i64 e.2] 2 := Bk.new
  have hb' := hb.keep hx1
  generalize m.new (.cells [.int .i64 e.1, .int .i64 e.2] (some 2)) = m1 at hx1 hb1 hb' ⊢
  have lx : aLoad false 1 m1 (.pointer (some ⟨b, 0, none⟩)) = some (.int .i64 x) := by simp only [go_sem, Int.reduceBEq, Int.reduceBNe, Int.reduceNeg, reduceCtorEq, Nat.reduceEqDiff, Nat.reduceAdd, Nat.reduceLeDiff, Nat.reduceMul, Nat.reduceSub, Int.reduceToNat, Int.reduceLT, Int.reduceLE, load_w, load_a, store_b, idxS_b, set_blk, new_blk, set_next, new_next, len_s, ldW_c, ldA_c, stB_c, toArr_one, size_one, toList_toArr, size_toArr, List.length_cons, List.length_nil, List.getElem?_cons_zero, List.getElem?_cons_succ, Nat.zero_add, Nat.add_zero, hb'.at_]
  simp only [go_sem, Int.reduceBEq, Int.reduceBNe, Int.reduceNeg, reduceCtorEq, Nat.reduceEqDiff, Nat.reduceAdd, Nat.reduceLeDiff, Nat.reduceMul, Nat.reduceSub, Int.reduceToNat, Int.reduceLT, Int.reduceLE, ld2_0 hb1, lx]
  exact hx1

theorem orWithout {l : List Sp} {v : Value} {x : Int} (hs : Sl m 2 l.length (l.flatMap spV) v) (hb : SlLt m v) (hl : l.length < 100000) :
    WC R F.order_Without [v, .int .i64 x] m fun r m' => Own m m' 2 (l.filter fun w => !(w.1 == x)).length ((l.filter fun w => !(w.1 == x)).flatMap spV) r ∧ Ext m m' := by
  refine WC.of R.order_Without rfl ?_
  simp only [RC.order_Without, go_sem, Int.reduceBEq, Int.reduceBNe, Int.reduceNeg, reduceCtorEq, Nat.reduceEqDiff, Nat.reduceAdd, Nat.reduceLeDiff, Nat.reduceMul, Nat.reduceSub, Int.reduceToNat, Int.reduceLT, Int.reduceLE]
  have hx1 : Ext m (m.new (.cells [.int .i64 x] (some 1))) := Ext.new
  have hb1 : Bk (m.new (.cells [.int .i64 x] (some 1))) m.next [.int .i64 x] 1 := Bk.new
  generalize m.new (.cells [.int .i64 x] (some 1)) = m1 at hx1 hb1 ⊢
  refine gC.of (wt_Clone spV_len (spV_flat l) (hs.keep hb hx1) (hb.keep hx1) (by omega)) ?_
  rintro cv m2 ⟨hO, hx2, -⟩
  simp only [go_sem, Int.reduceBEq, Int.reduceBNe, Int.reduceNeg, reduceCtorEq, Nat.reduceEqDiff, Nat.reduceAdd, Nat.reduceLeDiff, Nat.reduceMul, Nat.reduceSub, Int.reduceToNat, Int.reduceLT, Int.reduceLE]
  refine gC.of (wt_DeleteFunc (p := fun w => w.1 == x) spV_len spV_one hO hx2 (by omega) fun m3 e hx3 => ?_) ?_
  · rw [gV_cap]
    exact orWithout1 (hb1.keep hx3)
  rintro r m3 ⟨hO3, hx3, -, -⟩
  simp only [go_sem, Int.reduceBEq, Int.reduceBNe, Int.reduceNeg, reduceCtorEq, Nat.reduceEqDiff, Nat.reduceAdd, Nat.reduceLeDiff, Nat.reduceMul, Nat.reduceSub, Int.reduceToNat, Int.reduceLT, Int.reduceLE]
  exact ⟨hO3.weak hx1, hx1.trans hx3⟩

theorem refPut {l : List Sp} {v : Value} {w : Sp} (hs : Sl m 2 l.length (l.flatMap spV) v) (hb : SlLt m v) (hc : Cut 2 m v) (hl : l.length < 100000) :
    WC R F.ref08_Put [v, .agg (spV w).toArray] m fun r m' => Own m m' 2 (putO l w).length ((putO l w).flatMap spV) r ∧ Ext m m' := by
  refine WC.of R.ref08_Put rfl ?_
  simp only [RC.ref08_Put, spV, go_sem, Int.reduceBEq, Int.reduceBNe, Int.reduceNeg, reduceCtorEq, Nat.reduceEqDiff, Nat.reduceAdd, Nat.reduceLeDiff, Nat.reduceMul, Nat.reduceSub, Int.reduceToNat, Int.reduceLT, Int.reduceLE]
  have hx1 : Ext m (m.new (.cells [.int .i64 w.1, .int .i64 w.2] (some 2))) := Ext.new
  have hb1 : Bk (m.new (.cells [.int .i64 w.1, .int .i64 w.2] (some 2))) m.next [.int .i64 w.1, .int .i64 w.2] 2 := Bk.new
  generalize m.new (.cells [.int .i64 w.1, .int .i64 w.2] (some 2)) = m1 at hx1 hb1 ⊢
  refine WL.mono (refPut_loop (m0 := m) (hs.keep hb hx1) (hb.keep hx1) hl hb1) ?_
  rintro _ _ m2 ⟨hx2, rfl, j, rest, hj, hput, rfl⟩
  have hx02 := hx1.trans hx2
  have hs2 := hs.keep hb hx02
  have hl2 := hb.keep hx02
  have hc2 := hc.keep hb hx02
  have hxa : Ext m2 (m2.new (.cells [] (some 2))) := Ext.new
  obtain ⟨vk, t1, t2, -, -⟩ := (hs2.keep hl2 hxa).to (hc2.keep hl2 hxa) (k := .i64) (i := j) (by omega)
  have ht : (l.flatMap spV).take (j * 2) = (l.take j).flatMap spV := by
    have e : l.flatMap spV = (l.take j).flatMap spV ++ (l.drop j).flatMap spV := by rw [← List.flatMap_append, List.take_append_drop]
    rw [e, List.take_left' (by rw [flat_len spV_len, List.length_take]; congr 1; omega)]
  have hd : (l.flatMap spV).drop (j * 2) = (l.drop j).flatMap spV := by
    have e : l.flatMap spV = (l.take j).flatMap spV ++ (l.drop j).flatMap spV := by rw [← List.flatMap_append, List.take_append_drop]
    rw [e, List.drop_left' (by rw [flat_len spV_len, List.length_take]; congr 1; omega)]
  rw [ht] at t2
  obtain ⟨v1, m6, f1, f2, f3⟩ := app_copy (by_ := 16) t2 (spV_flat _) (by omega) (by omega)
  have F1 := app_full f1 t2.src.2 (fun _ _ _ e => by cases e; rfl)
  obtain ⟨v2, m8, f4, f5, f6⟩ := f2.app (by_ := 16) (es := [.int .i64 w.1, .int .i64 w.2]) f3 (by omega) rfl rfl (by omega) (by omega)
  have F2 := app_full f4 rfl F1
  have hx08 := hx02.trans f6
  obtain ⟨vr, t3, t4, -, -⟩ := (hs.keep hb hx08).from (hc.keep hb hx08) (k := .i64) (i := j) (by omega)
  rw [hd] at t4
  obtain ⟨v3, m9, f7, f8, f9⟩ := f5.appAll (by_ := 16) f6 t4 (spV_flat _) (by omega) (by omega) F2
  have hb6 := hb1.keep (hx2.trans f3)
  simp only [go_sem, Int.reduceBEq, Int.reduceBNe, Int.reduceNeg, reduceCtorEq, Nat.reduceEqDiff, Nat.reduceAdd, Nat.reduceLeDiff, Nat.reduceMul, Nat.reduceSub, Int.reduceToNat, Int.reduceLT, Int.reduceLE, t1, f1, st2 hb6, f4, t3, f7]
  have hlen : (putO l w).length = j + 1 + (l.length - j) := by rw [putO_len]; omega
  have hfl : (putO l w).flatMap spV = (l.take j).flatMap spV ++ [.int .i64 w.1, .int .i64 w.2] ++ (l.drop j).flatMap spV := by rw [hput]; simp [spV]
  rw [hlen, hfl]
  exact ⟨f8.weak hx02, hx02.trans f9⟩
end Go.Am
