/- Parts of the proofs of the statements of this seat: Sort3Local, Sort4Local, Sort5Local, Sort6Local, Sort7Local, SpansD, LocalOrderUnits, LocalOrderD, AmCut. No conditions. -/
import Derived.Test.YtndiggibkngjlaaLocalRestPart5
import Derived.Test.YtndiggibkngjlaaLocalRestPart4
import Derived.Test.YtndiggibkngjlaaLocalRestPart3
set_option linter.unusedVariables false
set_option linter.unusedSimpArgs false

/- Sorting a row at local_entry (Local): partitions. Printed out of SortT3.tmpl by sortgen.py. -/
set_option linter.unusedVariables false
set_option linter.unusedSimpArgs false
namespace Go.Am
open Go.Sort
variable {α : Type} [Inhabited α] {S : SortC R α 3} {m : Mem} {d : Array α}

theorem so_pa2 {a i j : Nat} (h : S.Row m d) (ha : a < S.n) (hj : j < S.n) (hi : i ≤ S.n) :
    WL R [0, 1, 4, 12, 13] RB.slices_partitionCmpFunc_local_entry_2 [(0, S.sv), (1, .int .i64 a), (4, S.cv), (12, .int .i64 i), (13, .int .i64 j)] m fun x e m' =>
      x = .exit 6 ∧ e = [(0, S.sv), (1, .int .i64 a), (4, S.cv), (12, .int .i64 (scanUp (fun x => S.lt x d[a]!) d j i)), (13, .int .i64 j), (120, .bool false)] ∧ S.Row m' d := by
  have hn := S.small
  refine WL.of (fun r e m' => ∃ (k : Nat), r = S.n + 1 - k ∧ k ≤ S.n ∧ e = [(0, S.sv), (1, .int .i64 a), (4, S.cv), (12, .int .i64 k), (13, .int .i64 j)] ∧ S.Row m' d ∧ scanUp (fun x => S.lt x d[a]!) d j k = scanUp (fun x => S.lt x d[a]!) d j i) (S.n + 1 - i)
    ⟨i, rfl, hi, by simp only [go_sem, Bool.false_and, new_set, Int.reduceBEq, Int.reduceBNe, Int.reduceNeg, not_true_eq_false, beq_self_eq_true, bne_self_eq_false, Bool.false_eq_true, if_false, if_true, Int.cast_ofNat_Int, decide_true, decide_false, reduceCtorEq, Nat.reduceEqDiff, Nat.reduceAdd, ne_eq, not_false_eq_true, Option.map_some, Option.bind_some, Option.map_none, Option.bind_none, true_and, and_true, Bool.not_true, Bool.not_false, Nat.reduceLeDiff, Nat.reduceMul, Nat.reduceSub, Nat.le_refl, Int.reduceToNat, Int.reduceLT, Int.reduceLE, Nat.one_mul, Nat.mul_one] <;> rfl, h, rfl⟩ ?_
  rintro n0 _ m1 ⟨k, hr, hk, rfl, h1, he⟩
  rw [scanUp] at he
  simp only [RB.slices_partitionCmpFunc_local_entry_2, go_sem, Bool.false_and, new_set, Int.reduceBEq, Int.reduceBNe, Int.reduceNeg, not_true_eq_false, beq_self_eq_true, bne_self_eq_false, Bool.false_eq_true, if_false, if_true, Int.cast_ofNat_Int, decide_true, decide_false, reduceCtorEq, Nat.reduceEqDiff, Nat.reduceAdd, ne_eq, not_false_eq_true, Option.map_some, Option.bind_some, Option.map_none, Option.bind_none, true_and, and_true, Bool.not_true, Bool.not_false, Nat.reduceLeDiff, Nat.reduceMul, Nat.reduceSub, Nat.le_refl, Int.reduceToNat, Int.reduceLT, Int.reduceLE, Nat.one_mul, Nat.mul_one]
  refine gT.of (fun g1' => ?_) (fun g1' => ?_) <;> (have g1 := g1'; try simp only [decide_eq_true_eq, decide_eq_false_iff_not, beq_iff_eq, bne_iff_ne, beq_eq_false_iff_ne, ne_eq, Bool.not_eq_true', Bool.not_eq_false', bne_eq_false_iff_eq, Int.not_lt, Int.not_le] at g1)
  · have hk2 : k < S.n := by omega
    simp only [go_sem, Bool.false_and, new_set, Int.reduceBEq, Int.reduceBNe, Int.reduceNeg, not_true_eq_false, beq_self_eq_true, bne_self_eq_false, Bool.false_eq_true, if_false, if_true, Int.cast_ofNat_Int, decide_true, decide_false, reduceCtorEq, Nat.reduceEqDiff, Nat.reduceAdd, ne_eq, not_false_eq_true, Option.map_some, Option.bind_some, Option.map_none, Option.bind_none, true_and, and_true, Bool.not_true, Bool.not_false, Nat.reduceLeDiff, Nat.reduceMul, Nat.reduceSub, Nat.le_refl, Int.reduceToNat, Int.reduceLT, Int.reduceLE, Nat.one_mul, Nat.mul_one, g1', S.ix hk2, S.ix ha, h1.ld hk2, h1.ld ha]
    refine gC.of (S.cmp m1 d[k]! d[a]!) ?_
    rintro _ m2 ⟨rfl, hx2⟩
    simp only [go_sem, Bool.false_and, new_set, Int.reduceBEq, Int.reduceBNe, Int.reduceNeg, not_true_eq_false, beq_self_eq_true, bne_self_eq_false, Bool.false_eq_true, if_false, if_true, Int.cast_ofNat_Int, decide_true, decide_false, reduceCtorEq, Nat.reduceEqDiff, Nat.reduceAdd, ne_eq, not_false_eq_true, Option.map_some, Option.bind_some, Option.map_none, Option.bind_none, true_and, and_true, Bool.not_true, Bool.not_false, Nat.reduceLeDiff, Nat.reduceMul, Nat.reduceSub, Nat.le_refl, Int.reduceToNat, Int.reduceLT, Int.reduceLE, Nat.one_mul, Nat.mul_one]
    have h2 := h1.keep hx2
    refine gT.of (fun g2' => ?_) (fun g2' => ?_) <;> (have g2 := g2'; try simp only [decide_eq_true_eq, decide_eq_false_iff_not, beq_iff_eq, bne_iff_ne, beq_eq_false_iff_ne, ne_eq, Bool.not_eq_true', Bool.not_eq_false', bne_eq_false_iff_eq, Int.not_lt, Int.not_le] at g2)
    · rw [if_pos (by rw [S.lt_t g2]; simp; omega)] at he
      simp only [go_sem, Bool.false_and, new_set, Int.reduceBEq, Int.reduceBNe, Int.reduceNeg, not_true_eq_false, beq_self_eq_true, bne_self_eq_false, Bool.false_eq_true, if_false, if_true, Int.cast_ofNat_Int, decide_true, decide_false, reduceCtorEq, Nat.reduceEqDiff, Nat.reduceAdd, ne_eq, not_false_eq_true, Option.map_some, Option.bind_some, Option.map_none, Option.bind_none, true_and, and_true, Bool.not_true, Bool.not_false, Nat.reduceLeDiff, Nat.reduceMul, Nat.reduceSub, Nat.le_refl, Int.reduceToNat, Int.reduceLT, Int.reduceLE, Nat.one_mul, Nat.mul_one, g2', nadd1 (show k < 4000000 by omega)]
      exact ⟨S.n + 1 - (k + 1), by omega, k + 1, rfl, by omega, rfl, h2, he⟩
    · rw [if_neg (by rw [S.lt_f' g2]; simp)] at he
      rw [← he]
      simp only [go_sem, Bool.false_and, new_set, Int.reduceBEq, Int.reduceBNe, Int.reduceNeg, not_true_eq_false, beq_self_eq_true, bne_self_eq_false, Bool.false_eq_true, if_false, if_true, Int.cast_ofNat_Int, decide_true, decide_false, reduceCtorEq, Nat.reduceEqDiff, Nat.reduceAdd, ne_eq, not_false_eq_true, Option.map_some, Option.bind_some, Option.map_none, Option.bind_none, true_and, and_true, Bool.not_true, Bool.not_false, Nat.reduceLeDiff, Nat.reduceMul, Nat.reduceSub, Nat.le_refl, Int.reduceToNat, Int.reduceLT, Int.reduceLE, Nat.one_mul, Nat.mul_one, g2']
      exact h2
  · rw [if_neg (by simp; omega)] at he
    rw [← he]
    simp only [go_sem, Bool.false_and, new_set, Int.reduceBEq, Int.reduceBNe, Int.reduceNeg, not_true_eq_false, beq_self_eq_true, bne_self_eq_false, Bool.false_eq_true, if_false, if_true, Int.cast_ofNat_Int, decide_true, decide_false, reduceCtorEq, Nat.reduceEqDiff, Nat.reduceAdd, ne_eq, not_false_eq_true, Option.map_some, Option.bind_some, Option.map_none, Option.bind_none, true_and, and_true, Bool.not_true, Bool.not_false, Nat.reduceLeDiff, Nat.reduceMul, Nat.reduceSub, Nat.le_refl, Int.reduceToNat, Int.reduceLT, Int.reduceLE, Nat.one_mul, Nat.mul_one, g1']
    exact h1

theorem so_pa5 {a i j : Nat} (h : S.Row m d) (ha : a < S.n) (hj : j < S.n) (hi : i ≤ S.n) :
    WL R [0, 1, 4, 12, 13] RB.slices_partitionCmpFunc_local_entry_5 [(0, S.sv), (1, .int .i64 a), (4, S.cv), (12, .int .i64 i), (13, .int .i64 j)] m fun x e m' =>
      x = .exit 0 ∧ e = [(0, S.sv), (1, .int .i64 a), (4, S.cv), (12, .int .i64 (scanUp (fun x => S.lt x d[a]!) d j i)), (13, .int .i64 j), (47, .bool false)] ∧ S.Row m' d := by
  have hn := S.small
  refine WL.of (fun r e m' => ∃ (k : Nat), r = S.n + 1 - k ∧ k ≤ S.n ∧ e = [(0, S.sv), (1, .int .i64 a), (4, S.cv), (12, .int .i64 k), (13, .int .i64 j)] ∧ S.Row m' d ∧ scanUp (fun x => S.lt x d[a]!) d j k = scanUp (fun x => S.lt x d[a]!) d j i) (S.n + 1 - i)
    ⟨i, rfl, hi, by simp only [go_sem, Bool.false_and, new_set, Int.reduceBEq, Int.reduceBNe, Int.reduceNeg, not_true_eq_false, beq_self_eq_true, bne_self_eq_false, Bool.false_eq_true, if_false, if_true, Int.cast_ofNat_Int, decide_true, decide_false, reduceCtorEq, Nat.reduceEqDiff, Nat.reduceAdd, ne_eq, not_false_eq_true, Option.map_some, Option.bind_some, Option.map_none, Option.bind_none, true_and, and_true, Bool.not_true, Bool.not_false, Nat.reduceLeDiff, Nat.reduceMul, Nat.reduceSub, Nat.le_refl, Int.reduceToNat, Int.reduceLT, Int.reduceLE, Nat.one_mul, Nat.mul_one] <;> rfl, h, rfl⟩ ?_
  rintro n0 _ m1 ⟨k, hr, hk, rfl, h1, he⟩
  rw [scanUp] at he
  simp only [RB.slices_partitionCmpFunc_local_entry_5, go_sem, Bool.false_and, new_set, Int.reduceBEq, Int.reduceBNe, Int.reduceNeg, not_true_eq_false, beq_self_eq_true, bne_self_eq_false, Bool.false_eq_true, if_false, if_true, Int.cast_ofNat_Int, decide_true, decide_false, reduceCtorEq, Nat.reduceEqDiff, Nat.reduceAdd, ne_eq, not_false_eq_true, Option.map_some, Option.bind_some, Option.map_none, Option.bind_none, true_and, and_true, Bool.not_true, Bool.not_false, Nat.reduceLeDiff, Nat.reduceMul, Nat.reduceSub, Nat.le_refl, Int.reduceToNat, Int.reduceLT, Int.reduceLE, Nat.one_mul, Nat.mul_one]
  refine gT.of (fun g1' => ?_) (fun g1' => ?_) <;> (have g1 := g1'; try simp only [decide_eq_true_eq, decide_eq_false_iff_not, beq_iff_eq, bne_iff_ne, beq_eq_false_iff_ne, ne_eq, Bool.not_eq_true', Bool.not_eq_false', bne_eq_false_iff_eq, Int.not_lt, Int.not_le] at g1)
  · have hk2 : k < S.n := by omega
    simp only [go_sem, Bool.false_and, new_set, Int.reduceBEq, Int.reduceBNe, Int.reduceNeg, not_true_eq_false, beq_self_eq_true, bne_self_eq_false, Bool.false_eq_true, if_false, if_true, Int.cast_ofNat_Int, decide_true, decide_false, reduceCtorEq, Nat.reduceEqDiff, Nat.reduceAdd, ne_eq, not_false_eq_true, Option.map_some, Option.bind_some, Option.map_none, Option.bind_none, true_and, and_true, Bool.not_true, Bool.not_false, Nat.reduceLeDiff, Nat.reduceMul, Nat.reduceSub, Nat.le_refl, Int.reduceToNat, Int.reduceLT, Int.reduceLE, Nat.one_mul, Nat.mul_one, g1', S.ix hk2, S.ix ha, h1.ld hk2, h1.ld ha]
    refine gC.of (S.cmp m1 d[k]! d[a]!) ?_
    rintro _ m2 ⟨rfl, hx2⟩
    simp only [go_sem, Bool.false_and, new_set, Int.reduceBEq, Int.reduceBNe, Int.reduceNeg, not_true_eq_false, beq_self_eq_true, bne_self_eq_false, Bool.false_eq_true, if_false, if_true, Int.cast_ofNat_Int, decide_true, decide_false, reduceCtorEq, Nat.reduceEqDiff, Nat.reduceAdd, ne_eq, not_false_eq_true, Option.map_some, Option.bind_some, Option.map_none, Option.bind_none, true_and, and_true, Bool.not_true, Bool.not_false, Nat.reduceLeDiff, Nat.reduceMul, Nat.reduceSub, Nat.le_refl, Int.reduceToNat, Int.reduceLT, Int.reduceLE, Nat.one_mul, Nat.mul_one]
    have h2 := h1.keep hx2
    refine gT.of (fun g2' => ?_) (fun g2' => ?_) <;> (have g2 := g2'; try simp only [decide_eq_true_eq, decide_eq_false_iff_not, beq_iff_eq, bne_iff_ne, beq_eq_false_iff_ne, ne_eq, Bool.not_eq_true', Bool.not_eq_false', bne_eq_false_iff_eq, Int.not_lt, Int.not_le] at g2)
    · rw [if_pos (by rw [S.lt_t g2]; simp; omega)] at he
      simp only [go_sem, Bool.false_and, new_set, Int.reduceBEq, Int.reduceBNe, Int.reduceNeg, not_true_eq_false, beq_self_eq_true, bne_self_eq_false, Bool.false_eq_true, if_false, if_true, Int.cast_ofNat_Int, decide_true, decide_false, reduceCtorEq, Nat.reduceEqDiff, Nat.reduceAdd, ne_eq, not_false_eq_true, Option.map_some, Option.bind_some, Option.map_none, Option.bind_none, true_and, and_true, Bool.not_true, Bool.not_false, Nat.reduceLeDiff, Nat.reduceMul, Nat.reduceSub, Nat.le_refl, Int.reduceToNat, Int.reduceLT, Int.reduceLE, Nat.one_mul, Nat.mul_one, g2', nadd1 (show k < 4000000 by omega)]
      exact ⟨S.n + 1 - (k + 1), by omega, k + 1, rfl, by omega, rfl, h2, he⟩
    · rw [if_neg (by rw [S.lt_f' g2]; simp)] at he
      rw [← he]
      simp only [go_sem, Bool.false_and, new_set, Int.reduceBEq, Int.reduceBNe, Int.reduceNeg, not_true_eq_false, beq_self_eq_true, bne_self_eq_false, Bool.false_eq_true, if_false, if_true, Int.cast_ofNat_Int, decide_true, decide_false, reduceCtorEq, Nat.reduceEqDiff, Nat.reduceAdd, ne_eq, not_false_eq_true, Option.map_some, Option.bind_some, Option.map_none, Option.bind_none, true_and, and_true, Bool.not_true, Bool.not_false, Nat.reduceLeDiff, Nat.reduceMul, Nat.reduceSub, Nat.le_refl, Int.reduceToNat, Int.reduceLT, Int.reduceLE, Nat.one_mul, Nat.mul_one, g2']
      exact h2
  · rw [if_neg (by simp; omega)] at he
    rw [← he]
    simp only [go_sem, Bool.false_and, new_set, Int.reduceBEq, Int.reduceBNe, Int.reduceNeg, not_true_eq_false, beq_self_eq_true, bne_self_eq_false, Bool.false_eq_true, if_false, if_true, Int.cast_ofNat_Int, decide_true, decide_false, reduceCtorEq, Nat.reduceEqDiff, Nat.reduceAdd, ne_eq, not_false_eq_true, Option.map_some, Option.bind_some, Option.map_none, Option.bind_none, true_and, and_true, Bool.not_true, Bool.not_false, Nat.reduceLeDiff, Nat.reduceMul, Nat.reduceSub, Nat.le_refl, Int.reduceToNat, Int.reduceLT, Int.reduceLE, Nat.one_mul, Nat.mul_one, g1']
    exact h1

theorem so_pa1 {a i j : Nat} (h : S.Row m d) (ha : a < S.n) (hj : j < S.n) (hi : 1 ≤ i) :
    WL R [0, 1, 4, 12, 13] RB.slices_partitionCmpFunc_local_entry_1 [(0, S.sv), (1, .int .i64 a), (4, S.cv), (12, .int .i64 i), (13, .int .i64 j)] m fun x e m' =>
      x = .exit 8 ∧ e = [(0, S.sv), (1, .int .i64 a), (4, S.cv), (12, .int .i64 i), (13, .int .i64 (scanDown (fun x => !S.lt x d[a]!) d i j)), (139, .bool false)] ∧ S.Row m' d := by
  have hn := S.small
  refine WL.of (fun r e m' => ∃ (k : Nat), r = k ∧ k < S.n ∧ e = [(0, S.sv), (1, .int .i64 a), (4, S.cv), (12, .int .i64 i), (13, .int .i64 k)] ∧ S.Row m' d ∧ scanDown (fun x => !S.lt x d[a]!) d i k = scanDown (fun x => !S.lt x d[a]!) d i j) j
    ⟨j, rfl, hj, by simp only [go_sem, Bool.false_and, new_set, Int.reduceBEq, Int.reduceBNe, Int.reduceNeg, not_true_eq_false, beq_self_eq_true, bne_self_eq_false, Bool.false_eq_true, if_false, if_true, Int.cast_ofNat_Int, decide_true, decide_false, reduceCtorEq, Nat.reduceEqDiff, Nat.reduceAdd, ne_eq, not_false_eq_true, Option.map_some, Option.bind_some, Option.map_none, Option.bind_none, true_and, and_true, Bool.not_true, Bool.not_false, Nat.reduceLeDiff, Nat.reduceMul, Nat.reduceSub, Nat.le_refl, Int.reduceToNat, Int.reduceLT, Int.reduceLE, Nat.one_mul, Nat.mul_one] <;> rfl, h, rfl⟩ ?_
  rintro n0 _ m1 ⟨k, hr, hk, rfl, h1, he⟩
  simp only [RB.slices_partitionCmpFunc_local_entry_1, go_sem, Bool.false_and, new_set, Int.reduceBEq, Int.reduceBNe, Int.reduceNeg, not_true_eq_false, beq_self_eq_true, bne_self_eq_false, Bool.false_eq_true, if_false, if_true, Int.cast_ofNat_Int, decide_true, decide_false, reduceCtorEq, Nat.reduceEqDiff, Nat.reduceAdd, ne_eq, not_false_eq_true, Option.map_some, Option.bind_some, Option.map_none, Option.bind_none, true_and, and_true, Bool.not_true, Bool.not_false, Nat.reduceLeDiff, Nat.reduceMul, Nat.reduceSub, Nat.le_refl, Int.reduceToNat, Int.reduceLT, Int.reduceLE, Nat.one_mul, Nat.mul_one]
  refine gT.of (fun g1' => ?_) (fun g1' => ?_) <;> (have g1 := g1'; try simp only [decide_eq_true_eq, decide_eq_false_iff_not, beq_iff_eq, bne_iff_ne, beq_eq_false_iff_ne, ne_eq, Bool.not_eq_true', Bool.not_eq_false', bne_eq_false_iff_eq, Int.not_lt, Int.not_le] at g1)
  · obtain ⟨k, rfl⟩ : ∃ k', k = k' + 1 := ⟨k - 1, by omega⟩
    simp only [scanDown] at he
    have e1 := nsub1 (i := k + 1) (by omega) (by omega)
    simp only [Nat.add_sub_cancel] at e1
    simp only [go_sem, Bool.false_and, new_set, Int.reduceBEq, Int.reduceBNe, Int.reduceNeg, not_true_eq_false, beq_self_eq_true, bne_self_eq_false, Bool.false_eq_true, if_false, if_true, Int.cast_ofNat_Int, decide_true, decide_false, reduceCtorEq, Nat.reduceEqDiff, Nat.reduceAdd, ne_eq, not_false_eq_true, Option.map_some, Option.bind_some, Option.map_none, Option.bind_none, true_and, and_true, Bool.not_true, Bool.not_false, Nat.reduceLeDiff, Nat.reduceMul, Nat.reduceSub, Nat.le_refl, Int.reduceToNat, Int.reduceLT, Int.reduceLE, Nat.one_mul, Nat.mul_one, g1', S.ix hk, S.ix ha, h1.ld hk, h1.ld ha]
    refine gC.of (S.cmp m1 d[k + 1]! d[a]!) ?_
    rintro _ m2 ⟨rfl, hx2⟩
    simp only [go_sem, Bool.false_and, new_set, Int.reduceBEq, Int.reduceBNe, Int.reduceNeg, not_true_eq_false, beq_self_eq_true, bne_self_eq_false, Bool.false_eq_true, if_false, if_true, Int.cast_ofNat_Int, decide_true, decide_false, reduceCtorEq, Nat.reduceEqDiff, Nat.reduceAdd, ne_eq, not_false_eq_true, Option.map_some, Option.bind_some, Option.map_none, Option.bind_none, true_and, and_true, Bool.not_true, Bool.not_false, Nat.reduceLeDiff, Nat.reduceMul, Nat.reduceSub, Nat.le_refl, Int.reduceToNat, Int.reduceLT, Int.reduceLE, Nat.one_mul, Nat.mul_one]
    have h2 := h1.keep hx2
    refine gT.of (fun g2' => ?_) (fun g2' => ?_) <;> (have g2 := g2'; try simp only [decide_eq_true_eq, decide_eq_false_iff_not, beq_iff_eq, bne_iff_ne, beq_eq_false_iff_ne, ne_eq, Bool.not_eq_true', Bool.not_eq_false', bne_eq_false_iff_eq, Int.not_lt, Int.not_le] at g2)
    · rw [if_pos (by rw [S.lt_f' (by simpa using g2)]; simp; omega)] at he
      simp only [go_sem, Bool.false_and, new_set, Int.reduceBEq, Int.reduceBNe, Int.reduceNeg, not_true_eq_false, beq_self_eq_true, bne_self_eq_false, Bool.false_eq_true, if_false, if_true, Int.cast_ofNat_Int, decide_true, decide_false, reduceCtorEq, Nat.reduceEqDiff, Nat.reduceAdd, ne_eq, not_false_eq_true, Option.map_some, Option.bind_some, Option.map_none, Option.bind_none, true_and, and_true, Bool.not_true, Bool.not_false, Nat.reduceLeDiff, Nat.reduceMul, Nat.reduceSub, Nat.le_refl, Int.reduceToNat, Int.reduceLT, Int.reduceLE, Nat.one_mul, Nat.mul_one, g2', e1]
      exact ⟨k, by omega, k, rfl, by omega, rfl, h2, he⟩
    · rw [if_neg (by rw [S.lt_t (by simpa using g2)]; simp)] at he
      rw [← he]
      simp only [go_sem, Bool.false_and, new_set, Int.reduceBEq, Int.reduceBNe, Int.reduceNeg, not_true_eq_false, beq_self_eq_true, bne_self_eq_false, Bool.false_eq_true, if_false, if_true, Int.cast_ofNat_Int, decide_true, decide_false, reduceCtorEq, Nat.reduceEqDiff, Nat.reduceAdd, ne_eq, not_false_eq_true, Option.map_some, Option.bind_some, Option.map_none, Option.bind_none, true_and, and_true, Bool.not_true, Bool.not_false, Nat.reduceLeDiff, Nat.reduceMul, Nat.reduceSub, Nat.le_refl, Int.reduceToNat, Int.reduceLT, Int.reduceLE, Nat.one_mul, Nat.mul_one, g2']
      exact h2
  · have he2 : scanDown (fun x => !S.lt x d[a]!) d i k = k := by
      cases k with
      | zero => rfl
      | succ k => simp only [scanDown]; rw [if_neg (by simp; omega)]
    rw [← he, he2]
    simp only [go_sem, Bool.false_and, new_set, Int.reduceBEq, Int.reduceBNe, Int.reduceNeg, not_true_eq_false, beq_self_eq_true, bne_self_eq_false, Bool.false_eq_true, if_false, if_true, Int.cast_ofNat_Int, decide_true, decide_false, reduceCtorEq, Nat.reduceEqDiff, Nat.reduceAdd, ne_eq, not_false_eq_true, Option.map_some, Option.bind_some, Option.map_none, Option.bind_none, true_and, and_true, Bool.not_true, Bool.not_false, Nat.reduceLeDiff, Nat.reduceMul, Nat.reduceSub, Nat.le_refl, Int.reduceToNat, Int.reduceLT, Int.reduceLE, Nat.one_mul, Nat.mul_one, g1']
    exact h1

theorem so_pa4 {a i j : Nat} (h : S.Row m d) (ha : a < S.n) (hj : j < S.n) (hi : 1 ≤ i) :
    WL R [0, 1, 4, 12, 13] RB.slices_partitionCmpFunc_local_entry_4 [(0, S.sv), (1, .int .i64 a), (4, S.cv), (12, .int .i64 i), (13, .int .i64 j)] m fun x e m' =>
      x = .exit 2 ∧ e = [(0, S.sv), (1, .int .i64 a), (4, S.cv), (12, .int .i64 i), (13, .int .i64 (scanDown (fun x => !S.lt x d[a]!) d i j)), (66, .bool false)] ∧ S.Row m' d := by
  have hn := S.small
  refine WL.of (fun r e m' => ∃ (k : Nat), r = k ∧ k < S.n ∧ e = [(0, S.sv), (1, .int .i64 a), (4, S.cv), (12, .int .i64 i), (13, .int .i64 k)] ∧ S.Row m' d ∧ scanDown (fun x => !S.lt x d[a]!) d i k = scanDown (fun x => !S.lt x d[a]!) d i j) j
    ⟨j, rfl, hj, by simp only [go_sem, Bool.false_and, new_set, Int.reduceBEq, Int.reduceBNe, Int.reduceNeg, not_true_eq_false, beq_self_eq_true, bne_self_eq_false, Bool.false_eq_true, if_false, if_true, Int.cast_ofNat_Int, decide_true, decide_false, reduceCtorEq, Nat.reduceEqDiff, Nat.reduceAdd, ne_eq, not_false_eq_true, Option.map_some, Option.bind_some, Option.map_none, Option.bind_none, true_and, and_true, Bool.not_true, Bool.not_false, Nat.reduceLeDiff, Nat.reduceMul, Nat.reduceSub, Nat.le_refl, Int.reduceToNat, Int.reduceLT, Int.reduceLE, Nat.one_mul, Nat.mul_one] <;> rfl, h, rfl⟩ ?_
  rintro n0 _ m1 ⟨k, hr, hk, rfl, h1, he⟩
  simp only [RB.slices_partitionCmpFunc_local_entry_4, go_sem, Bool.false_and, new_set, Int.reduceBEq, Int.reduceBNe, Int.reduceNeg, not_true_eq_false, beq_self_eq_true, bne_self_eq_false, Bool.false_eq_true, if_false, if_true, Int.cast_ofNat_Int, decide_true, decide_false, reduceCtorEq, Nat.reduceEqDiff, Nat.reduceAdd, ne_eq, not_false_eq_true, Option.map_some, Option.bind_some, Option.map_none, Option.bind_none, true_and, and_true, Bool.not_true, Bool.not_false, Nat.reduceLeDiff, Nat.reduceMul, Nat.reduceSub, Nat.le_refl, Int.reduceToNat, Int.reduceLT, Int.reduceLE, Nat.one_mul, Nat.mul_one]
  refine gT.of (fun g1' => ?_) (fun g1' => ?_) <;> (have g1 := g1'; try simp only [decide_eq_true_eq, decide_eq_false_iff_not, beq_iff_eq, bne_iff_ne, beq_eq_false_iff_ne, ne_eq, Bool.not_eq_true', Bool.not_eq_false', bne_eq_false_iff_eq, Int.not_lt, Int.not_le] at g1)
  · obtain ⟨k, rfl⟩ : ∃ k', k = k' + 1 := ⟨k - 1, by omega⟩
    simp only [scanDown] at he
    have e1 := nsub1 (i := k + 1) (by omega) (by omega)
    simp only [Nat.add_sub_cancel] at e1
    simp only [go_sem, Bool.false_and, new_set, Int.reduceBEq, Int.reduceBNe, Int.reduceNeg, not_true_eq_false, beq_self_eq_true, bne_self_eq_false, Bool.false_eq_true, if_false, if_true, Int.cast_ofNat_Int, decide_true, decide_false, reduceCtorEq, Nat.reduceEqDiff, Nat.reduceAdd, ne_eq, not_false_eq_true, Option.map_some, Option.bind_some, Option.map_none, Option.bind_none, true_and, and_true, Bool.not_true, Bool.not_false, Nat.reduceLeDiff, Nat.reduceMul, Nat.reduceSub, Nat.le_refl, Int.reduceToNat, Int.reduceLT, Int.reduceLE, Nat.one_mul, Nat.mul_one, g1', S.ix hk, S.ix ha, h1.ld hk, h1.ld ha]
    refine gC.of (S.cmp m1 d[k + 1]! d[a]!) ?_
    rintro _ m2 ⟨rfl, hx2⟩
    simp only [go_sem, Bool.false_and, new_set, Int.reduceBEq, Int.reduceBNe, Int.reduceNeg, not_true_eq_false, beq_self_eq_true, bne_self_eq_false, Bool.false_eq_true, if_false, if_true, Int.cast_ofNat_Int, decide_true, decide_false, reduceCtorEq, Nat.reduceEqDiff, Nat.reduceAdd, ne_eq, not_false_eq_true, Option.map_some, Option.bind_some, Option.map_none, Option.bind_none, true_and, and_true, Bool.not_true, Bool.not_false, Nat.reduceLeDiff, Nat.reduceMul, Nat.reduceSub, Nat.le_refl, Int.reduceToNat, Int.reduceLT, Int.reduceLE, Nat.one_mul, Nat.mul_one]
    have h2 := h1.keep hx2
    refine gT.of (fun g2' => ?_) (fun g2' => ?_) <;> (have g2 := g2'; try simp only [decide_eq_true_eq, decide_eq_false_iff_not, beq_iff_eq, bne_iff_ne, beq_eq_false_iff_ne, ne_eq, Bool.not_eq_true', Bool.not_eq_false', bne_eq_false_iff_eq, Int.not_lt, Int.not_le] at g2)
    · rw [if_pos (by rw [S.lt_f' (by simpa using g2)]; simp; omega)] at he
      simp only [go_sem, Bool.false_and, new_set, Int.reduceBEq, Int.reduceBNe, Int.reduceNeg, not_true_eq_false, beq_self_eq_true, bne_self_eq_false, Bool.false_eq_true, if_false, if_true, Int.cast_ofNat_Int, decide_true, decide_false, reduceCtorEq, Nat.reduceEqDiff, Nat.reduceAdd, ne_eq, not_false_eq_true, Option.map_some, Option.bind_some, Option.map_none, Option.bind_none, true_and, and_true, Bool.not_true, Bool.not_false, Nat.reduceLeDiff, Nat.reduceMul, Nat.reduceSub, Nat.le_refl, Int.reduceToNat, Int.reduceLT, Int.reduceLE, Nat.one_mul, Nat.mul_one, g2', e1]
      exact ⟨k, by omega, k, rfl, by omega, rfl, h2, he⟩
    · rw [if_neg (by rw [S.lt_t (by simpa using g2)]; simp)] at he
      rw [← he]
      simp only [go_sem, Bool.false_and, new_set, Int.reduceBEq, Int.reduceBNe, Int.reduceNeg, not_true_eq_false, beq_self_eq_true, bne_self_eq_false, Bool.false_eq_true, if_false, if_true, Int.cast_ofNat_Int, decide_true, decide_false, reduceCtorEq, Nat.reduceEqDiff, Nat.reduceAdd, ne_eq, not_false_eq_true, Option.map_some, Option.bind_some, Option.map_none, Option.bind_none, true_and, and_true, Bool.not_true, Bool.not_false, Nat.reduceLeDiff, Nat.reduceMul, Nat.reduceSub, Nat.le_refl, Int.reduceToNat, Int.reduceLT, Int.reduceLE, Nat.one_mul, Nat.mul_one, g2']
      exact h2
  · have he2 : scanDown (fun x => !S.lt x d[a]!) d i k = k := by
      cases k with
      | zero => rfl
      | succ k => simp only [scanDown]; rw [if_neg (by simp; omega)]
    rw [← he, he2]
    simp only [go_sem, Bool.false_and, new_set, Int.reduceBEq, Int.reduceBNe, Int.reduceNeg, not_true_eq_false, beq_self_eq_true, bne_self_eq_false, Bool.false_eq_true, if_false, if_true, Int.cast_ofNat_Int, decide_true, decide_false, reduceCtorEq, Nat.reduceEqDiff, Nat.reduceAdd, ne_eq, not_false_eq_true, Option.map_some, Option.bind_some, Option.map_none, Option.bind_none, true_and, and_true, Bool.not_true, Bool.not_false, Nat.reduceLeDiff, Nat.reduceMul, Nat.reduceSub, Nat.le_refl, Int.reduceToNat, Int.reduceLT, Int.reduceLE, Nat.one_mul, Nat.mul_one, g1']
    exact h1

theorem so_pa3 {a i j : Nat} (h : S.Row m d) (ha : a < S.n) (hj : j < S.n) (hi : 1 ≤ i) (hij : i ≤ j + 1) :
    WL R [0, 1, 4, 12, 13] RB.slices_partitionCmpFunc_local_entry_3 [(0, S.sv), (1, .int .i64 a), (4, S.cv), (12, .int .i64 i), (13, .int .i64 j)] m fun x e m' =>
      x = .exit 4 ∧ (∃ q b, e = [(0, S.sv), (1, .int .i64 a), (4, S.cv), (12, q), (13, .int .i64 (partLoop S.lt a i j d).1), (144, b)]) ∧ S.Row m' (partLoop S.lt a i j d).2 := by
  have hn := S.small
  refine WL.of (fun r e m' => ∃ (i' j' : Nat) (d' : Array α), r = j' + 1 - i' ∧ 1 ≤ i' ∧ i' ≤ j' + 1 ∧ j' < S.n ∧ e = [(0, S.sv), (1, .int .i64 a), (4, S.cv), (12, .int .i64 i'), (13, .int .i64 j')] ∧ S.Row m' d' ∧ partLoop S.lt a i' j' d' = partLoop S.lt a i j d) (j + 1 - i)
    ⟨i, j, d, rfl, hi, hij, hj, by simp only [go_sem, Bool.false_and, new_set, Int.reduceBEq, Int.reduceBNe, Int.reduceNeg, not_true_eq_false, beq_self_eq_true, bne_self_eq_false, Bool.false_eq_true, if_false, if_true, Int.cast_ofNat_Int, decide_true, decide_false, reduceCtorEq, Nat.reduceEqDiff, Nat.reduceAdd, ne_eq, not_false_eq_true, Option.map_some, Option.bind_some, Option.map_none, Option.bind_none, true_and, and_true, Bool.not_true, Bool.not_false, Nat.reduceLeDiff, Nat.reduceMul, Nat.reduceSub, Nat.le_refl, Int.reduceToNat, Int.reduceLT, Int.reduceLE, Nat.one_mul, Nat.mul_one] <;> rfl, h, rfl⟩ ?_
  rintro n0 _ m1 ⟨i', j', d', hr, hi', hij', hj', rfl, h1, he⟩
  simp only [RB.slices_partitionCmpFunc_local_entry_3, go_sem, Bool.false_and, new_set, Int.reduceBEq, Int.reduceBNe, Int.reduceNeg, not_true_eq_false, beq_self_eq_true, bne_self_eq_false, Bool.false_eq_true, if_false, if_true, Int.cast_ofNat_Int, decide_true, decide_false, reduceCtorEq, Nat.reduceEqDiff, Nat.reduceAdd, ne_eq, not_false_eq_true, Option.map_some, Option.bind_some, Option.map_none, Option.bind_none, true_and, and_true, Bool.not_true, Bool.not_false, Nat.reduceLeDiff, Nat.reduceMul, Nat.reduceSub, Nat.le_refl, Int.reduceToNat, Int.reduceLT, Int.reduceLE, Nat.one_mul, Nat.mul_one]
  rw [partLoop_eq] at he
  have u1 := scanUp_ge (fun x => S.lt x d'[a]!) d' j' i'
  have u2 := (scanUp_spec (fun x => S.lt x d'[a]!) d' j' _ i' rfl).2.1 hij'
  have u3 := (scanUp_spec (fun x => S.lt x d'[a]!) d' j' _ i' rfl).2.2.2
  refine WL.mono (so_pa2 h1 ha hj' (by omega)) ?_
  rintro _ _ m2 ⟨rfl, rfl, h2⟩
  generalize scanUp (fun x => S.lt x d'[a]!) d' j' i' = i2 at u1 u2 u3 he ⊢
  simp only [go_sem, Bool.false_and, new_set, Int.reduceBEq, Int.reduceBNe, Int.reduceNeg, not_true_eq_false, beq_self_eq_true, bne_self_eq_false, Bool.false_eq_true, if_false, if_true, Int.cast_ofNat_Int, decide_true, decide_false, reduceCtorEq, Nat.reduceEqDiff, Nat.reduceAdd, ne_eq, not_false_eq_true, Option.map_some, Option.bind_some, Option.map_none, Option.bind_none, true_and, and_true, Bool.not_true, Bool.not_false, Nat.reduceLeDiff, Nat.reduceMul, Nat.reduceSub, Nat.le_refl, Int.reduceToNat, Int.reduceLT, Int.reduceLE, Nat.one_mul, Nat.mul_one]
  have w1 := scanDown_le (fun x => !S.lt x d'[a]!) d' i2 j'
  have w2 := (scanDown_spec (fun x => !S.lt x d'[a]!) d' i2 j').2.1 (by omega)
  have w3 := (scanDown_spec (fun x => !S.lt x d'[a]!) d' i2 j').2.2.2
  refine WL.mono (so_pa1 h2 ha hj' (by omega)) ?_
  rintro _ _ m3 ⟨rfl, rfl, h3⟩
  generalize scanDown (fun x => !S.lt x d'[a]!) d' i2 j' = j2 at w1 w2 w3 he ⊢
  have hne : i2 ≠ j2 := by
    intro e
    subst e
    have q1 := u3 (by omega)
    have q2 := w3 (by omega) (by omega)
    first | (simp [q1] at q2; done) | (cases hh : S.lt d'[a]! d'[i2]! <;> simp [hh] at q1 q2)
  simp only [go_sem, Bool.false_and, new_set, Int.reduceBEq, Int.reduceBNe, Int.reduceNeg, not_true_eq_false, beq_self_eq_true, bne_self_eq_false, Bool.false_eq_true, if_false, if_true, Int.cast_ofNat_Int, decide_true, decide_false, reduceCtorEq, Nat.reduceEqDiff, Nat.reduceAdd, ne_eq, not_false_eq_true, Option.map_some, Option.bind_some, Option.map_none, Option.bind_none, true_and, and_true, Bool.not_true, Bool.not_false, Nat.reduceLeDiff, Nat.reduceMul, Nat.reduceSub, Nat.le_refl, Int.reduceToNat, Int.reduceLT, Int.reduceLE, Nat.one_mul, Nat.mul_one]
  refine gT.of (fun g1' => ?_) (fun g1' => ?_) <;> (have g1 := g1'; try simp only [decide_eq_true_eq, decide_eq_false_iff_not, beq_iff_eq, bne_iff_ne, beq_eq_false_iff_ne, ne_eq, Bool.not_eq_true', Bool.not_eq_false', bne_eq_false_iff_eq, Int.not_lt, Int.not_le] at g1)
  · rw [if_pos (by omega)] at he
    simp only [go_sem, Bool.false_and, new_set, Int.reduceBEq, Int.reduceBNe, Int.reduceNeg, not_true_eq_false, beq_self_eq_true, bne_self_eq_false, Bool.false_eq_true, if_false, if_true, Int.cast_ofNat_Int, decide_true, decide_false, reduceCtorEq, Nat.reduceEqDiff, Nat.reduceAdd, ne_eq, not_false_eq_true, Option.map_some, Option.bind_some, Option.map_none, Option.bind_none, true_and, and_true, Bool.not_true, Bool.not_false, Nat.reduceLeDiff, Nat.reduceMul, Nat.reduceSub, Nat.le_refl, Int.reduceToNat, Int.reduceLT, Int.reduceLE, Nat.one_mul, Nat.mul_one, g1']
    rw [← he]
    exact ⟨⟨_, _, rfl⟩, h3⟩
  · rw [if_neg (by omega)] at he
    have c1 : i2 < S.n := by omega
    have c2 : j2 < S.n := by omega
    obtain ⟨n1, n2, t1, t2, h5⟩ := h3.sw c1 c2
    simp only [go_sem, Bool.false_and, new_set, Int.reduceBEq, Int.reduceBNe, Int.reduceNeg, not_true_eq_false, beq_self_eq_true, bne_self_eq_false, Bool.false_eq_true, if_false, if_true, Int.cast_ofNat_Int, decide_true, decide_false, reduceCtorEq, Nat.reduceEqDiff, Nat.reduceAdd, ne_eq, not_false_eq_true, Option.map_some, Option.bind_some, Option.map_none, Option.bind_none, true_and, and_true, Bool.not_true, Bool.not_false, Nat.reduceLeDiff, Nat.reduceMul, Nat.reduceSub, Nat.le_refl, Int.reduceToNat, Int.reduceLT, Int.reduceLE, Nat.one_mul, Nat.mul_one, g1', S.ix c1, S.ix c2, h3.ld c1, h3.ld c2, t1, t2, nadd1 (show i2 < 4000000 by omega), nsub1 (show 0 < j2 by omega) (show j2 < 4000000 by omega)]
    exact ⟨j2 - 1 + 1 - (i2 + 1), by omega, i2 + 1, j2 - 1, _, rfl, by omega, by omega, by omega, rfl, h5, he⟩

theorem so_part {a b p : Nat} (h : S.Row m d) (hb : b ≤ S.n) (hp : a ≤ p) (hp2 : p < b) : WC R F.slices_partitionCmpFunc_local_entry [S.sv, .int .i64 a, .int .i64 b, .int .i64 p, S.cv] m fun r m' =>
    r = .tuple #[.int .i64 (partition S.lt d a b p).1, .bool (partition S.lt d a b p).2.1] ∧ S.Row m' (partition S.lt d a b p).2.2 := by
  refine WC.of R.slices_partitionCmpFunc_local_entry rfl ?_
  have hn := S.small
  have ca : a < S.n := by omega
  have cp : p < S.n := by omega
  obtain ⟨n1, n2, t1, t2, h1⟩ := h.sw ca cp
  simp only [RC.slices_partitionCmpFunc_local_entry, go_sem, Bool.false_and, new_set, Int.reduceBEq, Int.reduceBNe, Int.reduceNeg, not_true_eq_false, beq_self_eq_true, bne_self_eq_false, Bool.false_eq_true, if_false, if_true, Int.cast_ofNat_Int, decide_true, decide_false, reduceCtorEq, Nat.reduceEqDiff, Nat.reduceAdd, ne_eq, not_false_eq_true, Option.map_some, Option.bind_some, Option.map_none, Option.bind_none, true_and, and_true, Bool.not_true, Bool.not_false, Nat.reduceLeDiff, Nat.reduceMul, Nat.reduceSub, Nat.le_refl, Int.reduceToNat, Int.reduceLT, Int.reduceLE, Nat.one_mul, Nat.mul_one, S.ix ca, S.ix cp, h.ld ca, h.ld cp, t1, t2, nadd1 (show a < 4000000 by omega), nsub1 (show 0 < b by omega) (show b < 4000000 by omega)]
  have u1 := scanUp_ge (fun x => S.lt x (swp d a p)[a]!) (swp d a p) (b - 1) (a + 1)
  have u2 := (scanUp_spec (fun x => S.lt x (swp d a p)[a]!) (swp d a p) (b - 1) _ (a + 1) rfl).2.1 (by omega)
  have w1 := scanDown_le (fun x => !S.lt x (swp d a p)[a]!) (swp d a p) (scanUp (fun x => S.lt x (swp d a p)[a]!) (swp d a p) (b - 1) (a + 1)) (b - 1)
  have w2 := (scanDown_spec (fun x => !S.lt x (swp d a p)[a]!) (swp d a p) (scanUp (fun x => S.lt x (swp d a p)[a]!) (swp d a p) (b - 1) (a + 1)) (b - 1)).2.1 (by omega)
  have u3 := (scanUp_spec (fun x => S.lt x (swp d a p)[a]!) (swp d a p) (b - 1) _ (a + 1) rfl).2.2.2
  have w3 := (scanDown_spec (fun x => !S.lt x (swp d a p)[a]!) (swp d a p) (scanUp (fun x => S.lt x (swp d a p)[a]!) (swp d a p) (b - 1) (a + 1)) (b - 1)).2.2.2
  have hpe : partition S.lt d a b p = (if scanUp (fun x => S.lt x (swp d a p)[a]!) (swp d a p) (b - 1) (a + 1) > scanDown (fun x => !S.lt x (swp d a p)[a]!) (swp d a p) (scanUp (fun x => S.lt x (swp d a p)[a]!) (swp d a p) (b - 1) (a + 1)) (b - 1) then
      (scanDown (fun x => !S.lt x (swp d a p)[a]!) (swp d a p) (scanUp (fun x => S.lt x (swp d a p)[a]!) (swp d a p) (b - 1) (a + 1)) (b - 1), true, swp (swp d a p) (scanDown (fun x => !S.lt x (swp d a p)[a]!) (swp d a p) (scanUp (fun x => S.lt x (swp d a p)[a]!) (swp d a p) (b - 1) (a + 1)) (b - 1)) a)
      else ((partLoop S.lt a (scanUp (fun x => S.lt x (swp d a p)[a]!) (swp d a p) (b - 1) (a + 1) + 1) (scanDown (fun x => !S.lt x (swp d a p)[a]!) (swp d a p) (scanUp (fun x => S.lt x (swp d a p)[a]!) (swp d a p) (b - 1) (a + 1)) (b - 1) - 1) (swp (swp d a p) (scanUp (fun x => S.lt x (swp d a p)[a]!) (swp d a p) (b - 1) (a + 1)) (scanDown (fun x => !S.lt x (swp d a p)[a]!) (swp d a p) (scanUp (fun x => S.lt x (swp d a p)[a]!) (swp d a p) (b - 1) (a + 1)) (b - 1)))).1, false,
        swp (partLoop S.lt a (scanUp (fun x => S.lt x (swp d a p)[a]!) (swp d a p) (b - 1) (a + 1) + 1) (scanDown (fun x => !S.lt x (swp d a p)[a]!) (swp d a p) (scanUp (fun x => S.lt x (swp d a p)[a]!) (swp d a p) (b - 1) (a + 1)) (b - 1) - 1) (swp (swp d a p) (scanUp (fun x => S.lt x (swp d a p)[a]!) (swp d a p) (b - 1) (a + 1)) (scanDown (fun x => !S.lt x (swp d a p)[a]!) (swp d a p) (scanUp (fun x => S.lt x (swp d a p)[a]!) (swp d a p) (b - 1) (a + 1)) (b - 1)))).2
          (partLoop S.lt a (scanUp (fun x => S.lt x (swp d a p)[a]!) (swp d a p) (b - 1) (a + 1) + 1) (scanDown (fun x => !S.lt x (swp d a p)[a]!) (swp d a p) (scanUp (fun x => S.lt x (swp d a p)[a]!) (swp d a p) (b - 1) (a + 1)) (b - 1) - 1) (swp (swp d a p) (scanUp (fun x => S.lt x (swp d a p)[a]!) (swp d a p) (b - 1) (a + 1)) (scanDown (fun x => !S.lt x (swp d a p)[a]!) (swp d a p) (scanUp (fun x => S.lt x (swp d a p)[a]!) (swp d a p) (b - 1) (a + 1)) (b - 1)))).1 a)) := rfl
  rw [hpe]
  refine WL.mono (so_pa5 h1 ca (show b - 1 < S.n by omega) (by omega)) ?_
  rintro _ _ m2 ⟨rfl, rfl, h2⟩
  generalize scanUp (fun x => S.lt x (swp d a p)[a]!) (swp d a p) (b - 1) (a + 1) = i2 at u1 u2 u3 w1 w2 w3 ⊢
  simp only [go_sem, Bool.false_and, new_set, Int.reduceBEq, Int.reduceBNe, Int.reduceNeg, not_true_eq_false, beq_self_eq_true, bne_self_eq_false, Bool.false_eq_true, if_false, if_true, Int.cast_ofNat_Int, decide_true, decide_false, reduceCtorEq, Nat.reduceEqDiff, Nat.reduceAdd, ne_eq, not_false_eq_true, Option.map_some, Option.bind_some, Option.map_none, Option.bind_none, true_and, and_true, Bool.not_true, Bool.not_false, Nat.reduceLeDiff, Nat.reduceMul, Nat.reduceSub, Nat.le_refl, Int.reduceToNat, Int.reduceLT, Int.reduceLE, Nat.one_mul, Nat.mul_one]
  refine WL.mono (so_pa4 h2 ca (show b - 1 < S.n by omega) (by omega)) ?_
  rintro _ _ m3 ⟨rfl, rfl, h3⟩
  generalize scanDown (fun x => !S.lt x (swp d a p)[a]!) (swp d a p) i2 (b - 1) = j2 at w1 w2 w3 ⊢
  have hne : i2 ≠ j2 := by
    intro e
    subst e
    have q1 := u3 (by omega)
    have q2 := w3 (by omega) (by omega)
    first | (simp [q1] at q2; done) | (cases hh : S.lt d'[a]! d'[i2]! <;> simp [hh] at q1 q2)
  clear u3 w3
  generalize swp d a p = d1 at *
  simp only [go_sem, Bool.false_and, new_set, Int.reduceBEq, Int.reduceBNe, Int.reduceNeg, not_true_eq_false, beq_self_eq_true, bne_self_eq_false, Bool.false_eq_true, if_false, if_true, Int.cast_ofNat_Int, decide_true, decide_false, reduceCtorEq, Nat.reduceEqDiff, Nat.reduceAdd, ne_eq, not_false_eq_true, Option.map_some, Option.bind_some, Option.map_none, Option.bind_none, true_and, and_true, Bool.not_true, Bool.not_false, Nat.reduceLeDiff, Nat.reduceMul, Nat.reduceSub, Nat.le_refl, Int.reduceToNat, Int.reduceLT, Int.reduceLE, Nat.one_mul, Nat.mul_one]
  have c2 : j2 < S.n := by omega
  refine gT.of (fun g1' => ?_) (fun g1' => ?_) <;> (have g1 := g1'; try simp only [decide_eq_true_eq, decide_eq_false_iff_not, beq_iff_eq, bne_iff_ne, beq_eq_false_iff_ne, ne_eq, Bool.not_eq_true', Bool.not_eq_false', bne_eq_false_iff_eq, Int.not_lt, Int.not_le] at g1)
  · rw [if_pos (by omega)]
    obtain ⟨k1, k2, r1, r2, h5⟩ := h3.sw c2 ca
    simp only [go_sem, Bool.false_and, new_set, Int.reduceBEq, Int.reduceBNe, Int.reduceNeg, not_true_eq_false, beq_self_eq_true, bne_self_eq_false, Bool.false_eq_true, if_false, if_true, Int.cast_ofNat_Int, decide_true, decide_false, reduceCtorEq, Nat.reduceEqDiff, Nat.reduceAdd, ne_eq, not_false_eq_true, Option.map_some, Option.bind_some, Option.map_none, Option.bind_none, true_and, and_true, Bool.not_true, Bool.not_false, Nat.reduceLeDiff, Nat.reduceMul, Nat.reduceSub, Nat.le_refl, Int.reduceToNat, Int.reduceLT, Int.reduceLE, Nat.one_mul, Nat.mul_one, g1', S.ix c2, S.ix ca, h3.ld c2, h3.ld ca, r1, r2]
    exact h5
  · rw [if_neg (by omega)]
    have c1 : i2 < S.n := by omega
    obtain ⟨k1, k2, r1, r2, h5⟩ := h3.sw c1 c2
    simp only [go_sem, Bool.false_and, new_set, Int.reduceBEq, Int.reduceBNe, Int.reduceNeg, not_true_eq_false, beq_self_eq_true, bne_self_eq_false, Bool.false_eq_true, if_false, if_true, Int.cast_ofNat_Int, decide_true, decide_false, reduceCtorEq, Nat.reduceEqDiff, Nat.reduceAdd, ne_eq, not_false_eq_true, Option.map_some, Option.bind_some, Option.map_none, Option.bind_none, true_and, and_true, Bool.not_true, Bool.not_false, Nat.reduceLeDiff, Nat.reduceMul, Nat.reduceSub, Nat.le_refl, Int.reduceToNat, Int.reduceLT, Int.reduceLE, Nat.one_mul, Nat.mul_one, g1', S.ix c1, S.ix c2, h3.ld c1, h3.ld c2, r1, r2, nadd1 (show i2 < 4000000 by omega), nsub1 (show 0 < j2 by omega) (show j2 < 4000000 by omega)]
    refine WL.mono (so_pa3 h5 ca (show j2 - 1 < S.n by omega) (by omega) (by omega)) ?_
    rintro _ _ m4 ⟨rfl, ⟨q, bb, rfl⟩, h6⟩
    have hle := partLoop_le (S := S) (a := a) (j2 - 1 + 1 - (i2 + 1)) (i2 + 1) (j2 - 1) (swp d1 i2 j2) (Nat.le_refl _)
    generalize partLoop S.lt a (i2 + 1) (j2 - 1) (swp d1 i2 j2) = P at *
    have c3 : P.1 < S.n := by omega
    obtain ⟨k3, k4, r3, r4, h7⟩ := h6.sw c3 ca
    simp only [go_sem, Bool.false_and, new_set, Int.reduceBEq, Int.reduceBNe, Int.reduceNeg, not_true_eq_false, beq_self_eq_true, bne_self_eq_false, Bool.false_eq_true, if_false, if_true, Int.cast_ofNat_Int, decide_true, decide_false, reduceCtorEq, Nat.reduceEqDiff, Nat.reduceAdd, ne_eq, not_false_eq_true, Option.map_some, Option.bind_some, Option.map_none, Option.bind_none, true_and, and_true, Bool.not_true, Bool.not_false, Nat.reduceLeDiff, Nat.reduceMul, Nat.reduceSub, Nat.le_refl, Int.reduceToNat, Int.reduceLT, Int.reduceLE, Nat.one_mul, Nat.mul_one, S.ix c3, S.ix ca, h6.ld c3, h6.ld ca, r3, r4]
    exact h7

theorem so_pe2 {a i j : Nat} (h : S.Row m d) (ha : a < S.n) (hj : j < S.n) (hi : i ≤ S.n) :
    WL R [0, 1, 4, 11, 12] RB.slices_partitionEqualCmpFunc_local_entry_2 [(0, S.sv), (1, .int .i64 a), (4, S.cv), (11, .int .i64 i), (12, .int .i64 j)] m fun x e m' =>
      x = .exit 2 ∧ e = [(0, S.sv), (1, .int .i64 a), (4, S.cv), (11, .int .i64 (scanUp (fun x => !S.lt d[a]! x) d j i)), (12, .int .i64 j), (47, .bool false)] ∧ S.Row m' d := by
  have hn := S.small
  refine WL.of (fun r e m' => ∃ (k : Nat), r = S.n + 1 - k ∧ k ≤ S.n ∧ e = [(0, S.sv), (1, .int .i64 a), (4, S.cv), (11, .int .i64 k), (12, .int .i64 j)] ∧ S.Row m' d ∧ scanUp (fun x => !S.lt d[a]! x) d j k = scanUp (fun x => !S.lt d[a]! x) d j i) (S.n + 1 - i)
    ⟨i, rfl, hi, by simp only [go_sem, Bool.false_and, new_set, Int.reduceBEq, Int.reduceBNe, Int.reduceNeg, not_true_eq_false, beq_self_eq_true, bne_self_eq_false, Bool.false_eq_true, if_false, if_true, Int.cast_ofNat_Int, decide_true, decide_false, reduceCtorEq, Nat.reduceEqDiff, Nat.reduceAdd, ne_eq, not_false_eq_true, Option.map_some, Option.bind_some, Option.map_none, Option.bind_none, true_and, and_true, Bool.not_true, Bool.not_false, Nat.reduceLeDiff, Nat.reduceMul, Nat.reduceSub, Nat.le_refl, Int.reduceToNat, Int.reduceLT, Int.reduceLE, Nat.one_mul, Nat.mul_one] <;> rfl, h, rfl⟩ ?_
  rintro n0 _ m1 ⟨k, hr, hk, rfl, h1, he⟩
  rw [scanUp] at he
  simp only [RB.slices_partitionEqualCmpFunc_local_entry_2, go_sem, Bool.false_and, new_set, Int.reduceBEq, Int.reduceBNe, Int.reduceNeg, not_true_eq_false, beq_self_eq_true, bne_self_eq_false, Bool.false_eq_true, if_false, if_true, Int.cast_ofNat_Int, decide_true, decide_false, reduceCtorEq, Nat.reduceEqDiff, Nat.reduceAdd, ne_eq, not_false_eq_true, Option.map_some, Option.bind_some, Option.map_none, Option.bind_none, true_and, and_true, Bool.not_true, Bool.not_false, Nat.reduceLeDiff, Nat.reduceMul, Nat.reduceSub, Nat.le_refl, Int.reduceToNat, Int.reduceLT, Int.reduceLE, Nat.one_mul, Nat.mul_one]
  refine gT.of (fun g1' => ?_) (fun g1' => ?_) <;> (have g1 := g1'; try simp only [decide_eq_true_eq, decide_eq_false_iff_not, beq_iff_eq, bne_iff_ne, beq_eq_false_iff_ne, ne_eq, Bool.not_eq_true', Bool.not_eq_false', bne_eq_false_iff_eq, Int.not_lt, Int.not_le] at g1)
  · have hk2 : k < S.n := by omega
    simp only [go_sem, Bool.false_and, new_set, Int.reduceBEq, Int.reduceBNe, Int.reduceNeg, not_true_eq_false, beq_self_eq_true, bne_self_eq_false, Bool.false_eq_true, if_false, if_true, Int.cast_ofNat_Int, decide_true, decide_false, reduceCtorEq, Nat.reduceEqDiff, Nat.reduceAdd, ne_eq, not_false_eq_true, Option.map_some, Option.bind_some, Option.map_none, Option.bind_none, true_and, and_true, Bool.not_true, Bool.not_false, Nat.reduceLeDiff, Nat.reduceMul, Nat.reduceSub, Nat.le_refl, Int.reduceToNat, Int.reduceLT, Int.reduceLE, Nat.one_mul, Nat.mul_one, g1', S.ix hk2, S.ix ha, h1.ld hk2, h1.ld ha]
    refine gC.of (S.cmp m1 d[a]! d[k]!) ?_
    rintro _ m2 ⟨rfl, hx2⟩
    simp only [go_sem, Bool.false_and, new_set, Int.reduceBEq, Int.reduceBNe, Int.reduceNeg, not_true_eq_false, beq_self_eq_true, bne_self_eq_false, Bool.false_eq_true, if_false, if_true, Int.cast_ofNat_Int, decide_true, decide_false, reduceCtorEq, Nat.reduceEqDiff, Nat.reduceAdd, ne_eq, not_false_eq_true, Option.map_some, Option.bind_some, Option.map_none, Option.bind_none, true_and, and_true, Bool.not_true, Bool.not_false, Nat.reduceLeDiff, Nat.reduceMul, Nat.reduceSub, Nat.le_refl, Int.reduceToNat, Int.reduceLT, Int.reduceLE, Nat.one_mul, Nat.mul_one]
    have h2 := h1.keep hx2
    refine gT.of (fun g2' => ?_) (fun g2' => ?_) <;> (have g2 := g2'; try simp only [decide_eq_true_eq, decide_eq_false_iff_not, beq_iff_eq, bne_iff_ne, beq_eq_false_iff_ne, ne_eq, Bool.not_eq_true', Bool.not_eq_false', bne_eq_false_iff_eq, Int.not_lt, Int.not_le] at g2)
    · rw [if_pos (by rw [S.lt_f' (by simpa using g2)]; simp; omega)] at he
      simp only [go_sem, Bool.false_and, new_set, Int.reduceBEq, Int.reduceBNe, Int.reduceNeg, not_true_eq_false, beq_self_eq_true, bne_self_eq_false, Bool.false_eq_true, if_false, if_true, Int.cast_ofNat_Int, decide_true, decide_false, reduceCtorEq, Nat.reduceEqDiff, Nat.reduceAdd, ne_eq, not_false_eq_true, Option.map_some, Option.bind_some, Option.map_none, Option.bind_none, true_and, and_true, Bool.not_true, Bool.not_false, Nat.reduceLeDiff, Nat.reduceMul, Nat.reduceSub, Nat.le_refl, Int.reduceToNat, Int.reduceLT, Int.reduceLE, Nat.one_mul, Nat.mul_one, g2', nadd1 (show k < 4000000 by omega)]
      exact ⟨S.n + 1 - (k + 1), by omega, k + 1, rfl, by omega, rfl, h2, he⟩
    · rw [if_neg (by rw [S.lt_t (by simpa using g2)]; simp)] at he
      rw [← he]
      simp only [go_sem, Bool.false_and, new_set, Int.reduceBEq, Int.reduceBNe, Int.reduceNeg, not_true_eq_false, beq_self_eq_true, bne_self_eq_false, Bool.false_eq_true, if_false, if_true, Int.cast_ofNat_Int, decide_true, decide_false, reduceCtorEq, Nat.reduceEqDiff, Nat.reduceAdd, ne_eq, not_false_eq_true, Option.map_some, Option.bind_some, Option.map_none, Option.bind_none, true_and, and_true, Bool.not_true, Bool.not_false, Nat.reduceLeDiff, Nat.reduceMul, Nat.reduceSub, Nat.le_refl, Int.reduceToNat, Int.reduceLT, Int.reduceLE, Nat.one_mul, Nat.mul_one, g2']
      exact h2
  · rw [if_neg (by simp; omega)] at he
    rw [← he]
    simp only [go_sem, Bool.false_and, new_set, Int.reduceBEq, Int.reduceBNe, Int.reduceNeg, not_true_eq_false, beq_self_eq_true, bne_self_eq_false, Bool.false_eq_true, if_false, if_true, Int.cast_ofNat_Int, decide_true, decide_false, reduceCtorEq, Nat.reduceEqDiff, Nat.reduceAdd, ne_eq, not_false_eq_true, Option.map_some, Option.bind_some, Option.map_none, Option.bind_none, true_and, and_true, Bool.not_true, Bool.not_false, Nat.reduceLeDiff, Nat.reduceMul, Nat.reduceSub, Nat.le_refl, Int.reduceToNat, Int.reduceLT, Int.reduceLE, Nat.one_mul, Nat.mul_one, g1']
    exact h1

theorem so_pe1 {a i j : Nat} (h : S.Row m d) (ha : a < S.n) (hj : j < S.n) (hi : 1 ≤ i) :
    WL R [0, 1, 4, 11, 12] RB.slices_partitionEqualCmpFunc_local_entry_1 [(0, S.sv), (1, .int .i64 a), (4, S.cv), (11, .int .i64 i), (12, .int .i64 j)] m fun x e m' =>
      x = .exit 4 ∧ e = [(0, S.sv), (1, .int .i64 a), (4, S.cv), (11, .int .i64 i), (12, .int .i64 (scanDown (fun x => S.lt d[a]! x) d i j)), (65, .bool false)] ∧ S.Row m' d := by
  have hn := S.small
  refine WL.of (fun r e m' => ∃ (k : Nat), r = k ∧ k < S.n ∧ e = [(0, S.sv), (1, .int .i64 a), (4, S.cv), (11, .int .i64 i), (12, .int .i64 k)] ∧ S.Row m' d ∧ scanDown (fun x => S.lt d[a]! x) d i k = scanDown (fun x => S.lt d[a]! x) d i j) j
    ⟨j, rfl, hj, by simp only [go_sem, Bool.false_and, new_set, Int.reduceBEq, Int.reduceBNe, Int.reduceNeg, not_true_eq_false, beq_self_eq_true, bne_self_eq_false, Bool.false_eq_true, if_false, if_true, Int.cast_ofNat_Int, decide_true, decide_false, reduceCtorEq, Nat.reduceEqDiff, Nat.reduceAdd, ne_eq, not_false_eq_true, Option.map_some, Option.bind_some, Option.map_none, Option.bind_none, true_and, and_true, Bool.not_true, Bool.not_false, Nat.reduceLeDiff, Nat.reduceMul, Nat.reduceSub, Nat.le_refl, Int.reduceToNat, Int.reduceLT, Int.reduceLE, Nat.one_mul, Nat.mul_one] <;> rfl, h, rfl⟩ ?_
  rintro n0 _ m1 ⟨k, hr, hk, rfl, h1, he⟩
  simp only [RB.slices_partitionEqualCmpFunc_local_entry_1, go_sem, Bool.false_and, new_set, Int.reduceBEq, Int.reduceBNe, Int.reduceNeg, not_true_eq_false, beq_self_eq_true, bne_self_eq_false, Bool.false_eq_true, if_false, if_true, Int.cast_ofNat_Int, decide_true, decide_false, reduceCtorEq, Nat.reduceEqDiff, Nat.reduceAdd, ne_eq, not_false_eq_true, Option.map_some, Option.bind_some, Option.map_none, Option.bind_none, true_and, and_true, Bool.not_true, Bool.not_false, Nat.reduceLeDiff, Nat.reduceMul, Nat.reduceSub, Nat.le_refl, Int.reduceToNat, Int.reduceLT, Int.reduceLE, Nat.one_mul, Nat.mul_one]
  refine gT.of (fun g1' => ?_) (fun g1' => ?_) <;> (have g1 := g1'; try simp only [decide_eq_true_eq, decide_eq_false_iff_not, beq_iff_eq, bne_iff_ne, beq_eq_false_iff_ne, ne_eq, Bool.not_eq_true', Bool.not_eq_false', bne_eq_false_iff_eq, Int.not_lt, Int.not_le] at g1)
  · obtain ⟨k, rfl⟩ : ∃ k', k = k' + 1 := ⟨k - 1, by omega⟩
    simp only [scanDown] at he
    have e1 := nsub1 (i := k + 1) (by omega) (by omega)
    simp only [Nat.add_sub_cancel] at e1
    simp only [go_sem, Bool.false_and, new_set, Int.reduceBEq, Int.reduceBNe, Int.reduceNeg, not_true_eq_false, beq_self_eq_true, bne_self_eq_false, Bool.false_eq_true, if_false, if_true, Int.cast_ofNat_Int, decide_true, decide_false, reduceCtorEq, Nat.reduceEqDiff, Nat.reduceAdd, ne_eq, not_false_eq_true, Option.map_some, Option.bind_some, Option.map_none, Option.bind_none, true_and, and_true, Bool.not_true, Bool.not_false, Nat.reduceLeDiff, Nat.reduceMul, Nat.reduceSub, Nat.le_refl, Int.reduceToNat, Int.reduceLT, Int.reduceLE, Nat.one_mul, Nat.mul_one, g1', S.ix hk, S.ix ha, h1.ld hk, h1.ld ha]
    refine gC.of (S.cmp m1 d[a]! d[k + 1]!) ?_
    rintro _ m2 ⟨rfl, hx2⟩
    simp only [go_sem, Bool.false_and, new_set, Int.reduceBEq, Int.reduceBNe, Int.reduceNeg, not_true_eq_false, beq_self_eq_true, bne_self_eq_false, Bool.false_eq_true, if_false, if_true, Int.cast_ofNat_Int, decide_true, decide_false, reduceCtorEq, Nat.reduceEqDiff, Nat.reduceAdd, ne_eq, not_false_eq_true, Option.map_some, Option.bind_some, Option.map_none, Option.bind_none, true_and, and_true, Bool.not_true, Bool.not_false, Nat.reduceLeDiff, Nat.reduceMul, Nat.reduceSub, Nat.le_refl, Int.reduceToNat, Int.reduceLT, Int.reduceLE, Nat.one_mul, Nat.mul_one]
    have h2 := h1.keep hx2
    refine gT.of (fun g2' => ?_) (fun g2' => ?_) <;> (have g2 := g2'; try simp only [decide_eq_true_eq, decide_eq_false_iff_not, beq_iff_eq, bne_iff_ne, beq_eq_false_iff_ne, ne_eq, Bool.not_eq_true', Bool.not_eq_false', bne_eq_false_iff_eq, Int.not_lt, Int.not_le] at g2)
    · rw [if_pos (by rw [S.lt_t g2]; simp; omega)] at he
      simp only [go_sem, Bool.false_and, new_set, Int.reduceBEq, Int.reduceBNe, Int.reduceNeg, not_true_eq_false, beq_self_eq_true, bne_self_eq_false, Bool.false_eq_true, if_false, if_true, Int.cast_ofNat_Int, decide_true, decide_false, reduceCtorEq, Nat.reduceEqDiff, Nat.reduceAdd, ne_eq, not_false_eq_true, Option.map_some, Option.bind_some, Option.map_none, Option.bind_none, true_and, and_true, Bool.not_true, Bool.not_false, Nat.reduceLeDiff, Nat.reduceMul, Nat.reduceSub, Nat.le_refl, Int.reduceToNat, Int.reduceLT, Int.reduceLE, Nat.one_mul, Nat.mul_one, g2', e1]
      exact ⟨k, by omega, k, rfl, by omega, rfl, h2, he⟩
    · rw [if_neg (by rw [S.lt_f' g2]; simp)] at he
      rw [← he]
      simp only [go_sem, Bool.false_and, new_set, Int.reduceBEq, Int.reduceBNe, Int.reduceNeg, not_true_eq_false, beq_self_eq_true, bne_self_eq_false, Bool.false_eq_true, if_false, if_true, Int.cast_ofNat_Int, decide_true, decide_false, reduceCtorEq, Nat.reduceEqDiff, Nat.reduceAdd, ne_eq, not_false_eq_true, Option.map_some, Option.bind_some, Option.map_none, Option.bind_none, true_and, and_true, Bool.not_true, Bool.not_false, Nat.reduceLeDiff, Nat.reduceMul, Nat.reduceSub, Nat.le_refl, Int.reduceToNat, Int.reduceLT, Int.reduceLE, Nat.one_mul, Nat.mul_one, g2']
      exact h2
  · have he2 : scanDown (fun x => S.lt d[a]! x) d i k = k := by
      cases k with
      | zero => rfl
      | succ k => simp only [scanDown]; rw [if_neg (by simp; omega)]
    rw [← he, he2]
    simp only [go_sem, Bool.false_and, new_set, Int.reduceBEq, Int.reduceBNe, Int.reduceNeg, not_true_eq_false, beq_self_eq_true, bne_self_eq_false, Bool.false_eq_true, if_false, if_true, Int.cast_ofNat_Int, decide_true, decide_false, reduceCtorEq, Nat.reduceEqDiff, Nat.reduceAdd, ne_eq, not_false_eq_true, Option.map_some, Option.bind_some, Option.map_none, Option.bind_none, true_and, and_true, Bool.not_true, Bool.not_false, Nat.reduceLeDiff, Nat.reduceMul, Nat.reduceSub, Nat.le_refl, Int.reduceToNat, Int.reduceLT, Int.reduceLE, Nat.one_mul, Nat.mul_one, g1']
    exact h1

theorem so_pe3 {a i j : Nat} (h : S.Row m d) (ha : a < S.n) (hj : j < S.n) (hi : 1 ≤ i) (hij : i ≤ j + 1) :
    WL R [0, 1, 4, 11, 12] RB.slices_partitionEqualCmpFunc_local_entry_3 [(0, S.sv), (1, .int .i64 a), (4, S.cv), (11, .int .i64 i), (12, .int .i64 j)] m fun x e m' =>
      x = .exit 0 ∧ (∃ q b, e = [(0, S.sv), (1, .int .i64 a), (4, S.cv), (11, .int .i64 (partEqLoop S.lt a i j d).1), (12, q), (70, b)]) ∧ S.Row m' (partEqLoop S.lt a i j d).2 := by
  have hn := S.small
  refine WL.of (fun r e m' => ∃ (i' j' : Nat) (d' : Array α), r = j' + 1 - i' ∧ 1 ≤ i' ∧ i' ≤ j' + 1 ∧ j' < S.n ∧ e = [(0, S.sv), (1, .int .i64 a), (4, S.cv), (11, .int .i64 i'), (12, .int .i64 j')] ∧ S.Row m' d' ∧ partEqLoop S.lt a i' j' d' = partEqLoop S.lt a i j d) (j + 1 - i)
    ⟨i, j, d, rfl, hi, hij, hj, by simp only [go_sem, Bool.false_and, new_set, Int.reduceBEq, Int.reduceBNe, Int.reduceNeg, not_true_eq_false, beq_self_eq_true, bne_self_eq_false, Bool.false_eq_true, if_false, if_true, Int.cast_ofNat_Int, decide_true, decide_false, reduceCtorEq, Nat.reduceEqDiff, Nat.reduceAdd, ne_eq, not_false_eq_true, Option.map_some, Option.bind_some, Option.map_none, Option.bind_none, true_and, and_true, Bool.not_true, Bool.not_false, Nat.reduceLeDiff, Nat.reduceMul, Nat.reduceSub, Nat.le_refl, Int.reduceToNat, Int.reduceLT, Int.reduceLE, Nat.one_mul, Nat.mul_one] <;> rfl, h, rfl⟩ ?_
  rintro n0 _ m1 ⟨i', j', d', hr, hi', hij', hj', rfl, h1, he⟩
  simp only [RB.slices_partitionEqualCmpFunc_local_entry_3, go_sem, Bool.false_and, new_set, Int.reduceBEq, Int.reduceBNe, Int.reduceNeg, not_true_eq_false, beq_self_eq_true, bne_self_eq_false, Bool.false_eq_true, if_false, if_true, Int.cast_ofNat_Int, decide_true, decide_false, reduceCtorEq, Nat.reduceEqDiff, Nat.reduceAdd, ne_eq, not_false_eq_true, Option.map_some, Option.bind_some, Option.map_none, Option.bind_none, true_and, and_true, Bool.not_true, Bool.not_false, Nat.reduceLeDiff, Nat.reduceMul, Nat.reduceSub, Nat.le_refl, Int.reduceToNat, Int.reduceLT, Int.reduceLE, Nat.one_mul, Nat.mul_one]
  rw [partEqLoop_eq] at he
  have u1 := scanUp_ge (fun x => !S.lt d'[a]! x) d' j' i'
  have u2 := (scanUp_spec (fun x => !S.lt d'[a]! x) d' j' _ i' rfl).2.1 hij'
  have u3 := (scanUp_spec (fun x => !S.lt d'[a]! x) d' j' _ i' rfl).2.2.2
  refine WL.mono (so_pe2 h1 ha hj' (by omega)) ?_
  rintro _ _ m2 ⟨rfl, rfl, h2⟩
  generalize scanUp (fun x => !S.lt d'[a]! x) d' j' i' = i2 at u1 u2 u3 he ⊢
  simp only [go_sem, Bool.false_and, new_set, Int.reduceBEq, Int.reduceBNe, Int.reduceNeg, not_true_eq_false, beq_self_eq_true, bne_self_eq_false, Bool.false_eq_true, if_false, if_true, Int.cast_ofNat_Int, decide_true, decide_false, reduceCtorEq, Nat.reduceEqDiff, Nat.reduceAdd, ne_eq, not_false_eq_true, Option.map_some, Option.bind_some, Option.map_none, Option.bind_none, true_and, and_true, Bool.not_true, Bool.not_false, Nat.reduceLeDiff, Nat.reduceMul, Nat.reduceSub, Nat.le_refl, Int.reduceToNat, Int.reduceLT, Int.reduceLE, Nat.one_mul, Nat.mul_one]
  have w1 := scanDown_le (fun x => S.lt d'[a]! x) d' i2 j'
  have w2 := (scanDown_spec (fun x => S.lt d'[a]! x) d' i2 j').2.1 (by omega)
  have w3 := (scanDown_spec (fun x => S.lt d'[a]! x) d' i2 j').2.2.2
  refine WL.mono (so_pe1 h2 ha hj' (by omega)) ?_
  rintro _ _ m3 ⟨rfl, rfl, h3⟩
  generalize scanDown (fun x => S.lt d'[a]! x) d' i2 j' = j2 at w1 w2 w3 he ⊢
  have hne : i2 ≠ j2 := by
    intro e
    subst e
    have q1 := u3 (by omega)
    have q2 := w3 (by omega) (by omega)
    first | (simp [q1] at q2; done) | (cases hh : S.lt d'[a]! d'[i2]! <;> simp [hh] at q1 q2)
  simp only [go_sem, Bool.false_and, new_set, Int.reduceBEq, Int.reduceBNe, Int.reduceNeg, not_true_eq_false, beq_self_eq_true, bne_self_eq_false, Bool.false_eq_true, if_false, if_true, Int.cast_ofNat_Int, decide_true, decide_false, reduceCtorEq, Nat.reduceEqDiff, Nat.reduceAdd, ne_eq, not_false_eq_true, Option.map_some, Option.bind_some, Option.map_none, Option.bind_none, true_and, and_true, Bool.not_true, Bool.not_false, Nat.reduceLeDiff, Nat.reduceMul, Nat.reduceSub, Nat.le_refl, Int.reduceToNat, Int.reduceLT, Int.reduceLE, Nat.one_mul, Nat.mul_one]
  refine gT.of (fun g1' => ?_) (fun g1' => ?_) <;> (have g1 := g1'; try simp only [decide_eq_true_eq, decide_eq_false_iff_not, beq_iff_eq, bne_iff_ne, beq_eq_false_iff_ne, ne_eq, Bool.not_eq_true', Bool.not_eq_false', bne_eq_false_iff_eq, Int.not_lt, Int.not_le] at g1)
  · rw [if_pos (by omega)] at he
    simp only [go_sem, Bool.false_and, new_set, Int.reduceBEq, Int.reduceBNe, Int.reduceNeg, not_true_eq_false, beq_self_eq_true, bne_self_eq_false, Bool.false_eq_true, if_false, if_true, Int.cast_ofNat_Int, decide_true, decide_false, reduceCtorEq, Nat.reduceEqDiff, Nat.reduceAdd, ne_eq, not_false_eq_true, Option.map_some, Option.bind_some, Option.map_none, Option.bind_none, true_and, and_true, Bool.not_true, Bool.not_false, Nat.reduceLeDiff, Nat.reduceMul, Nat.reduceSub, Nat.le_refl, Int.reduceToNat, Int.reduceLT, Int.reduceLE, Nat.one_mul, Nat.mul_one, g1']
    rw [← he]
    exact ⟨⟨_, _, rfl⟩, h3⟩
  · rw [if_neg (by omega)] at he
    have c1 : i2 < S.n := by omega
    have c2 : j2 < S.n := by omega
    obtain ⟨n1, n2, t1, t2, h5⟩ := h3.sw c1 c2
    simp only [go_sem, Bool.false_and, new_set, Int.reduceBEq, Int.reduceBNe, Int.reduceNeg, not_true_eq_false, beq_self_eq_true, bne_self_eq_false, Bool.false_eq_true, if_false, if_true, Int.cast_ofNat_Int, decide_true, decide_false, reduceCtorEq, Nat.reduceEqDiff, Nat.reduceAdd, ne_eq, not_false_eq_true, Option.map_some, Option.bind_some, Option.map_none, Option.bind_none, true_and, and_true, Bool.not_true, Bool.not_false, Nat.reduceLeDiff, Nat.reduceMul, Nat.reduceSub, Nat.le_refl, Int.reduceToNat, Int.reduceLT, Int.reduceLE, Nat.one_mul, Nat.mul_one, g1', S.ix c1, S.ix c2, h3.ld c1, h3.ld c2, t1, t2, nadd1 (show i2 < 4000000 by omega), nsub1 (show 0 < j2 by omega) (show j2 < 4000000 by omega)]
    exact ⟨j2 - 1 + 1 - (i2 + 1), by omega, i2 + 1, j2 - 1, _, rfl, by omega, by omega, by omega, rfl, h5, he⟩

theorem so_parte {a b p : Nat} (h : S.Row m d) (hb : b ≤ S.n) (hp : a ≤ p) (hp2 : p < b) : WC R F.slices_partitionEqualCmpFunc_local_entry [S.sv, .int .i64 a, .int .i64 b, .int .i64 p, S.cv] m fun r m' =>
    r = .int .i64 (partitionEqual S.lt d a b p).1 ∧ S.Row m' (partitionEqual S.lt d a b p).2 := by
  refine WC.of R.slices_partitionEqualCmpFunc_local_entry rfl ?_
  have hn := S.small
  have ca : a < S.n := by omega
  have cp : p < S.n := by omega
  obtain ⟨n1, n2, t1, t2, h1⟩ := h.sw ca cp
  simp only [RC.slices_partitionEqualCmpFunc_local_entry, go_sem, Bool.false_and, new_set, Int.reduceBEq, Int.reduceBNe, Int.reduceNeg, not_true_eq_false, beq_self_eq_true, bne_self_eq_false, Bool.false_eq_true, if_false, if_true, Int.cast_ofNat_Int, decide_true, decide_false, reduceCtorEq, Nat.reduceEqDiff, Nat.reduceAdd, ne_eq, not_false_eq_true, Option.map_some, Option.bind_some, Option.map_none, Option.bind_none, true_and, and_true, Bool.not_true, Bool.not_false, Nat.reduceLeDiff, Nat.reduceMul, Nat.reduceSub, Nat.le_refl, Int.reduceToNat, Int.reduceLT, Int.reduceLE, Nat.one_mul, Nat.mul_one, S.ix ca, S.ix cp, h.ld ca, h.ld cp, t1, t2, nadd1 (show a < 4000000 by omega), nsub1 (show 0 < b by omega) (show b < 4000000 by omega)]
  refine WL.mono (so_pe3 h1 ca (show b - 1 < S.n by omega) (by omega) (by omega)) ?_
  rintro _ _ m2 ⟨rfl, ⟨q, bb, rfl⟩, h2⟩
  simp only [go_sem, Bool.false_and, new_set, Int.reduceBEq, Int.reduceBNe, Int.reduceNeg, not_true_eq_false, beq_self_eq_true, bne_self_eq_false, Bool.false_eq_true, if_false, if_true, Int.cast_ofNat_Int, decide_true, decide_false, reduceCtorEq, Nat.reduceEqDiff, Nat.reduceAdd, ne_eq, not_false_eq_true, Option.map_some, Option.bind_some, Option.map_none, Option.bind_none, true_and, and_true, Bool.not_true, Bool.not_false, Nat.reduceLeDiff, Nat.reduceMul, Nat.reduceSub, Nat.le_refl, Int.reduceToNat, Int.reduceLT, Int.reduceLE, Nat.one_mul, Nat.mul_one]
  exact ⟨rfl, h2⟩
end Go.Am


/- Sorting a row at local_entry (Local): insertion of a few. Printed out of SortT4.tmpl by sortgen.py. -/
set_option linter.unusedVariables false
set_option linter.unusedSimpArgs false
namespace Go.Am
open Go.Sort
variable {α : Type} [Inhabited α] {S : SortC R α 3} {m : Mem} {d : Array α}

theorem so_pi3 {a b i : Nat} {v10 : Value} {rest : Env} (h : S.Row m d) (hb : b ≤ S.n) (hi : 1 ≤ i) (hib : i ≤ b) :
    WL R [0, 1, 2, 3, 9, 10] RB.slices_partialInsertionSortCmpFunc_local_entry_3 ((0, S.sv) :: (1, .int .i64 a) :: (2, .int .i64 b) :: (3, S.cv) :: (9, .int .i64 i) :: (10, v10) :: rest) m fun x e m' =>
      x = .exit 2 ∧ e = [(0, S.sv), (1, .int .i64 a), (2, .int .i64 b), (3, S.cv), (9, .int .i64 (scanSorted S.lt d b i)), (10, v10), (36, .bool false)] ∧ S.Row m' d ∧ i ≤ scanSorted S.lt d b i ∧ scanSorted S.lt d b i ≤ b := by
  have hn := S.small
  refine WL.of (fun r e m' => ∃ (k : Nat), r = b - k ∧ 1 ≤ k ∧ i ≤ k ∧ k ≤ b ∧ e = [(0, S.sv), (1, .int .i64 a), (2, .int .i64 b), (3, S.cv), (9, .int .i64 k), (10, v10)] ∧ S.Row m' d ∧ scanSorted S.lt d b k = scanSorted S.lt d b i) (b - i)
    ⟨i, rfl, hi, Nat.le_refl _, hib, by simp only [go_sem, Bool.false_and, new_set, Int.reduceBEq, Int.reduceBNe, Int.reduceNeg, not_true_eq_false, beq_self_eq_true, bne_self_eq_false, Bool.false_eq_true, if_false, if_true, Int.cast_ofNat_Int, decide_true, decide_false, reduceCtorEq, Nat.reduceEqDiff, Nat.reduceAdd, ne_eq, not_false_eq_true, Option.map_some, Option.bind_some, Option.map_none, Option.bind_none, true_and, and_true, Bool.not_true, Bool.not_false, Nat.reduceLeDiff, Nat.reduceMul, Nat.reduceSub, Nat.le_refl, Int.reduceToNat, Int.reduceLT, Int.reduceLE, Nat.one_mul, Nat.mul_one] <;> rfl, h, rfl⟩ ?_
  rintro n0 _ m1 ⟨k, hr, hk1, hik, hkb, rfl, h1, he⟩
  rw [scanSorted] at he
  simp only [RB.slices_partialInsertionSortCmpFunc_local_entry_3, go_sem, Bool.false_and, new_set, Int.reduceBEq, Int.reduceBNe, Int.reduceNeg, not_true_eq_false, beq_self_eq_true, bne_self_eq_false, Bool.false_eq_true, if_false, if_true, Int.cast_ofNat_Int, decide_true, decide_false, reduceCtorEq, Nat.reduceEqDiff, Nat.reduceAdd, ne_eq, not_false_eq_true, Option.map_some, Option.bind_some, Option.map_none, Option.bind_none, true_and, and_true, Bool.not_true, Bool.not_false, Nat.reduceLeDiff, Nat.reduceMul, Nat.reduceSub, Nat.le_refl, Int.reduceToNat, Int.reduceLT, Int.reduceLE, Nat.one_mul, Nat.mul_one]
  refine gT.of (fun g1' => ?_) (fun g1' => ?_) <;> (have g1 := g1'; try simp only [decide_eq_true_eq, decide_eq_false_iff_not, beq_iff_eq, bne_iff_ne, beq_eq_false_iff_ne, ne_eq, Bool.not_eq_true', Bool.not_eq_false', bne_eq_false_iff_eq, Int.not_lt, Int.not_le] at g1)
  · have c1 : k < S.n := by omega
    have c0 : k - 1 < S.n := by omega
    simp only [go_sem, Bool.false_and, new_set, Int.reduceBEq, Int.reduceBNe, Int.reduceNeg, not_true_eq_false, beq_self_eq_true, bne_self_eq_false, Bool.false_eq_true, if_false, if_true, Int.cast_ofNat_Int, decide_true, decide_false, reduceCtorEq, Nat.reduceEqDiff, Nat.reduceAdd, ne_eq, not_false_eq_true, Option.map_some, Option.bind_some, Option.map_none, Option.bind_none, true_and, and_true, Bool.not_true, Bool.not_false, Nat.reduceLeDiff, Nat.reduceMul, Nat.reduceSub, Nat.le_refl, Int.reduceToNat, Int.reduceLT, Int.reduceLE, Nat.one_mul, Nat.mul_one, g1', nsub1 (show 0 < k by omega) (show k < 4000000 by omega), S.ix c1, S.ix c0, h1.ld c1, h1.ld c0]
    refine gC.of (S.cmp m1 d[k]! d[k - 1]!) ?_
    rintro _ m2 ⟨rfl, hx2⟩
    simp only [go_sem, Bool.false_and, new_set, Int.reduceBEq, Int.reduceBNe, Int.reduceNeg, not_true_eq_false, beq_self_eq_true, bne_self_eq_false, Bool.false_eq_true, if_false, if_true, Int.cast_ofNat_Int, decide_true, decide_false, reduceCtorEq, Nat.reduceEqDiff, Nat.reduceAdd, ne_eq, not_false_eq_true, Option.map_some, Option.bind_some, Option.map_none, Option.bind_none, true_and, and_true, Bool.not_true, Bool.not_false, Nat.reduceLeDiff, Nat.reduceMul, Nat.reduceSub, Nat.le_refl, Int.reduceToNat, Int.reduceLT, Int.reduceLE, Nat.one_mul, Nat.mul_one]
    have h2 := h1.keep hx2
    refine gT.of (fun g2' => ?_) (fun g2' => ?_) <;> (have g2 := g2'; try simp only [decide_eq_true_eq, decide_eq_false_iff_not, beq_iff_eq, bne_iff_ne, beq_eq_false_iff_ne, ne_eq, Bool.not_eq_true', Bool.not_eq_false', bne_eq_false_iff_eq, Int.not_lt, Int.not_le] at g2)
    · rw [if_pos (by rw [S.lt_f' (by simpa using g2)]; simp; omega)] at he
      simp only [go_sem, Bool.false_and, new_set, Int.reduceBEq, Int.reduceBNe, Int.reduceNeg, not_true_eq_false, beq_self_eq_true, bne_self_eq_false, Bool.false_eq_true, if_false, if_true, Int.cast_ofNat_Int, decide_true, decide_false, reduceCtorEq, Nat.reduceEqDiff, Nat.reduceAdd, ne_eq, not_false_eq_true, Option.map_some, Option.bind_some, Option.map_none, Option.bind_none, true_and, and_true, Bool.not_true, Bool.not_false, Nat.reduceLeDiff, Nat.reduceMul, Nat.reduceSub, Nat.le_refl, Int.reduceToNat, Int.reduceLT, Int.reduceLE, Nat.one_mul, Nat.mul_one, g2', nadd1 (show k < 4000000 by omega)]
      exact ⟨b - (k + 1), by omega, k + 1, rfl, by omega, by omega, by omega, rfl, h2, he⟩
    · rw [if_neg (by rw [S.lt_t (by simpa using g2)]; simp)] at he
      rw [← he]
      simp only [go_sem, Bool.false_and, new_set, Int.reduceBEq, Int.reduceBNe, Int.reduceNeg, not_true_eq_false, beq_self_eq_true, bne_self_eq_false, Bool.false_eq_true, if_false, if_true, Int.cast_ofNat_Int, decide_true, decide_false, reduceCtorEq, Nat.reduceEqDiff, Nat.reduceAdd, ne_eq, not_false_eq_true, Option.map_some, Option.bind_some, Option.map_none, Option.bind_none, true_and, and_true, Bool.not_true, Bool.not_false, Nat.reduceLeDiff, Nat.reduceMul, Nat.reduceSub, Nat.le_refl, Int.reduceToNat, Int.reduceLT, Int.reduceLE, Nat.one_mul, Nat.mul_one, g2']
      exact ⟨h2, hik, hkb⟩
  · rw [if_neg (by simp; omega)] at he
    rw [← he]
    simp only [go_sem, Bool.false_and, new_set, Int.reduceBEq, Int.reduceBNe, Int.reduceNeg, not_true_eq_false, beq_self_eq_true, bne_self_eq_false, Bool.false_eq_true, if_false, if_true, Int.cast_ofNat_Int, decide_true, decide_false, reduceCtorEq, Nat.reduceEqDiff, Nat.reduceAdd, ne_eq, not_false_eq_true, Option.map_some, Option.bind_some, Option.map_none, Option.bind_none, true_and, and_true, Bool.not_true, Bool.not_false, Nat.reduceLeDiff, Nat.reduceMul, Nat.reduceSub, Nat.le_refl, Int.reduceToNat, Int.reduceLT, Int.reduceLE, Nat.one_mul, Nat.mul_one, g1']
    exact ⟨h1, hik, hkb⟩

theorem so_pi2 {j : Nat} {v1 v2 v9 v10 : Value} (h : S.Row m d) (hj : j < S.n) :
    WL R [0, 1, 2, 3, 9, 10, 11] RB.slices_partialInsertionSortCmpFunc_local_entry_2 [(0, S.sv), (1, v1), (2, v2), (3, S.cv), (9, v9), (10, v10), (11, .int .i64 j)] m fun x e m' =>
      x = .exit 4 ∧ (∃ rest, e = (0, S.sv) :: (1, v1) :: (2, v2) :: (3, S.cv) :: (9, v9) :: (10, v10) :: rest) ∧ S.Row m' (shiftDown S.lt j d) := by
  have hn := S.small
  refine WL.of (fun r e m' => ∃ (k : Nat) (d' : Array α), r = k ∧ k < S.n ∧ e = [(0, S.sv), (1, v1), (2, v2), (3, S.cv), (9, v9), (10, v10), (11, .int .i64 k)] ∧ S.Row m' d' ∧ shiftDown S.lt k d' = shiftDown S.lt j d) j
    ⟨j, d, rfl, hj, by simp only [go_sem, Bool.false_and, new_set, Int.reduceBEq, Int.reduceBNe, Int.reduceNeg, not_true_eq_false, beq_self_eq_true, bne_self_eq_false, Bool.false_eq_true, if_false, if_true, Int.cast_ofNat_Int, decide_true, decide_false, reduceCtorEq, Nat.reduceEqDiff, Nat.reduceAdd, ne_eq, not_false_eq_true, Option.map_some, Option.bind_some, Option.map_none, Option.bind_none, true_and, and_true, Bool.not_true, Bool.not_false, Nat.reduceLeDiff, Nat.reduceMul, Nat.reduceSub, Nat.le_refl, Int.reduceToNat, Int.reduceLT, Int.reduceLE, Nat.one_mul, Nat.mul_one] <;> rfl, h, rfl⟩ ?_
  rintro n0 _ m1 ⟨k, d', hr, hk, rfl, h1, he⟩
  simp only [RB.slices_partialInsertionSortCmpFunc_local_entry_2, go_sem, Bool.false_and, new_set, Int.reduceBEq, Int.reduceBNe, Int.reduceNeg, not_true_eq_false, beq_self_eq_true, bne_self_eq_false, Bool.false_eq_true, if_false, if_true, Int.cast_ofNat_Int, decide_true, decide_false, reduceCtorEq, Nat.reduceEqDiff, Nat.reduceAdd, ne_eq, not_false_eq_true, Option.map_some, Option.bind_some, Option.map_none, Option.bind_none, true_and, and_true, Bool.not_true, Bool.not_false, Nat.reduceLeDiff, Nat.reduceMul, Nat.reduceSub, Nat.le_refl, Int.reduceToNat, Int.reduceLT, Int.reduceLE, Nat.one_mul, Nat.mul_one]
  refine gT.of (fun g1' => ?_) (fun g1' => ?_) <;> (have g1 := g1'; try simp only [decide_eq_true_eq, decide_eq_false_iff_not, beq_iff_eq, bne_iff_ne, beq_eq_false_iff_ne, ne_eq, Bool.not_eq_true', Bool.not_eq_false', bne_eq_false_iff_eq, Int.not_lt, Int.not_le] at g1)
  · obtain ⟨k, rfl⟩ : ∃ k', k = k' + 1 := ⟨k - 1, by omega⟩
    simp only [shiftDown] at he
    have c0 : k < S.n := by omega
    have e1 := nsub1 (i := k + 1) (by omega) (by omega)
    simp only [Nat.add_sub_cancel] at e1
    simp only [go_sem, Bool.false_and, new_set, Int.reduceBEq, Int.reduceBNe, Int.reduceNeg, not_true_eq_false, beq_self_eq_true, bne_self_eq_false, Bool.false_eq_true, if_false, if_true, Int.cast_ofNat_Int, decide_true, decide_false, reduceCtorEq, Nat.reduceEqDiff, Nat.reduceAdd, ne_eq, not_false_eq_true, Option.map_some, Option.bind_some, Option.map_none, Option.bind_none, true_and, and_true, Bool.not_true, Bool.not_false, Nat.reduceLeDiff, Nat.reduceMul, Nat.reduceSub, Nat.le_refl, Int.reduceToNat, Int.reduceLT, Int.reduceLE, Nat.one_mul, Nat.mul_one, g1', e1, S.ix hk, S.ix c0, h1.ld hk, h1.ld c0]
    refine gC.of (S.cmp m1 d'[k + 1]! d'[k]!) ?_
    rintro _ m2 ⟨rfl, hx2⟩
    simp only [go_sem, Bool.false_and, new_set, Int.reduceBEq, Int.reduceBNe, Int.reduceNeg, not_true_eq_false, beq_self_eq_true, bne_self_eq_false, Bool.false_eq_true, if_false, if_true, Int.cast_ofNat_Int, decide_true, decide_false, reduceCtorEq, Nat.reduceEqDiff, Nat.reduceAdd, ne_eq, not_false_eq_true, Option.map_some, Option.bind_some, Option.map_none, Option.bind_none, true_and, and_true, Bool.not_true, Bool.not_false, Nat.reduceLeDiff, Nat.reduceMul, Nat.reduceSub, Nat.le_refl, Int.reduceToNat, Int.reduceLT, Int.reduceLE, Nat.one_mul, Nat.mul_one]
    have h2 := h1.keep hx2
    refine gT.of (fun g2' => ?_) (fun g2' => ?_) <;> (have g2 := g2'; try simp only [decide_eq_true_eq, decide_eq_false_iff_not, beq_iff_eq, bne_iff_ne, beq_eq_false_iff_ne, ne_eq, Bool.not_eq_true', Bool.not_eq_false', bne_eq_false_iff_eq, Int.not_lt, Int.not_le] at g2)
    · rw [if_pos (by rw [S.lt_f' (by simpa using g2)]; rfl)] at he
      rw [← he]
      simp only [go_sem, Bool.false_and, new_set, Int.reduceBEq, Int.reduceBNe, Int.reduceNeg, not_true_eq_false, beq_self_eq_true, bne_self_eq_false, Bool.false_eq_true, if_false, if_true, Int.cast_ofNat_Int, decide_true, decide_false, reduceCtorEq, Nat.reduceEqDiff, Nat.reduceAdd, ne_eq, not_false_eq_true, Option.map_some, Option.bind_some, Option.map_none, Option.bind_none, true_and, and_true, Bool.not_true, Bool.not_false, Nat.reduceLeDiff, Nat.reduceMul, Nat.reduceSub, Nat.le_refl, Int.reduceToNat, Int.reduceLT, Int.reduceLE, Nat.one_mul, Nat.mul_one, g2']
      exact ⟨⟨_, rfl⟩, h2⟩
    · rw [if_neg (by rw [S.lt_t (by simpa using g2)]; simp)] at he
      obtain ⟨n1, n2, t1, t2, h5⟩ := h2.sw hk c0
      simp only [go_sem, Bool.false_and, new_set, Int.reduceBEq, Int.reduceBNe, Int.reduceNeg, not_true_eq_false, beq_self_eq_true, bne_self_eq_false, Bool.false_eq_true, if_false, if_true, Int.cast_ofNat_Int, decide_true, decide_false, reduceCtorEq, Nat.reduceEqDiff, Nat.reduceAdd, ne_eq, not_false_eq_true, Option.map_some, Option.bind_some, Option.map_none, Option.bind_none, true_and, and_true, Bool.not_true, Bool.not_false, Nat.reduceLeDiff, Nat.reduceMul, Nat.reduceSub, Nat.le_refl, Int.reduceToNat, Int.reduceLT, Int.reduceLE, Nat.one_mul, Nat.mul_one, g2', e1, S.ix hk, S.ix c0, h2.ld hk, h2.ld c0, t1, t2]
      exact ⟨k, by omega, k, _, rfl, c0, rfl, h5, he⟩
  · have hk0 : k = 0 := by omega
    subst hk0
    simp only [shiftDown] at he
    rw [← he]
    simp only [go_sem, Bool.false_and, new_set, Int.reduceBEq, Int.reduceBNe, Int.reduceNeg, not_true_eq_false, beq_self_eq_true, bne_self_eq_false, Bool.false_eq_true, if_false, if_true, Int.cast_ofNat_Int, decide_true, decide_false, reduceCtorEq, Nat.reduceEqDiff, Nat.reduceAdd, ne_eq, not_false_eq_true, Option.map_some, Option.bind_some, Option.map_none, Option.bind_none, true_and, and_true, Bool.not_true, Bool.not_false, Nat.reduceLeDiff, Nat.reduceMul, Nat.reduceSub, Nat.le_refl, Int.reduceToNat, Int.reduceLT, Int.reduceLE, Nat.one_mul, Nat.mul_one, g1']
    exact ⟨⟨_, rfl⟩, h1⟩

theorem so_pi1 {b j : Nat} {v1 v9 v10 : Value} (h : S.Row m d) (hj : 1 ≤ j) (hb : b ≤ S.n) (hjb : j ≤ b) :
    WL R [0, 1, 2, 3, 9, 10, 12] RB.slices_partialInsertionSortCmpFunc_local_entry_1 [(0, S.sv), (1, v1), (2, .int .i64 b), (3, S.cv), (9, v9), (10, v10), (12, .int .i64 j)] m fun x e m' =>
      x = .exit 6 ∧ (∃ rest, e = (0, S.sv) :: (1, v1) :: (2, .int .i64 b) :: (3, S.cv) :: (9, v9) :: (10, v10) :: rest) ∧ S.Row m' (shiftUp S.lt b j d) := by
  have hn := S.small
  refine WL.of (fun r e m' => ∃ (k : Nat) (d' : Array α), r = b - k ∧ 1 ≤ k ∧ k ≤ b ∧ e = [(0, S.sv), (1, v1), (2, .int .i64 b), (3, S.cv), (9, v9), (10, v10), (12, .int .i64 k)] ∧ S.Row m' d' ∧ shiftUp S.lt b k d' = shiftUp S.lt b j d) (b - j)
    ⟨j, d, rfl, hj, hjb, by simp only [go_sem, Bool.false_and, new_set, Int.reduceBEq, Int.reduceBNe, Int.reduceNeg, not_true_eq_false, beq_self_eq_true, bne_self_eq_false, Bool.false_eq_true, if_false, if_true, Int.cast_ofNat_Int, decide_true, decide_false, reduceCtorEq, Nat.reduceEqDiff, Nat.reduceAdd, ne_eq, not_false_eq_true, Option.map_some, Option.bind_some, Option.map_none, Option.bind_none, true_and, and_true, Bool.not_true, Bool.not_false, Nat.reduceLeDiff, Nat.reduceMul, Nat.reduceSub, Nat.le_refl, Int.reduceToNat, Int.reduceLT, Int.reduceLE, Nat.one_mul, Nat.mul_one] <;> rfl, h, rfl⟩ ?_
  rintro n0 _ m1 ⟨k, d', hr, hk1, hkb, rfl, h1, he⟩
  rw [shiftUp] at he
  simp only [RB.slices_partialInsertionSortCmpFunc_local_entry_1, go_sem, Bool.false_and, new_set, Int.reduceBEq, Int.reduceBNe, Int.reduceNeg, not_true_eq_false, beq_self_eq_true, bne_self_eq_false, Bool.false_eq_true, if_false, if_true, Int.cast_ofNat_Int, decide_true, decide_false, reduceCtorEq, Nat.reduceEqDiff, Nat.reduceAdd, ne_eq, not_false_eq_true, Option.map_some, Option.bind_some, Option.map_none, Option.bind_none, true_and, and_true, Bool.not_true, Bool.not_false, Nat.reduceLeDiff, Nat.reduceMul, Nat.reduceSub, Nat.le_refl, Int.reduceToNat, Int.reduceLT, Int.reduceLE, Nat.one_mul, Nat.mul_one]
  refine gT.of (fun g1' => ?_) (fun g1' => ?_) <;> (have g1 := g1'; try simp only [decide_eq_true_eq, decide_eq_false_iff_not, beq_iff_eq, bne_iff_ne, beq_eq_false_iff_ne, ne_eq, Bool.not_eq_true', Bool.not_eq_false', bne_eq_false_iff_eq, Int.not_lt, Int.not_le] at g1)
  · rw [if_pos (by omega)] at he
    have c1 : k < S.n := by omega
    have c0 : k - 1 < S.n := by omega
    have e1 := nsub1 (show 0 < k by omega) (show k < 4000000 by omega)
    simp only [go_sem, Bool.false_and, new_set, Int.reduceBEq, Int.reduceBNe, Int.reduceNeg, not_true_eq_false, beq_self_eq_true, bne_self_eq_false, Bool.false_eq_true, if_false, if_true, Int.cast_ofNat_Int, decide_true, decide_false, reduceCtorEq, Nat.reduceEqDiff, Nat.reduceAdd, ne_eq, not_false_eq_true, Option.map_some, Option.bind_some, Option.map_none, Option.bind_none, true_and, and_true, Bool.not_true, Bool.not_false, Nat.reduceLeDiff, Nat.reduceMul, Nat.reduceSub, Nat.le_refl, Int.reduceToNat, Int.reduceLT, Int.reduceLE, Nat.one_mul, Nat.mul_one, g1', e1, S.ix c1, S.ix c0, h1.ld c1, h1.ld c0]
    refine gC.of (S.cmp m1 d'[k]! d'[k - 1]!) ?_
    rintro _ m2 ⟨rfl, hx2⟩
    simp only [go_sem, Bool.false_and, new_set, Int.reduceBEq, Int.reduceBNe, Int.reduceNeg, not_true_eq_false, beq_self_eq_true, bne_self_eq_false, Bool.false_eq_true, if_false, if_true, Int.cast_ofNat_Int, decide_true, decide_false, reduceCtorEq, Nat.reduceEqDiff, Nat.reduceAdd, ne_eq, not_false_eq_true, Option.map_some, Option.bind_some, Option.map_none, Option.bind_none, true_and, and_true, Bool.not_true, Bool.not_false, Nat.reduceLeDiff, Nat.reduceMul, Nat.reduceSub, Nat.le_refl, Int.reduceToNat, Int.reduceLT, Int.reduceLE, Nat.one_mul, Nat.mul_one]
    have h2 := h1.keep hx2
    refine gT.of (fun g2' => ?_) (fun g2' => ?_) <;> (have g2 := g2'; try simp only [decide_eq_true_eq, decide_eq_false_iff_not, beq_iff_eq, bne_iff_ne, beq_eq_false_iff_ne, ne_eq, Bool.not_eq_true', Bool.not_eq_false', bne_eq_false_iff_eq, Int.not_lt, Int.not_le] at g2)
    · rw [if_pos (by rw [S.lt_f' (by simpa using g2)]; rfl)] at he
      rw [← he]
      simp only [go_sem, Bool.false_and, new_set, Int.reduceBEq, Int.reduceBNe, Int.reduceNeg, not_true_eq_false, beq_self_eq_true, bne_self_eq_false, Bool.false_eq_true, if_false, if_true, Int.cast_ofNat_Int, decide_true, decide_false, reduceCtorEq, Nat.reduceEqDiff, Nat.reduceAdd, ne_eq, not_false_eq_true, Option.map_some, Option.bind_some, Option.map_none, Option.bind_none, true_and, and_true, Bool.not_true, Bool.not_false, Nat.reduceLeDiff, Nat.reduceMul, Nat.reduceSub, Nat.le_refl, Int.reduceToNat, Int.reduceLT, Int.reduceLE, Nat.one_mul, Nat.mul_one, g2']
      exact ⟨⟨_, rfl⟩, h2⟩
    · rw [if_neg (by rw [S.lt_t (by simpa using g2)]; simp)] at he
      obtain ⟨n1, n2, t1, t2, h5⟩ := h2.sw c1 c0
      simp only [go_sem, Bool.false_and, new_set, Int.reduceBEq, Int.reduceBNe, Int.reduceNeg, not_true_eq_false, beq_self_eq_true, bne_self_eq_false, Bool.false_eq_true, if_false, if_true, Int.cast_ofNat_Int, decide_true, decide_false, reduceCtorEq, Nat.reduceEqDiff, Nat.reduceAdd, ne_eq, not_false_eq_true, Option.map_some, Option.bind_some, Option.map_none, Option.bind_none, true_and, and_true, Bool.not_true, Bool.not_false, Nat.reduceLeDiff, Nat.reduceMul, Nat.reduceSub, Nat.le_refl, Int.reduceToNat, Int.reduceLT, Int.reduceLE, Nat.one_mul, Nat.mul_one, g2', e1, S.ix c1, S.ix c0, h2.ld c1, h2.ld c0, t1, t2, nadd1 (show k < 4000000 by omega)]
      exact ⟨b - (k + 1), by omega, k + 1, _, rfl, by omega, by omega, rfl, h5, he⟩
  · rw [if_neg (by omega)] at he
    rw [← he]
    simp only [go_sem, Bool.false_and, new_set, Int.reduceBEq, Int.reduceBNe, Int.reduceNeg, not_true_eq_false, beq_self_eq_true, bne_self_eq_false, Bool.false_eq_true, if_false, if_true, Int.cast_ofNat_Int, decide_true, decide_false, reduceCtorEq, Nat.reduceEqDiff, Nat.reduceAdd, ne_eq, not_false_eq_true, Option.map_some, Option.bind_some, Option.map_none, Option.bind_none, true_and, and_true, Bool.not_true, Bool.not_false, Nat.reduceLeDiff, Nat.reduceMul, Nat.reduceSub, Nat.le_refl, Int.reduceToNat, Int.reduceLT, Int.reduceLE, Nat.one_mul, Nat.mul_one, g1']
    exact ⟨⟨_, rfl⟩, h1⟩

theorem so_pins {a b : Nat} (h : S.Row m d) (hb : b ≤ S.n) (hab : a < b) : WC R F.slices_partialInsertionSortCmpFunc_local_entry [S.sv, .int .i64 a, .int .i64 b, S.cv] m fun r m' =>
    r = .bool (partialInsertionSort S.lt d a b).2 ∧ S.Row m' (partialInsertionSort S.lt d a b).1 := by
  refine WC.of R.slices_partialInsertionSortCmpFunc_local_entry rfl ?_
  have hn := S.small
  simp only [RC.slices_partialInsertionSortCmpFunc_local_entry, go_sem, Bool.false_and, new_set, Int.reduceBEq, Int.reduceBNe, Int.reduceNeg, not_true_eq_false, beq_self_eq_true, bne_self_eq_false, Bool.false_eq_true, if_false, if_true, Int.cast_ofNat_Int, decide_true, decide_false, reduceCtorEq, Nat.reduceEqDiff, Nat.reduceAdd, ne_eq, not_false_eq_true, Option.map_some, Option.bind_some, Option.map_none, Option.bind_none, true_and, and_true, Bool.not_true, Bool.not_false, Nat.reduceLeDiff, Nat.reduceMul, Nat.reduceSub, Nat.le_refl, Int.reduceToNat, Int.reduceLT, Int.reduceLE, Nat.one_mul, Nat.mul_one, nadd1 (show a < 4000000 by omega)]
  refine WL.of (fun r e m' => ∃ (s i : Nat) (d' : Array α), r = s ∧ s ≤ 5 ∧ a < i ∧ i ≤ b ∧ e = [(0, S.sv), (1, .int .i64 a), (2, .int .i64 b), (3, S.cv), (9, .int .i64 i), (10, .int .i64 (5 - s : Nat))] ∧ S.Row m' d' ∧ partialIns S.lt a b s i d' = partialInsertionSort S.lt d a b) 5
    ⟨5, a + 1, d, rfl, by omega, by omega, by omega, by simp only [go_sem, Bool.false_and, new_set, Int.reduceBEq, Int.reduceBNe, Int.reduceNeg, not_true_eq_false, beq_self_eq_true, bne_self_eq_false, Bool.false_eq_true, if_false, if_true, Int.cast_ofNat_Int, decide_true, decide_false, reduceCtorEq, Nat.reduceEqDiff, Nat.reduceAdd, ne_eq, not_false_eq_true, Option.map_some, Option.bind_some, Option.map_none, Option.bind_none, true_and, and_true, Bool.not_true, Bool.not_false, Nat.reduceLeDiff, Nat.reduceMul, Nat.reduceSub, Nat.le_refl, Int.reduceToNat, Int.reduceLT, Int.reduceLE, Nat.one_mul, Nat.mul_one] <;> rfl, h, rfl⟩ ?_
  rintro n0 _ m1 ⟨s, i, d', hr, hs, hai, hib, rfl, h1, he⟩
  simp only [RB.slices_partialInsertionSortCmpFunc_local_entry_4, go_sem, Bool.false_and, new_set, Int.reduceBEq, Int.reduceBNe, Int.reduceNeg, not_true_eq_false, beq_self_eq_true, bne_self_eq_false, Bool.false_eq_true, if_false, if_true, Int.cast_ofNat_Int, decide_true, decide_false, reduceCtorEq, Nat.reduceEqDiff, Nat.reduceAdd, ne_eq, not_false_eq_true, Option.map_some, Option.bind_some, Option.map_none, Option.bind_none, true_and, and_true, Bool.not_true, Bool.not_false, Nat.reduceLeDiff, Nat.reduceMul, Nat.reduceSub, Nat.le_refl, Int.reduceToNat, Int.reduceLT, Int.reduceLE, Nat.one_mul, Nat.mul_one]
  refine gT.of (fun g1' => ?_) (fun g1' => ?_) <;> (have g1 := g1'; try simp only [decide_eq_true_eq, decide_eq_false_iff_not, beq_iff_eq, bne_iff_ne, beq_eq_false_iff_ne, ne_eq, Bool.not_eq_true', Bool.not_eq_false', bne_eq_false_iff_eq, Int.not_lt, Int.not_le] at g1)
  · obtain ⟨s, rfl⟩ : ∃ s', s = s' + 1 := ⟨s - 1, by omega⟩
    simp only [go_sem, Bool.false_and, new_set, Int.reduceBEq, Int.reduceBNe, Int.reduceNeg, not_true_eq_false, beq_self_eq_true, bne_self_eq_false, Bool.false_eq_true, if_false, if_true, Int.cast_ofNat_Int, decide_true, decide_false, reduceCtorEq, Nat.reduceEqDiff, Nat.reduceAdd, ne_eq, not_false_eq_true, Option.map_some, Option.bind_some, Option.map_none, Option.bind_none, true_and, and_true, Bool.not_true, Bool.not_false, Nat.reduceLeDiff, Nat.reduceMul, Nat.reduceSub, Nat.le_refl, Int.reduceToNat, Int.reduceLT, Int.reduceLE, Nat.one_mul, Nat.mul_one, g1']
    refine WL.mono (so_pi3 h1 hb (by omega) hib) ?_
    rintro _ _ m2 ⟨rfl, rfl, h2, p1, p2⟩
    simp only [partialIns] at he
    generalize scanSorted S.lt d' b i = i2 at p1 p2 he ⊢
    simp only [go_sem, Bool.false_and, new_set, Int.reduceBEq, Int.reduceBNe, Int.reduceNeg, not_true_eq_false, beq_self_eq_true, bne_self_eq_false, Bool.false_eq_true, if_false, if_true, Int.cast_ofNat_Int, decide_true, decide_false, reduceCtorEq, Nat.reduceEqDiff, Nat.reduceAdd, ne_eq, not_false_eq_true, Option.map_some, Option.bind_some, Option.map_none, Option.bind_none, true_and, and_true, Bool.not_true, Bool.not_false, Nat.reduceLeDiff, Nat.reduceMul, Nat.reduceSub, Nat.le_refl, Int.reduceToNat, Int.reduceLT, Int.reduceLE, Nat.one_mul, Nat.mul_one]
    refine gT.of (fun g2' => ?_) (fun g2' => ?_) <;> (have g2 := g2'; try simp only [decide_eq_true_eq, decide_eq_false_iff_not, beq_iff_eq, bne_iff_ne, beq_eq_false_iff_ne, ne_eq, Bool.not_eq_true', Bool.not_eq_false', bne_eq_false_iff_eq, Int.not_lt, Int.not_le] at g2)
    · rw [if_pos (by omega)] at he
      simp only [go_sem, Bool.false_and, new_set, Int.reduceBEq, Int.reduceBNe, Int.reduceNeg, not_true_eq_false, beq_self_eq_true, bne_self_eq_false, Bool.false_eq_true, if_false, if_true, Int.cast_ofNat_Int, decide_true, decide_false, reduceCtorEq, Nat.reduceEqDiff, Nat.reduceAdd, ne_eq, not_false_eq_true, Option.map_some, Option.bind_some, Option.map_none, Option.bind_none, true_and, and_true, Bool.not_true, Bool.not_false, Nat.reduceLeDiff, Nat.reduceMul, Nat.reduceSub, Nat.le_refl, Int.reduceToNat, Int.reduceLT, Int.reduceLE, Nat.one_mul, Nat.mul_one, g2']
      rw [← he]
      exact ⟨rfl, h2⟩
    · rw [if_neg (by omega)] at he
      simp only [go_sem, Bool.false_and, new_set, Int.reduceBEq, Int.reduceBNe, Int.reduceNeg, not_true_eq_false, beq_self_eq_true, bne_self_eq_false, Bool.false_eq_true, if_false, if_true, Int.cast_ofNat_Int, decide_true, decide_false, reduceCtorEq, Nat.reduceEqDiff, Nat.reduceAdd, ne_eq, not_false_eq_true, Option.map_some, Option.bind_some, Option.map_none, Option.bind_none, true_and, and_true, Bool.not_true, Bool.not_false, Nat.reduceLeDiff, Nat.reduceMul, Nat.reduceSub, Nat.le_refl, Int.reduceToNat, Int.reduceLT, Int.reduceLE, Nat.one_mul, Nat.mul_one, g2', nsub (show a ≤ b by omega) (show b < 4000000 by omega)]
      refine gT.of (fun g3' => ?_) (fun g3' => ?_) <;> (have g3 := g3'; try simp only [decide_eq_true_eq, decide_eq_false_iff_not, beq_iff_eq, bne_iff_ne, beq_eq_false_iff_ne, ne_eq, Bool.not_eq_true', Bool.not_eq_false', bne_eq_false_iff_eq, Int.not_lt, Int.not_le] at g3)
      · rw [if_pos (by omega)] at he
        simp only [go_sem, Bool.false_and, new_set, Int.reduceBEq, Int.reduceBNe, Int.reduceNeg, not_true_eq_false, beq_self_eq_true, bne_self_eq_false, Bool.false_eq_true, if_false, if_true, Int.cast_ofNat_Int, decide_true, decide_false, reduceCtorEq, Nat.reduceEqDiff, Nat.reduceAdd, ne_eq, not_false_eq_true, Option.map_some, Option.bind_some, Option.map_none, Option.bind_none, true_and, and_true, Bool.not_true, Bool.not_false, Nat.reduceLeDiff, Nat.reduceMul, Nat.reduceSub, Nat.le_refl, Int.reduceToNat, Int.reduceLT, Int.reduceLE, Nat.one_mul, Nat.mul_one, g3']
        rw [← he]
        exact ⟨rfl, h2⟩
      · rw [if_neg (by omega)] at he
        have c1 : i2 < S.n := by omega
        have c0 : i2 - 1 < S.n := by omega
        have e1 := nsub1 (show 0 < i2 by omega) (show i2 < 4000000 by omega)
        obtain ⟨n1, n2, t1, t2, h5⟩ := h2.sw c1 c0
        simp only [go_sem, Bool.false_and, new_set, Int.reduceBEq, Int.reduceBNe, Int.reduceNeg, not_true_eq_false, beq_self_eq_true, bne_self_eq_false, Bool.false_eq_true, if_false, if_true, Int.cast_ofNat_Int, decide_true, decide_false, reduceCtorEq, Nat.reduceEqDiff, Nat.reduceAdd, ne_eq, not_false_eq_true, Option.map_some, Option.bind_some, Option.map_none, Option.bind_none, true_and, and_true, Bool.not_true, Bool.not_false, Nat.reduceLeDiff, Nat.reduceMul, Nat.reduceSub, Nat.le_refl, Int.reduceToNat, Int.reduceLT, Int.reduceLE, Nat.one_mul, Nat.mul_one, g3', e1, S.ix c1, S.ix c0, h2.ld c1, h2.ld c0, t1, t2, nsub (show a ≤ i2 by omega) (show i2 < 4000000 by omega)]
        have se : IntKind.wrap .i64 (((5 - (s + 1) : Nat) : Int) + 1) = ((5 - s : Nat) : Int) := by rw [wrap_i64 (by omega) (by omega)]; omega
        refine gT.of (fun g4' => ?_) (fun g4' => ?_) <;> (have g4 := g4'; try simp only [decide_eq_true_eq, decide_eq_false_iff_not, beq_iff_eq, bne_iff_ne, beq_eq_false_iff_ne, ne_eq, Bool.not_eq_true', Bool.not_eq_false', bne_eq_false_iff_eq, Int.not_lt, Int.not_le] at g4)
        · rw [if_pos (show i2 - a ≥ 2 by omega)] at he
          simp only [go_sem, Bool.false_and, new_set, Int.reduceBEq, Int.reduceBNe, Int.reduceNeg, not_true_eq_false, beq_self_eq_true, bne_self_eq_false, Bool.false_eq_true, if_false, if_true, Int.cast_ofNat_Int, decide_true, decide_false, reduceCtorEq, Nat.reduceEqDiff, Nat.reduceAdd, ne_eq, not_false_eq_true, Option.map_some, Option.bind_some, Option.map_none, Option.bind_none, true_and, and_true, Bool.not_true, Bool.not_false, Nat.reduceLeDiff, Nat.reduceMul, Nat.reduceSub, Nat.le_refl, Int.reduceToNat, Int.reduceLT, Int.reduceLE, Nat.one_mul, Nat.mul_one, g4', e1]
          refine WL.mono (so_pi2 h5 c0) ?_
          rintro _ _ m3 ⟨rfl, ⟨rest, rfl⟩, h6⟩
          simp only [go_sem, Bool.false_and, new_set, Int.reduceBEq, Int.reduceBNe, Int.reduceNeg, not_true_eq_false, beq_self_eq_true, bne_self_eq_false, Bool.false_eq_true, if_false, if_true, Int.cast_ofNat_Int, decide_true, decide_false, reduceCtorEq, Nat.reduceEqDiff, Nat.reduceAdd, ne_eq, not_false_eq_true, Option.map_some, Option.bind_some, Option.map_none, Option.bind_none, true_and, and_true, Bool.not_true, Bool.not_false, Nat.reduceLeDiff, Nat.reduceMul, Nat.reduceSub, Nat.le_refl, Int.reduceToNat, Int.reduceLT, Int.reduceLE, Nat.one_mul, Nat.mul_one, nsub (show i2 ≤ b by omega) (show b < 4000000 by omega)]
          refine gT.of (fun g5' => ?_) (fun g5' => ?_) <;> (have g5 := g5'; try simp only [decide_eq_true_eq, decide_eq_false_iff_not, beq_iff_eq, bne_iff_ne, beq_eq_false_iff_ne, ne_eq, Bool.not_eq_true', Bool.not_eq_false', bne_eq_false_iff_eq, Int.not_lt, Int.not_le] at g5)
          · rw [if_pos (show b - i2 ≥ 2 by omega)] at he
            simp only [go_sem, Bool.false_and, new_set, Int.reduceBEq, Int.reduceBNe, Int.reduceNeg, not_true_eq_false, beq_self_eq_true, bne_self_eq_false, Bool.false_eq_true, if_false, if_true, Int.cast_ofNat_Int, decide_true, decide_false, reduceCtorEq, Nat.reduceEqDiff, Nat.reduceAdd, ne_eq, not_false_eq_true, Option.map_some, Option.bind_some, Option.map_none, Option.bind_none, true_and, and_true, Bool.not_true, Bool.not_false, Nat.reduceLeDiff, Nat.reduceMul, Nat.reduceSub, Nat.le_refl, Int.reduceToNat, Int.reduceLT, Int.reduceLE, Nat.one_mul, Nat.mul_one, g5', nadd1 (show i2 < 4000000 by omega)]
            refine WL.mono (so_pi1 h6 (by omega) hb (by omega)) ?_
            rintro _ _ m4 ⟨rfl, ⟨rest, rfl⟩, h7⟩
            simp only [go_sem, Bool.false_and, new_set, Int.reduceBEq, Int.reduceBNe, Int.reduceNeg, not_true_eq_false, beq_self_eq_true, bne_self_eq_false, Bool.false_eq_true, if_false, if_true, Int.cast_ofNat_Int, decide_true, decide_false, reduceCtorEq, Nat.reduceEqDiff, Nat.reduceAdd, ne_eq, not_false_eq_true, Option.map_some, Option.bind_some, Option.map_none, Option.bind_none, true_and, and_true, Bool.not_true, Bool.not_false, Nat.reduceLeDiff, Nat.reduceMul, Nat.reduceSub, Nat.le_refl, Int.reduceToNat, Int.reduceLT, Int.reduceLE, Nat.one_mul, Nat.mul_one, se]
            exact ⟨s, by omega, s, i2, _, rfl, by omega, by omega, by omega, rfl, h7, he⟩
          · rw [if_neg (show ¬ b - i2 ≥ 2 by omega)] at he
            simp only [go_sem, Bool.false_and, new_set, Int.reduceBEq, Int.reduceBNe, Int.reduceNeg, not_true_eq_false, beq_self_eq_true, bne_self_eq_false, Bool.false_eq_true, if_false, if_true, Int.cast_ofNat_Int, decide_true, decide_false, reduceCtorEq, Nat.reduceEqDiff, Nat.reduceAdd, ne_eq, not_false_eq_true, Option.map_some, Option.bind_some, Option.map_none, Option.bind_none, true_and, and_true, Bool.not_true, Bool.not_false, Nat.reduceLeDiff, Nat.reduceMul, Nat.reduceSub, Nat.le_refl, Int.reduceToNat, Int.reduceLT, Int.reduceLE, Nat.one_mul, Nat.mul_one, g5', se]
            exact ⟨s, by omega, s, i2, _, rfl, by omega, by omega, by omega, rfl, h6, he⟩
        · rw [if_neg (show ¬ i2 - a ≥ 2 by omega)] at he
          simp only [go_sem, Bool.false_and, new_set, Int.reduceBEq, Int.reduceBNe, Int.reduceNeg, not_true_eq_false, beq_self_eq_true, bne_self_eq_false, Bool.false_eq_true, if_false, if_true, Int.cast_ofNat_Int, decide_true, decide_false, reduceCtorEq, Nat.reduceEqDiff, Nat.reduceAdd, ne_eq, not_false_eq_true, Option.map_some, Option.bind_some, Option.map_none, Option.bind_none, true_and, and_true, Bool.not_true, Bool.not_false, Nat.reduceLeDiff, Nat.reduceMul, Nat.reduceSub, Nat.le_refl, Int.reduceToNat, Int.reduceLT, Int.reduceLE, Nat.one_mul, Nat.mul_one, g4', nsub (show i2 ≤ b by omega) (show b < 4000000 by omega)]
          refine gT.of (fun g5' => ?_) (fun g5' => ?_) <;> (have g5 := g5'; try simp only [decide_eq_true_eq, decide_eq_false_iff_not, beq_iff_eq, bne_iff_ne, beq_eq_false_iff_ne, ne_eq, Bool.not_eq_true', Bool.not_eq_false', bne_eq_false_iff_eq, Int.not_lt, Int.not_le] at g5)
          · rw [if_pos (show b - i2 ≥ 2 by omega)] at he
            simp only [go_sem, Bool.false_and, new_set, Int.reduceBEq, Int.reduceBNe, Int.reduceNeg, not_true_eq_false, beq_self_eq_true, bne_self_eq_false, Bool.false_eq_true, if_false, if_true, Int.cast_ofNat_Int, decide_true, decide_false, reduceCtorEq, Nat.reduceEqDiff, Nat.reduceAdd, ne_eq, not_false_eq_true, Option.map_some, Option.bind_some, Option.map_none, Option.bind_none, true_and, and_true, Bool.not_true, Bool.not_false, Nat.reduceLeDiff, Nat.reduceMul, Nat.reduceSub, Nat.le_refl, Int.reduceToNat, Int.reduceLT, Int.reduceLE, Nat.one_mul, Nat.mul_one, g5', nadd1 (show i2 < 4000000 by omega)]
            refine WL.mono (so_pi1 h5 (by omega) hb (by omega)) ?_
            rintro _ _ m4 ⟨rfl, ⟨rest, rfl⟩, h7⟩
            simp only [go_sem, Bool.false_and, new_set, Int.reduceBEq, Int.reduceBNe, Int.reduceNeg, not_true_eq_false, beq_self_eq_true, bne_self_eq_false, Bool.false_eq_true, if_false, if_true, Int.cast_ofNat_Int, decide_true, decide_false, reduceCtorEq, Nat.reduceEqDiff, Nat.reduceAdd, ne_eq, not_false_eq_true, Option.map_some, Option.bind_some, Option.map_none, Option.bind_none, true_and, and_true, Bool.not_true, Bool.not_false, Nat.reduceLeDiff, Nat.reduceMul, Nat.reduceSub, Nat.le_refl, Int.reduceToNat, Int.reduceLT, Int.reduceLE, Nat.one_mul, Nat.mul_one, se]
            exact ⟨s, by omega, s, i2, _, rfl, by omega, by omega, by omega, rfl, h7, he⟩
          · rw [if_neg (show ¬ b - i2 ≥ 2 by omega)] at he
            simp only [go_sem, Bool.false_and, new_set, Int.reduceBEq, Int.reduceBNe, Int.reduceNeg, not_true_eq_false, beq_self_eq_true, bne_self_eq_false, Bool.false_eq_true, if_false, if_true, Int.cast_ofNat_Int, decide_true, decide_false, reduceCtorEq, Nat.reduceEqDiff, Nat.reduceAdd, ne_eq, not_false_eq_true, Option.map_some, Option.bind_some, Option.map_none, Option.bind_none, true_and, and_true, Bool.not_true, Bool.not_false, Nat.reduceLeDiff, Nat.reduceMul, Nat.reduceSub, Nat.le_refl, Int.reduceToNat, Int.reduceLT, Int.reduceLE, Nat.one_mul, Nat.mul_one, g5', se]
            exact ⟨s, by omega, s, i2, _, rfl, by omega, by omega, by omega, rfl, h5, he⟩
  · have hs0 : s = 0 := by omega
    subst hs0
    simp only [partialIns] at he
    simp only [go_sem, Bool.false_and, new_set, Int.reduceBEq, Int.reduceBNe, Int.reduceNeg, not_true_eq_false, beq_self_eq_true, bne_self_eq_false, Bool.false_eq_true, if_false, if_true, Int.cast_ofNat_Int, decide_true, decide_false, reduceCtorEq, Nat.reduceEqDiff, Nat.reduceAdd, ne_eq, not_false_eq_true, Option.map_some, Option.bind_some, Option.map_none, Option.bind_none, true_and, and_true, Bool.not_true, Bool.not_false, Nat.reduceLeDiff, Nat.reduceMul, Nat.reduceSub, Nat.le_refl, Int.reduceToNat, Int.reduceLT, Int.reduceLE, Nat.one_mul, Nat.mul_one, g1']
    rw [← he]
    exact ⟨rfl, h1⟩
end Go.Am


/- Sorting a row at local_entry (Local): patterns are broken. Printed out of SortT5.tmpl by sortgen.py. -/
set_option linter.unusedVariables false
set_option linter.unusedSimpArgs false
namespace Go.Am
open Go.Sort
variable {α : Type} [Inhabited α] {S : SortC R α 3} {m : Mem} {d : Array α}

set_option maxRecDepth 20000 in
theorem so_len64 {x : BitVec 64} (hx : x.toNat < 1000000) : WC R F.math_bits_Len64 [u64 x] m fun r m' => r = .int .i64 (bitsLen x.toNat : Nat) ∧ m' = m := by
  refine WC.of R.math_bits_Len64 rfl ?_
  have e32 : (4294967296#64).toNat = 4294967296 := rfl
  have e16 : (65536#64).toNat = 65536 := rfl
  have e8 : (256#64).toNat = 256 := rfl
  have s16 : (16#64).toNat = 16 := rfl
  have s8 : (8#64).toNat = 8 := rfl
  have q16 : (x >>> 16).toNat = x.toNat / 2 ^ 16 := by rw [BitVec.toNat_ushiftRight, Nat.shiftRight_eq_div_pow]
  have q8 : (x >>> 8).toNat = x.toNat / 2 ^ 8 := by rw [BitVec.toNat_ushiftRight, Nat.shiftRight_eq_div_pow]
  have g32 : decide (4294967296 ≤ x.toNat) = false := by simp; omega
  simp only [RC.math_bits_Len64, go_sem, Bool.false_and, new_set, Int.reduceBEq, Int.reduceBNe, Int.reduceNeg, not_true_eq_false, beq_self_eq_true, bne_self_eq_false, Bool.false_eq_true, if_false, if_true, Int.cast_ofNat_Int, decide_true, decide_false, reduceCtorEq, Nat.reduceEqDiff, Nat.reduceAdd, ne_eq, not_false_eq_true, Option.map_some, Option.bind_some, Option.map_none, Option.bind_none, true_and, and_true, Bool.not_true, Bool.not_false, Nat.reduceLeDiff, Nat.reduceMul, Nat.reduceSub, Nat.le_refl, Int.reduceToNat, Int.reduceLT, Int.reduceLE, Nat.one_mul, Nat.mul_one, e32, g32, e16]
  refine gT.of (fun h1' => ?_) (fun h1' => ?_) <;> (have h1 := h1'; try simp only [decide_eq_true_eq, decide_eq_false_iff_not, beq_iff_eq, bne_iff_ne, beq_eq_false_iff_ne, ne_eq, Bool.not_eq_true', Bool.not_eq_false', bne_eq_false_iff_eq, Int.not_lt, Int.not_le] at h1)
  · have c1 : x.toNat / 2 ^ 16 < 256 := by omega
    have g8 : decide (256 ≤ x.toNat / 2 ^ 16) = false := by simp; omega
    have l8 := len8 c1
    have b8 := bitsLen8 c1
    have bb := bitsLen_shr (n := x.toNat) (k := 16) h1
    have w1 : IntKind.wrap .i64 (0 + 16) = 16 := rfl
    have w2 : IntKind.wrap .i64 ((bitsLen (x.toNat / 2 ^ 16) : Nat) : Int) = (bitsLen (x.toNat / 2 ^ 16) : Nat) := wrap_i64 (by omega) (by omega)
    have w3 : IntKind.wrap .i64 (16 + (bitsLen (x.toNat / 2 ^ 16) : Nat)) = ((bitsLen x.toNat : Nat) : Int) := by rw [wrap_i64 (by omega) (by omega)]; omega
    simp only [go_sem, Bool.false_and, new_set, Int.reduceBEq, Int.reduceBNe, Int.reduceNeg, not_true_eq_false, beq_self_eq_true, bne_self_eq_false, Bool.false_eq_true, if_false, if_true, Int.cast_ofNat_Int, decide_true, decide_false, reduceCtorEq, Nat.reduceEqDiff, Nat.reduceAdd, ne_eq, not_false_eq_true, Option.map_some, Option.bind_some, Option.map_none, Option.bind_none, true_and, and_true, Bool.not_true, Bool.not_false, Nat.reduceLeDiff, Nat.reduceMul, Nat.reduceSub, Nat.le_refl, Int.reduceToNat, Int.reduceLT, Int.reduceLE, Nat.one_mul, Nat.mul_one, h1', s16, e8, q16, g8, w1, conv_u8, wrap_u8 c1, l8, conv_i64_u8, w2, w3]
  · simp only [go_sem, Bool.false_and, new_set, Int.reduceBEq, Int.reduceBNe, Int.reduceNeg, not_true_eq_false, beq_self_eq_true, bne_self_eq_false, Bool.false_eq_true, if_false, if_true, Int.cast_ofNat_Int, decide_true, decide_false, reduceCtorEq, Nat.reduceEqDiff, Nat.reduceAdd, ne_eq, not_false_eq_true, Option.map_some, Option.bind_some, Option.map_none, Option.bind_none, true_and, and_true, Bool.not_true, Bool.not_false, Nat.reduceLeDiff, Nat.reduceMul, Nat.reduceSub, Nat.le_refl, Int.reduceToNat, Int.reduceLT, Int.reduceLE, Nat.one_mul, Nat.mul_one, h1', e8]
    refine gT.of (fun h2' => ?_) (fun h2' => ?_) <;> (have h2 := h2'; try simp only [decide_eq_true_eq, decide_eq_false_iff_not, beq_iff_eq, bne_iff_ne, beq_eq_false_iff_ne, ne_eq, Bool.not_eq_true', Bool.not_eq_false', bne_eq_false_iff_eq, Int.not_lt, Int.not_le] at h2)
    · have c1 : x.toNat / 2 ^ 8 < 256 := by omega
      have l8 := len8 c1
      have b8 := bitsLen8 c1
      have bb := bitsLen_shr (n := x.toNat) (k := 8) h2
      have w1 : IntKind.wrap .i64 (0 + 8) = 8 := rfl
      have w2 : IntKind.wrap .i64 ((bitsLen (x.toNat / 2 ^ 8) : Nat) : Int) = (bitsLen (x.toNat / 2 ^ 8) : Nat) := wrap_i64 (by omega) (by omega)
      have w3 : IntKind.wrap .i64 (8 + (bitsLen (x.toNat / 2 ^ 8) : Nat)) = ((bitsLen x.toNat : Nat) : Int) := by rw [wrap_i64 (by omega) (by omega)]; omega
      simp only [go_sem, Bool.false_and, new_set, Int.reduceBEq, Int.reduceBNe, Int.reduceNeg, not_true_eq_false, beq_self_eq_true, bne_self_eq_false, Bool.false_eq_true, if_false, if_true, Int.cast_ofNat_Int, decide_true, decide_false, reduceCtorEq, Nat.reduceEqDiff, Nat.reduceAdd, ne_eq, not_false_eq_true, Option.map_some, Option.bind_some, Option.map_none, Option.bind_none, true_and, and_true, Bool.not_true, Bool.not_false, Nat.reduceLeDiff, Nat.reduceMul, Nat.reduceSub, Nat.le_refl, Int.reduceToNat, Int.reduceLT, Int.reduceLE, Nat.one_mul, Nat.mul_one, h2', s8, w1, conv_u8, q8, wrap_u8 c1, l8, conv_i64_u8, w2, w3]
    · have c1 : x.toNat < 256 := by omega
      have l8 := len8 c1
      have b8 := bitsLen8 c1
      have w2 : IntKind.wrap .i64 ((bitsLen x.toNat : Nat) : Int) = (bitsLen x.toNat : Nat) := wrap_i64 (by omega) (by omega)
      have w3 : IntKind.wrap .i64 (0 + (bitsLen x.toNat : Nat)) = ((bitsLen x.toNat : Nat) : Int) := by rw [wrap_i64 (by omega) (by omega)]; omega
      simp only [go_sem, Bool.false_and, new_set, Int.reduceBEq, Int.reduceBNe, Int.reduceNeg, not_true_eq_false, beq_self_eq_true, bne_self_eq_false, Bool.false_eq_true, if_false, if_true, Int.cast_ofNat_Int, decide_true, decide_false, reduceCtorEq, Nat.reduceEqDiff, Nat.reduceAdd, ne_eq, not_false_eq_true, Option.map_some, Option.bind_some, Option.map_none, Option.bind_none, true_and, and_true, Bool.not_true, Bool.not_false, Nat.reduceLeDiff, Nat.reduceMul, Nat.reduceSub, Nat.le_refl, Int.reduceToNat, Int.reduceLT, Int.reduceLE, Nat.one_mul, Nat.mul_one, h2', conv_u8, wrap_u8 c1, l8, conv_i64_u8, w2, w3]

theorem so_len {x : BitVec 64} (hx : x.toNat < 1000000) : WC R F.math_bits_Len [u64 x] m fun r m' => r = .int .i64 (bitsLen x.toNat : Nat) ∧ m' = m := by
  refine WC.of R.math_bits_Len rfl ?_
  simp only [RC.math_bits_Len, go_sem, Bool.false_and, new_set, Int.reduceBEq, Int.reduceBNe, Int.reduceNeg, not_true_eq_false, beq_self_eq_true, bne_self_eq_false, Bool.false_eq_true, if_false, if_true, Int.cast_ofNat_Int, decide_true, decide_false, reduceCtorEq, Nat.reduceEqDiff, Nat.reduceAdd, ne_eq, not_false_eq_true, Option.map_some, Option.bind_some, Option.map_none, Option.bind_none, true_and, and_true, Bool.not_true, Bool.not_false, Nat.reduceLeDiff, Nat.reduceMul, Nat.reduceSub, Nat.le_refl, Int.reduceToNat, Int.reduceLT, Int.reduceLE, Nat.one_mul, Nat.mul_one]
  refine gC.of (so_len64 hx) ?_
  rintro _ m1 ⟨rfl, hm⟩
  subst hm
  simp only [go_sem, Bool.false_and, new_set, Int.reduceBEq, Int.reduceBNe, Int.reduceNeg, not_true_eq_false, beq_self_eq_true, bne_self_eq_false, Bool.false_eq_true, if_false, if_true, Int.cast_ofNat_Int, decide_true, decide_false, reduceCtorEq, Nat.reduceEqDiff, Nat.reduceAdd, ne_eq, not_false_eq_true, Option.map_some, Option.bind_some, Option.map_none, Option.bind_none, true_and, and_true, Bool.not_true, Bool.not_false, Nat.reduceLeDiff, Nat.reduceMul, Nat.reduceSub, Nat.le_refl, Int.reduceToNat, Int.reduceLT, Int.reduceLE, Nat.one_mul, Nat.mul_one]

theorem so_pow2 {n : Nat} (hx : n < 1000000) : WC R F.slices_nextPowerOfTwo [.int .i64 (n : Nat)] m fun r m' => r = u64 (1#64 <<< bitsLen n) ∧ m' = m := by
  refine WC.of R.slices_nextPowerOfTwo rfl ?_
  have e : (BitVec.ofInt 64 (n : Int)).toNat = n := by rw [BitVec.ofInt_natCast, BitVec.toNat_ofNat, Nat.mod_eq_of_lt (by omega)]
  simp only [RC.slices_nextPowerOfTwo, go_sem, Bool.false_and, new_set, Int.reduceBEq, Int.reduceBNe, Int.reduceNeg, not_true_eq_false, beq_self_eq_true, bne_self_eq_false, Bool.false_eq_true, if_false, if_true, Int.cast_ofNat_Int, decide_true, decide_false, reduceCtorEq, Nat.reduceEqDiff, Nat.reduceAdd, ne_eq, not_false_eq_true, Option.map_some, Option.bind_some, Option.map_none, Option.bind_none, true_and, and_true, Bool.not_true, Bool.not_false, Nat.reduceLeDiff, Nat.reduceMul, Nat.reduceSub, Nat.le_refl, Int.reduceToNat, Int.reduceLT, Int.reduceLE, Nat.one_mul, Nat.mul_one]
  refine gC.of (so_len (x := BitVec.ofInt 64 (n : Int)) (by omega)) ?_
  rintro _ m1 ⟨rfl, hm⟩
  subst hm
  rw [e]
  have h0 : (0 : Int) ≤ (bitsLen n : Nat) := by omega
  simp only [go_sem, Bool.false_and, new_set, Int.reduceBEq, Int.reduceBNe, Int.reduceNeg, not_true_eq_false, beq_self_eq_true, bne_self_eq_false, Bool.false_eq_true, if_false, if_true, Int.cast_ofNat_Int, decide_true, decide_false, reduceCtorEq, Nat.reduceEqDiff, Nat.reduceAdd, ne_eq, not_false_eq_true, Option.map_some, Option.bind_some, Option.map_none, Option.bind_none, true_and, and_true, Bool.not_true, Bool.not_false, Nat.reduceLeDiff, Nat.reduceMul, Nat.reduceSub, Nat.le_refl, Int.reduceToNat, Int.reduceLT, Int.reduceLE, Nat.one_mul, Nat.mul_one, h0, Int.toNat_natCast]

structure so_Gen (m : Mem) (q : Nat) (x : BitVec 64) : Prop where
  at_ : m.blk q = some (.cells [u64 x] (some 1))
  lt : q < m.next
theorem so_Gen.ld {q : Nat} {x : BitVec 64} (h : so_Gen m q x) : aLoad false 1 m (.pointer (some ⟨q, 0, none⟩)) = some (u64 x) := by
  rw [load_w, h.at_]; rfl
theorem so_Gen.st {q : Nat} {x : BitVec 64} (h : so_Gen m q x) (y : BitVec 64) : ∃ m', aStore 1 m (.pointer (some ⟨q, 0, none⟩)) (u64 y) = some m' ∧ so_Gen m' q y ∧ Upd m m' [q] := by
  refine ⟨m.set q (some (.cells [u64 y] (some 1))), ?_, ⟨by simp [Mem.set], h.lt⟩, Upd.set (by simp)⟩
  rw [store_b, h.at_]
  rfl

theorem so_next {q : Nat} {r : UInt64} (h : so_Gen m q r.toBitVec) : WC R F.slices_xorshift_Next [.pointer (some ⟨q, 0, none⟩)] m fun v m' => v = u64 (xorNext r).toBitVec ∧ so_Gen m' q (xorNext r).toBitVec ∧ Upd m m' [q] := by
  refine WC.of R.slices_xorshift_Next rfl ?_
  have e13 : (13#64).toNat = 13 := rfl
  have e7 : (7#64).toNat = 7 := rfl
  have e17 : (17#64).toNat = 17 := rfl
  rw [xor_bv]
  obtain ⟨m1, t1, h1, u1⟩ := h.st (r.toBitVec ^^^ r.toBitVec <<< 13)
  generalize hy : r.toBitVec ^^^ r.toBitVec <<< 13 = y at t1 h1 ⊢
  obtain ⟨m2, t2, h2, u2⟩ := h1.st (y ^^^ y >>> 7)
  generalize hz : y ^^^ y >>> 7 = z at t2 h2 ⊢
  obtain ⟨m3, t3, h3, u3⟩ := h2.st (z ^^^ z <<< 17)
  simp only [RC.slices_xorshift_Next, go_sem, Bool.false_and, new_set, Int.reduceBEq, Int.reduceBNe, Int.reduceNeg, not_true_eq_false, beq_self_eq_true, bne_self_eq_false, Bool.false_eq_true, if_false, if_true, Int.cast_ofNat_Int, decide_true, decide_false, reduceCtorEq, Nat.reduceEqDiff, Nat.reduceAdd, ne_eq, not_false_eq_true, Option.map_some, Option.bind_some, Option.map_none, Option.bind_none, true_and, and_true, Bool.not_true, Bool.not_false, Nat.reduceLeDiff, Nat.reduceMul, Nat.reduceSub, Nat.le_refl, Int.reduceToNat, Int.reduceLT, Int.reduceLE, Nat.one_mul, Nat.mul_one, h.ld, e13, hy, t1, h1.ld, e7, hz, t2, h2.ld, e17, t3, h3.ld]
  exact ⟨h3, (u1.trans u2 (fun _ h => h) (fun _ h => .inl h)).trans u3 (fun _ h => h) (fun _ h => .inl h)⟩

set_option maxHeartbeats 2000000 in
theorem so_brk {a b : Nat} {cv : Value} (h : S.Row m d) (hb : b ≤ S.n) (hab : a ≤ b) (hm : S.m0.next ≤ m.next) : WC R F.slices_breakPatternsCmpFunc_local_entry [S.sv, .int .i64 a, .int .i64 b, cv] m fun r m' => S.Row m' (breakPatterns d a b) := by
  refine WC.of R.slices_breakPatternsCmpFunc_local_entry rfl ?_
  have hn := S.small
  simp only [RC.slices_breakPatternsCmpFunc_local_entry, go_sem, Bool.false_and, new_set, Int.reduceBEq, Int.reduceBNe, Int.reduceNeg, not_true_eq_false, beq_self_eq_true, bne_self_eq_false, Bool.false_eq_true, if_false, if_true, Int.cast_ofNat_Int, decide_true, decide_false, reduceCtorEq, Nat.reduceEqDiff, Nat.reduceAdd, ne_eq, not_false_eq_true, Option.map_some, Option.bind_some, Option.map_none, Option.bind_none, true_and, and_true, Bool.not_true, Bool.not_false, Nat.reduceLeDiff, Nat.reduceMul, Nat.reduceSub, Nat.le_refl, Int.reduceToNat, Int.reduceLT, Int.reduceLE, Nat.one_mul, Nat.mul_one, nsub hab (show b < 4000000 by omega)]
  refine gT.of (fun g1' => ?_) (fun g1' => ?_) <;> (have g1 := g1'; try simp only [decide_eq_true_eq, decide_eq_false_iff_not, beq_iff_eq, bne_iff_ne, beq_eq_false_iff_ne, ne_eq, Bool.not_eq_true', Bool.not_eq_false', bne_eq_false_iff_eq, Int.not_lt, Int.not_le] at g1)
  · rw [bpN_eq (by omega)]
    have eof : BitVec.ofInt 64 ((b - a : Nat) : Int) = (UInt64.ofNat (b - a)).toBitVec := by rw [BitVec.ofInt_natCast]; rfl
    have i1 : (b - a) / 4 ≤ b - a := Nat.div_le_self _ _
    have hx0 : Ext m (m.new (.cells [u64 0#64] (some 1))) := Ext.new
    have hg0 : so_Gen (m.new (.cells [u64 0#64] (some 1))) m.next 0#64 := ⟨by simp [Mem.new], by simp [Mem.new]⟩
    obtain ⟨m1, t0, hg1, u1⟩ := hg0.st (UInt64.ofNat (b - a)).toBitVec
    have hx1 : Ext m m1 := Upd.ext_of hx0 u1 (by simp)
    simp only [go_sem, Bool.false_and, new_set, Int.reduceBEq, Int.reduceBNe, Int.reduceNeg, not_true_eq_false, beq_self_eq_true, bne_self_eq_false, Bool.false_eq_true, if_false, if_true, Int.cast_ofNat_Int, decide_true, decide_false, reduceCtorEq, Nat.reduceEqDiff, Nat.reduceAdd, ne_eq, not_false_eq_true, Option.map_some, Option.bind_some, Option.map_none, Option.bind_none, true_and, and_true, Bool.not_true, Bool.not_false, Nat.reduceLeDiff, Nat.reduceMul, Nat.reduceSub, Nat.le_refl, Int.reduceToNat, Int.reduceLT, Int.reduceLE, Nat.one_mul, Nat.mul_one, g1', eof, conv_u, t0]
    have hq : S.b ≠ m.next := by have := h.lt; omega
    refine gC.of (so_pow2 (n := b - a) (by omega)) ?_
    rintro _ m2 ⟨rfl, hmm⟩
    subst hmm
    have p2 := two_pow_bitsLen_le (n := b - a) (by omega)
    have p0 : 0 < 2 ^ bitsLen (b - a) := Nat.two_pow_pos _
    have em : (1#64 <<< bitsLen (b - a)).toNat = 1 <<< bitsLen (b - a) := by
      rw [BitVec.toNat_shiftLeft]
      have e1 : (1#64).toNat = 1 := rfl
      rw [e1, Nat.one_shiftLeft, Nat.mod_eq_of_lt (by omega)]
    have em1 : (1#64 <<< bitsLen (b - a) - 1#64).toNat = (1 <<< bitsLen (b - a)) - 1 := by
      rw [BitVec.toNat_sub, em, Nat.one_shiftLeft]
      have e1 : (1#64).toNat = 1 := rfl
      rw [e1]; omega
    rw [← Nat.one_shiftLeft] at p2 p0
    generalize hM : 1#64 <<< bitsLen (b - a) = M at em em1 ⊢
    generalize hK : 1 <<< bitsLen (b - a) = K at em em1 p2 p0 ⊢
    clear hM hK em
    clear u1 hx0 hg0
    obtain ⟨i0, hi0⟩ : ∃ i0, i0 = a + (b - a) / 4 * 2 - 1 := ⟨_, rfl⟩
    have hi1 : a + (b - a) / 4 * 2 = i0 + 1 := by omega
    have hi2 : i0 + 3 ≤ b := by omega
    rw [← hi0]
    simp only [go_sem, Bool.false_and, new_set, Int.reduceBEq, Int.reduceBNe, Int.reduceNeg, not_true_eq_false, beq_self_eq_true, bne_self_eq_false, Bool.false_eq_true, if_false, if_true, Int.cast_ofNat_Int, decide_true, decide_false, reduceCtorEq, Nat.reduceEqDiff, Nat.reduceAdd, ne_eq, not_false_eq_true, Option.map_some, Option.bind_some, Option.map_none, Option.bind_none, true_and, and_true, Bool.not_true, Bool.not_false, Nat.reduceLeDiff, Nat.reduceMul, Nat.reduceSub, Nat.le_refl, Int.reduceToNat, Int.reduceLT, Int.reduceLE, Nat.one_mul, Nat.mul_one, nq4 (show b - a < 4000000 by omega), nm2 (show (b - a) / 4 < 1000000 by omega), nadd (show a + (b - a) / 4 * 2 < 4000000 by omega), nsub1 (show 0 < a + (b - a) / 4 * 2 by omega) (show a + (b - a) / 4 * 2 < 4000000 by omega), ← hi0]
    refine ⟨by omega, ?_⟩
    generalize hfin : bpN a (b - a) K 3 (UInt64.ofNat (b - a)) d i0 = fin
    refine WL.of (fun r e m' => ∃ (k : Nat) (s : UInt64) (d' : Array α), r = k ∧ k ≤ 3 ∧ e = [(0, S.sv), (1, .int .i64 a), (8, .int .i64 (b - a : Nat)), (9, .pointer (some ⟨m.next, 0, none⟩)), (10, u64 M), (11, .int .i64 (i0 + (3 - k) : Nat))] ∧ S.Row m' d' ∧ so_Gen m' m.next s.toBitVec ∧
        bpN a (b - a) K k s d' (i0 + (3 - k)) = fin) 3
      ⟨3, _, d, rfl, by omega, by simp only [go_sem, Bool.false_and, new_set, Int.reduceBEq, Int.reduceBNe, Int.reduceNeg, not_true_eq_false, beq_self_eq_true, bne_self_eq_false, Bool.false_eq_true, if_false, if_true, Int.cast_ofNat_Int, decide_true, decide_false, reduceCtorEq, Nat.reduceEqDiff, Nat.reduceAdd, ne_eq, not_false_eq_true, Option.map_some, Option.bind_some, Option.map_none, Option.bind_none, true_and, and_true, Bool.not_true, Bool.not_false, Nat.reduceLeDiff, Nat.reduceMul, Nat.reduceSub, Nat.le_refl, Int.reduceToNat, Int.reduceLT, Int.reduceLE, Nat.one_mul, Nat.mul_one] <;> rfl, h.keep hx1, hg1, hfin⟩ ?_
    rintro n0 _ m3 ⟨k, s, d', hr, hk, rfl, h3, hg3, he⟩
    simp only [RB.slices_breakPatternsCmpFunc_local_entry_1, go_sem, Bool.false_and, new_set, Int.reduceBEq, Int.reduceBNe, Int.reduceNeg, not_true_eq_false, beq_self_eq_true, bne_self_eq_false, Bool.false_eq_true, if_false, if_true, Int.cast_ofNat_Int, decide_true, decide_false, reduceCtorEq, Nat.reduceEqDiff, Nat.reduceAdd, ne_eq, not_false_eq_true, Option.map_some, Option.bind_some, Option.map_none, Option.bind_none, true_and, and_true, Bool.not_true, Bool.not_false, Nat.reduceLeDiff, Nat.reduceMul, Nat.reduceSub, Nat.le_refl, Int.reduceToNat, Int.reduceLT, Int.reduceLE, Nat.one_mul, Nat.mul_one, nq4 (show b - a < 4000000 by omega), nm2 (show (b - a) / 4 < 1000000 by omega), nadd (show a + (b - a) / 4 * 2 < 4000000 by omega), nadd1 (show a + (b - a) / 4 * 2 < 4000000 by omega)]
    refine ⟨by omega, ?_⟩
    refine gT.of (fun g2' => ?_) (fun g2' => ?_) <;> (have g2 := g2'; try simp only [decide_eq_true_eq, decide_eq_false_iff_not, beq_iff_eq, bne_iff_ne, beq_eq_false_iff_ne, ne_eq, Bool.not_eq_true', Bool.not_eq_false', bne_eq_false_iff_eq, Int.not_lt, Int.not_le] at g2)
    · obtain ⟨k, rfl⟩ : ∃ k', k = k' + 1 := ⟨k - 1, by omega⟩
      simp only [go_sem, Bool.false_and, new_set, Int.reduceBEq, Int.reduceBNe, Int.reduceNeg, not_true_eq_false, beq_self_eq_true, bne_self_eq_false, Bool.false_eq_true, if_false, if_true, Int.cast_ofNat_Int, decide_true, decide_false, reduceCtorEq, Nat.reduceEqDiff, Nat.reduceAdd, ne_eq, not_false_eq_true, Option.map_some, Option.bind_some, Option.map_none, Option.bind_none, true_and, and_true, Bool.not_true, Bool.not_false, Nat.reduceLeDiff, Nat.reduceMul, Nat.reduceSub, Nat.le_refl, Int.reduceToNat, Int.reduceLT, Int.reduceLE, Nat.one_mul, Nat.mul_one, g2']
      refine gC.of (so_next hg3) ?_
      rintro _ m4 ⟨rfl, hg4, hu4⟩
      have h4 := h3.so_other hu4 hq hm
      simp only [bpN, breakStep] at he
      generalize xorNext s = s' at hg4 he ⊢
      have ea : (s'.toBitVec &&& (M - 1#64)).toNat = s'.toNat &&& (K - 1) := by rw [BitVec.toNat_and, em1]; rfl
      have hle : s'.toNat &&& (K - 1) ≤ K - 1 := Nat.and_le_right
      generalize s'.toNat &&& (K - 1) = o at ea he hle
      have wo : IntKind.wrap .i64 ((o : Nat) : Int) = (o : Nat) := wrap_i64 (by omega) (by omega)
      have c0 : i0 + (3 - (k + 1)) < S.n := by omega
      have es : i0 + (3 - (k + 1)) + 1 = i0 + (3 - k) := by omega
      have n1 := nadd1 (show i0 + (3 - (k + 1)) < 4000000 by omega)
      rw [es] at n1 he
      simp only [go_sem, Bool.false_and, new_set, Int.reduceBEq, Int.reduceBNe, Int.reduceNeg, not_true_eq_false, beq_self_eq_true, bne_self_eq_false, Bool.false_eq_true, if_false, if_true, Int.cast_ofNat_Int, decide_true, decide_false, reduceCtorEq, Nat.reduceEqDiff, Nat.reduceAdd, ne_eq, not_false_eq_true, Option.map_some, Option.bind_some, Option.map_none, Option.bind_none, true_and, and_true, Bool.not_true, Bool.not_false, Nat.reduceLeDiff, Nat.reduceMul, Nat.reduceSub, Nat.le_refl, Int.reduceToNat, Int.reduceLT, Int.reduceLE, Nat.one_mul, Nat.mul_one, ea, wo]
      refine gT.of (fun g3' => ?_) (fun g3' => ?_) <;> (have g3 := g3'; try simp only [decide_eq_true_eq, decide_eq_false_iff_not, beq_iff_eq, bne_iff_ne, beq_eq_false_iff_ne, ne_eq, Bool.not_eq_true', Bool.not_eq_false', bne_eq_false_iff_eq, Int.not_lt, Int.not_le] at g3)
      · rw [if_pos (by omega)] at he
        have c1 : a + (o - (b - a)) < S.n := by omega
        obtain ⟨n1', n2', t1, t2, h5⟩ := h4.sw c0 c1
        simp only [go_sem, Bool.false_and, new_set, Int.reduceBEq, Int.reduceBNe, Int.reduceNeg, not_true_eq_false, beq_self_eq_true, bne_self_eq_false, Bool.false_eq_true, if_false, if_true, Int.cast_ofNat_Int, decide_true, decide_false, reduceCtorEq, Nat.reduceEqDiff, Nat.reduceAdd, ne_eq, not_false_eq_true, Option.map_some, Option.bind_some, Option.map_none, Option.bind_none, true_and, and_true, Bool.not_true, Bool.not_false, Nat.reduceLeDiff, Nat.reduceMul, Nat.reduceSub, Nat.le_refl, Int.reduceToNat, Int.reduceLT, Int.reduceLE, Nat.one_mul, Nat.mul_one, g3', nsub (show b - a ≤ o by omega) (show o < 4000000 by omega), nadd (show a + (o - (b - a)) < 4000000 by omega), S.ix c0, S.ix c1, h4.ld c0, h4.ld c1, t1, t2, n1]
        refine ⟨k, by omega, k, _, _, rfl, by omega, rfl, h5, ?_, he⟩
        exact ⟨by rw [(aStore_keep t2) _ (by simpa using fun e => hq e.symm), (aStore_keep t1) _ (by simpa using fun e => hq e.symm)]; exact hg4.at_, by rw [aStore_next t2, aStore_next t1]; exact hg4.lt⟩
      · rw [if_neg (by omega)] at he
        have c1 : a + o < S.n := by omega
        obtain ⟨n1', n2', t1, t2, h5⟩ := h4.sw c0 c1
        simp only [go_sem, Bool.false_and, new_set, Int.reduceBEq, Int.reduceBNe, Int.reduceNeg, not_true_eq_false, beq_self_eq_true, bne_self_eq_false, Bool.false_eq_true, if_false, if_true, Int.cast_ofNat_Int, decide_true, decide_false, reduceCtorEq, Nat.reduceEqDiff, Nat.reduceAdd, ne_eq, not_false_eq_true, Option.map_some, Option.bind_some, Option.map_none, Option.bind_none, true_and, and_true, Bool.not_true, Bool.not_false, Nat.reduceLeDiff, Nat.reduceMul, Nat.reduceSub, Nat.le_refl, Int.reduceToNat, Int.reduceLT, Int.reduceLE, Nat.one_mul, Nat.mul_one, g3', nadd (show a + o < 4000000 by omega), S.ix c0, S.ix c1, h4.ld c0, h4.ld c1, t1, t2, n1]
        refine ⟨k, by omega, k, _, _, rfl, by omega, rfl, h5, ?_, he⟩
        exact ⟨by rw [(aStore_keep t2) _ (by simpa using fun e => hq e.symm), (aStore_keep t1) _ (by simpa using fun e => hq e.symm)]; exact hg4.at_, by rw [aStore_next t2, aStore_next t1]; exact hg4.lt⟩
    · have hk0 : k = 0 := by omega
      subst hk0
      simp only [bpN] at he
      simp only [go_sem, Bool.false_and, new_set, Int.reduceBEq, Int.reduceBNe, Int.reduceNeg, not_true_eq_false, beq_self_eq_true, bne_self_eq_false, Bool.false_eq_true, if_false, if_true, Int.cast_ofNat_Int, decide_true, decide_false, reduceCtorEq, Nat.reduceEqDiff, Nat.reduceAdd, ne_eq, not_false_eq_true, Option.map_some, Option.bind_some, Option.map_none, Option.bind_none, true_and, and_true, Bool.not_true, Bool.not_false, Nat.reduceLeDiff, Nat.reduceMul, Nat.reduceSub, Nat.le_refl, Int.reduceToNat, Int.reduceLT, Int.reduceLE, Nat.one_mul, Nat.mul_one, g2']
      rw [← he]
      exact h3
  · have e : breakPatterns d a b = d := by
      unfold breakPatterns
      simp only
      rw [if_neg (by omega)]
    rw [e]
    simp only [go_sem, Bool.false_and, new_set, Int.reduceBEq, Int.reduceBNe, Int.reduceNeg, not_true_eq_false, beq_self_eq_true, bne_self_eq_false, Bool.false_eq_true, if_false, if_true, Int.cast_ofNat_Int, decide_true, decide_false, reduceCtorEq, Nat.reduceEqDiff, Nat.reduceAdd, ne_eq, not_false_eq_true, Option.map_some, Option.bind_some, Option.map_none, Option.bind_none, true_and, and_true, Bool.not_true, Bool.not_false, Nat.reduceLeDiff, Nat.reduceMul, Nat.reduceSub, Nat.le_refl, Int.reduceToNat, Int.reduceLT, Int.reduceLE, Nat.one_mul, Nat.mul_one, g1']
    exact h
end Go.Am


/- Sorting a row at local_entry (Local): the whole. Printed out of SortT6.tmpl by sortgen.py. -/
set_option linter.unusedVariables false
set_option linter.unusedSimpArgs false
namespace Go.Am
open Go.Sort
variable {α : Type} [Inhabited α] {S : SortC R α 3} {m : Mem} {d : Array α}

theorem so_hint2 {h : Hint} : (hintN h == 2) = decide (h = .decreasing) := by cases h <;> rfl
theorem so_hint1 {h : Hint} : (hintN h == 1) = decide (h = .increasing) := by cases h <;> rfl

set_option maxHeartbeats 4000000 in
theorem so_pdq : ∀ (N : Nat) (m : Mem) (d : Array α) (a b limit : Nat), b - a ≤ N → S.Row m d → b ≤ S.n → a ≤ b → limit < 1000000 →
    WC R F.slices_pdqsortCmpFunc_local_entry [S.sv, .int .i64 a, .int .i64 b, .int .i64 limit, S.cv] m fun r m' => S.Row m' (pdq S.lt d a b limit true true) := by
  intro N
  induction N using Nat.strongRecOn with
  | _ N ih =>
  intro m d a b limit hN h hb hab hlim
  refine WC.of R.slices_pdqsortCmpFunc_local_entry rfl ?_
  have hn := S.small
  simp only [RC.slices_pdqsortCmpFunc_local_entry, go_sem, Bool.false_and, new_set, Int.reduceBEq, Int.reduceBNe, Int.reduceNeg, not_true_eq_false, beq_self_eq_true, bne_self_eq_false, Bool.false_eq_true, if_false, if_true, Int.cast_ofNat_Int, decide_true, decide_false, reduceCtorEq, Nat.reduceEqDiff, Nat.reduceAdd, ne_eq, not_false_eq_true, Option.map_some, Option.bind_some, Option.map_none, Option.bind_none, true_and, and_true, Bool.not_true, Bool.not_false, Nat.reduceLeDiff, Nat.reduceMul, Nat.reduceSub, Nat.le_refl, Int.reduceToNat, Int.reduceLT, Int.reduceLE, Nat.one_mul, Nat.mul_one]
  generalize hfin : pdq S.lt d a b limit true true = fin
  refine WL.of (fun r e m' => ∃ (a' b' lim : Nat) (wb wp : Bool) (d' : Array α), r = b' - a' ∧ b' - a' ≤ N ∧ b' ≤ S.n ∧ a' ≤ b' ∧ lim < 1000000 ∧ e = [(0, S.sv), (1, .int .i64 a'), (2, .int .i64 b'), (3, .int .i64 lim), (4, S.cv), (10, .bool wb), (11, .bool wp)] ∧ S.Row m' d' ∧ pdq S.lt d' a' b' lim wb wp = fin) (b - a)
    ⟨a, b, limit, true, true, d, rfl, hN, hb, hab, hlim, by simp only [go_sem, Bool.false_and, new_set, Int.reduceBEq, Int.reduceBNe, Int.reduceNeg, not_true_eq_false, beq_self_eq_true, bne_self_eq_false, Bool.false_eq_true, if_false, if_true, Int.cast_ofNat_Int, decide_true, decide_false, reduceCtorEq, Nat.reduceEqDiff, Nat.reduceAdd, ne_eq, not_false_eq_true, Option.map_some, Option.bind_some, Option.map_none, Option.bind_none, true_and, and_true, Bool.not_true, Bool.not_false, Nat.reduceLeDiff, Nat.reduceMul, Nat.reduceSub, Nat.le_refl, Int.reduceToNat, Int.reduceLT, Int.reduceLE, Nat.one_mul, Nat.mul_one] <;> rfl, h, hfin⟩ ?_
  clear hfin h hb hab hlim hN
  rintro n0 _ m1 ⟨a', b', lim, wb, wp, d', hr, hN, hb, hab, hlim, rfl, h1, he⟩
  simp only [RB.slices_pdqsortCmpFunc_local_entry_1, go_sem, Bool.false_and, new_set, Int.reduceBEq, Int.reduceBNe, Int.reduceNeg, not_true_eq_false, beq_self_eq_true, bne_self_eq_false, Bool.false_eq_true, if_false, if_true, Int.cast_ofNat_Int, decide_true, decide_false, reduceCtorEq, Nat.reduceEqDiff, Nat.reduceAdd, ne_eq, not_false_eq_true, Option.map_some, Option.bind_some, Option.map_none, Option.bind_none, true_and, and_true, Bool.not_true, Bool.not_false, Nat.reduceLeDiff, Nat.reduceMul, Nat.reduceSub, Nat.le_refl, Int.reduceToNat, Int.reduceLT, Int.reduceLE, Nat.one_mul, Nat.mul_one, nsub hab (show b' < 4000000 by omega)]
  refine gT.of (fun g1' => ?_) (fun g1' => ?_) <;> (have g1 := g1'; try simp only [decide_eq_true_eq, decide_eq_false_iff_not, beq_iff_eq, bne_iff_ne, beq_eq_false_iff_ne, ne_eq, Bool.not_eq_true', Bool.not_eq_false', bne_eq_false_iff_eq, Int.not_lt, Int.not_le] at g1)
  · rw [pdq_small (by omega)] at he
    simp only [go_sem, Bool.false_and, new_set, Int.reduceBEq, Int.reduceBNe, Int.reduceNeg, not_true_eq_false, beq_self_eq_true, bne_self_eq_false, Bool.false_eq_true, if_false, if_true, Int.cast_ofNat_Int, decide_true, decide_false, reduceCtorEq, Nat.reduceEqDiff, Nat.reduceAdd, ne_eq, not_false_eq_true, Option.map_some, Option.bind_some, Option.map_none, Option.bind_none, true_and, and_true, Bool.not_true, Bool.not_false, Nat.reduceLeDiff, Nat.reduceMul, Nat.reduceSub, Nat.le_refl, Int.reduceToNat, Int.reduceLT, Int.reduceLE, Nat.one_mul, Nat.mul_one, g1']
    refine gC.of (so_ins h1 hb hab) ?_
    rintro _ m2 h2
    rw [he] at h2
    simp only [go_sem, Bool.false_and, new_set, Int.reduceBEq, Int.reduceBNe, Int.reduceNeg, not_true_eq_false, beq_self_eq_true, bne_self_eq_false, Bool.false_eq_true, if_false, if_true, Int.cast_ofNat_Int, decide_true, decide_false, reduceCtorEq, Nat.reduceEqDiff, Nat.reduceAdd, ne_eq, not_false_eq_true, Option.map_some, Option.bind_some, Option.map_none, Option.bind_none, true_and, and_true, Bool.not_true, Bool.not_false, Nat.reduceLeDiff, Nat.reduceMul, Nat.reduceSub, Nat.le_refl, Int.reduceToNat, Int.reduceLT, Int.reduceLE, Nat.one_mul, Nat.mul_one]
    exact h2
  · simp only [go_sem, Bool.false_and, new_set, Int.reduceBEq, Int.reduceBNe, Int.reduceNeg, not_true_eq_false, beq_self_eq_true, bne_self_eq_false, Bool.false_eq_true, if_false, if_true, Int.cast_ofNat_Int, decide_true, decide_false, reduceCtorEq, Nat.reduceEqDiff, Nat.reduceAdd, ne_eq, not_false_eq_true, Option.map_some, Option.bind_some, Option.map_none, Option.bind_none, true_and, and_true, Bool.not_true, Bool.not_false, Nat.reduceLeDiff, Nat.reduceMul, Nat.reduceSub, Nat.le_refl, Int.reduceToNat, Int.reduceLT, Int.reduceLE, Nat.one_mul, Nat.mul_one, g1']
    refine gT.of (fun g2' => ?_) (fun g2' => ?_) <;> (have g2 := g2'; try simp only [decide_eq_true_eq, decide_eq_false_iff_not, beq_iff_eq, bne_iff_ne, beq_eq_false_iff_ne, ne_eq, Bool.not_eq_true', Bool.not_eq_false', bne_eq_false_iff_eq, Int.not_lt, Int.not_le] at g2)
    · rw [pdq_heap (by omega) (by omega)] at he
      simp only [go_sem, Bool.false_and, new_set, Int.reduceBEq, Int.reduceBNe, Int.reduceNeg, not_true_eq_false, beq_self_eq_true, bne_self_eq_false, Bool.false_eq_true, if_false, if_true, Int.cast_ofNat_Int, decide_true, decide_false, reduceCtorEq, Nat.reduceEqDiff, Nat.reduceAdd, ne_eq, not_false_eq_true, Option.map_some, Option.bind_some, Option.map_none, Option.bind_none, true_and, and_true, Bool.not_true, Bool.not_false, Nat.reduceLeDiff, Nat.reduceMul, Nat.reduceSub, Nat.le_refl, Int.reduceToNat, Int.reduceLT, Int.reduceLE, Nat.one_mul, Nat.mul_one, g2']
      refine gC.of (so_heap h1 hb (by omega)) ?_
      rintro _ m2 h2
      rw [he] at h2
      simp only [go_sem, Bool.false_and, new_set, Int.reduceBEq, Int.reduceBNe, Int.reduceNeg, not_true_eq_false, beq_self_eq_true, bne_self_eq_false, Bool.false_eq_true, if_false, if_true, Int.cast_ofNat_Int, decide_true, decide_false, reduceCtorEq, Nat.reduceEqDiff, Nat.reduceAdd, ne_eq, not_false_eq_true, Option.map_some, Option.bind_some, Option.map_none, Option.bind_none, true_and, and_true, Bool.not_true, Bool.not_false, Nat.reduceLeDiff, Nat.reduceMul, Nat.reduceSub, Nat.le_refl, Int.reduceToNat, Int.reduceLT, Int.reduceLE, Nat.one_mul, Nat.mul_one]
      exact h2
    · simp only [go_sem, Bool.false_and, new_set, Int.reduceBEq, Int.reduceBNe, Int.reduceNeg, not_true_eq_false, beq_self_eq_true, bne_self_eq_false, Bool.false_eq_true, if_false, if_true, Int.cast_ofNat_Int, decide_true, decide_false, reduceCtorEq, Nat.reduceEqDiff, Nat.reduceAdd, ne_eq, not_false_eq_true, Option.map_some, Option.bind_some, Option.map_none, Option.bind_none, true_and, and_true, Bool.not_true, Bool.not_false, Nat.reduceLeDiff, Nat.reduceMul, Nat.reduceSub, Nat.le_refl, Int.reduceToNat, Int.reduceLT, Int.reduceLE, Nat.one_mul, Nat.mul_one, g2']
      have hlim0 : 0 < lim := by omega
      have hab' : a' < b' := by omega
      have h12 : ¬ b' - a' ≤ 12 := by omega
      -- patterns
      refine gT_mid (fun e m' => (∃ rest, e = (0, S.sv) :: (1, .int .i64 a') :: (2, .int .i64 b') :: (3, .int .i64 (rd S.lt d' a' b' lim wb wp).lim) :: (4, S.cv) :: (10, .bool wb) :: (11, .bool wp) :: (12, .int .i64 (b' - a' : Nat)) :: rest) ∧ S.Row m' (rd S.lt d' a' b' lim wb wp).d1) (fun g => ?_) (fun g => ?_) ?_
      · cases wb with
        | true => simp at g
        | false =>
          simp only [go_sem, Bool.false_and, new_set, Int.reduceBEq, Int.reduceBNe, Int.reduceNeg, not_true_eq_false, beq_self_eq_true, bne_self_eq_false, Bool.false_eq_true, if_false, if_true, Int.cast_ofNat_Int, decide_true, decide_false, reduceCtorEq, Nat.reduceEqDiff, Nat.reduceAdd, ne_eq, not_false_eq_true, Option.map_some, Option.bind_some, Option.map_none, Option.bind_none, true_and, and_true, Bool.not_true, Bool.not_false, Nat.reduceLeDiff, Nat.reduceMul, Nat.reduceSub, Nat.le_refl, Int.reduceToNat, Int.reduceLT, Int.reduceLE, Nat.one_mul, Nat.mul_one]
          refine gC.of (so_brk h1 hb hab h1.upd.next) ?_
          rintro _ m2 h2
          simp only [go_sem, Bool.false_and, new_set, Int.reduceBEq, Int.reduceBNe, Int.reduceNeg, not_true_eq_false, beq_self_eq_true, bne_self_eq_false, Bool.false_eq_true, if_false, if_true, Int.cast_ofNat_Int, decide_true, decide_false, reduceCtorEq, Nat.reduceEqDiff, Nat.reduceAdd, ne_eq, not_false_eq_true, Option.map_some, Option.bind_some, Option.map_none, Option.bind_none, true_and, and_true, Bool.not_true, Bool.not_false, Nat.reduceLeDiff, Nat.reduceMul, Nat.reduceSub, Nat.le_refl, Int.reduceToNat, Int.reduceLT, Int.reduceLE, Nat.one_mul, Nat.mul_one, nsub1 hlim0 (show lim < 4000000 by omega)]
          exact ⟨⟨_, rfl⟩, h2⟩
      · cases wb with
        | false => simp at g
        | true =>
          simp only [go_sem, Bool.false_and, new_set, Int.reduceBEq, Int.reduceBNe, Int.reduceNeg, not_true_eq_false, beq_self_eq_true, bne_self_eq_false, Bool.false_eq_true, if_false, if_true, Int.cast_ofNat_Int, decide_true, decide_false, reduceCtorEq, Nat.reduceEqDiff, Nat.reduceAdd, ne_eq, not_false_eq_true, Option.map_some, Option.bind_some, Option.map_none, Option.bind_none, true_and, and_true, Bool.not_true, Bool.not_false, Nat.reduceLeDiff, Nat.reduceMul, Nat.reduceSub, Nat.le_refl, Int.reduceToNat, Int.reduceLT, Int.reduceLE, Nat.one_mul, Nat.mul_one]
          exact ⟨⟨_, rfl⟩, h1⟩
      rintro _ m2 ⟨⟨rest, rfl⟩, h2⟩
      have hlx : (rd S.lt d' a' b' lim wb wp).lim < 1000000 := Nat.lt_of_le_of_lt rd_lim_le hlim
      simp only [go_sem, Bool.false_and, new_set, Int.reduceBEq, Int.reduceBNe, Int.reduceNeg, not_true_eq_false, beq_self_eq_true, bne_self_eq_false, Bool.false_eq_true, if_false, if_true, Int.cast_ofNat_Int, decide_true, decide_false, reduceCtorEq, Nat.reduceEqDiff, Nat.reduceAdd, ne_eq, not_false_eq_true, Option.map_some, Option.bind_some, Option.map_none, Option.bind_none, true_and, and_true, Bool.not_true, Bool.not_false, Nat.reduceLeDiff, Nat.reduceMul, Nat.reduceSub, Nat.le_refl, Int.reduceToNat, Int.reduceLT, Int.reduceLE, Nat.one_mul, Nat.mul_one]
      refine gC.of (so_choose h2 hb hab' h2.upd.next) ?_
      rintro _ m3 ⟨rfl, h3⟩
      have hc := choosePivot_holds S.lt (rd S.lt d' a' b' lim wb wp).d1 a' b' hab'
      rw [← rd_c (lt := S.lt) (d := d') (a := a') (b := b') (limit := lim) (wb := wb) (wp := wp)] at hc ⊢
      simp only [go_sem, Bool.false_and, new_set, Int.reduceBEq, Int.reduceBNe, Int.reduceNeg, not_true_eq_false, beq_self_eq_true, bne_self_eq_false, Bool.false_eq_true, if_false, if_true, Int.cast_ofNat_Int, decide_true, decide_false, reduceCtorEq, Nat.reduceEqDiff, Nat.reduceAdd, ne_eq, not_false_eq_true, Option.map_some, Option.bind_some, Option.map_none, Option.bind_none, true_and, and_true, Bool.not_true, Bool.not_false, Nat.reduceLeDiff, Nat.reduceMul, Nat.reduceSub, Nat.le_refl, Int.reduceToNat, Int.reduceLT, Int.reduceLE, Nat.one_mul, Nat.mul_one, aExt0, aExt1, so_hint2]
      -- the other way round
      refine gT_mid (fun e m' => (∃ rest, e = (0, S.sv) :: (1, .int .i64 a') :: (2, .int .i64 b') :: (3, .int .i64 (rd S.lt d' a' b' lim wb wp).lim) :: (4, S.cv) :: (10, .bool wb) :: (11, .bool wp) :: (12, .int .i64 (b' - a' : Nat)) :: (13, .int .i64 (rd S.lt d' a' b' lim wb wp).pivot) :: (14, .int .i64 (hintN (rd S.lt d' a' b' lim wb wp).hint)) :: rest) ∧ S.Row m' (rd S.lt d' a' b' lim wb wp).d2) (fun g => ?_) (fun g => ?_) ?_
      · have g : (rd S.lt d' a' b' lim wb wp).c.2 = .decreasing := by simpa using g
        obtain ⟨r1, r2, r3⟩ := rd_dec g
        rw [r1, r2, r3]
        simp only [go_sem, Bool.false_and, new_set, Int.reduceBEq, Int.reduceBNe, Int.reduceNeg, not_true_eq_false, beq_self_eq_true, bne_self_eq_false, Bool.false_eq_true, if_false, if_true, Int.cast_ofNat_Int, decide_true, decide_false, reduceCtorEq, Nat.reduceEqDiff, Nat.reduceAdd, ne_eq, not_false_eq_true, Option.map_some, Option.bind_some, Option.map_none, Option.bind_none, true_and, and_true, Bool.not_true, Bool.not_false, Nat.reduceLeDiff, Nat.reduceMul, Nat.reduceSub, Nat.le_refl, Int.reduceToNat, Int.reduceLT, Int.reduceLE, Nat.one_mul, Nat.mul_one]
        refine gC.of (so_rev h3 hb hab') ?_
        rintro _ m4 h4
        simp only [go_sem, Bool.false_and, new_set, Int.reduceBEq, Int.reduceBNe, Int.reduceNeg, not_true_eq_false, beq_self_eq_true, bne_self_eq_false, Bool.false_eq_true, if_false, if_true, Int.cast_ofNat_Int, decide_true, decide_false, reduceCtorEq, Nat.reduceEqDiff, Nat.reduceAdd, ne_eq, not_false_eq_true, Option.map_some, Option.bind_some, Option.map_none, Option.bind_none, true_and, and_true, Bool.not_true, Bool.not_false, Nat.reduceLeDiff, Nat.reduceMul, Nat.reduceSub, Nat.le_refl, Int.reduceToNat, Int.reduceLT, Int.reduceLE, Nat.one_mul, Nat.mul_one, nsub1 (show 0 < b' by omega) (show b' < 4000000 by omega), nsub hc.1 (show (rd S.lt d' a' b' lim wb wp).c.1 < 4000000 by omega), nsub (show (rd S.lt d' a' b' lim wb wp).c.1 - a' ≤ b' - 1 by omega) (show b' - 1 < 4000000 by omega)]
        exact ⟨⟨_, rfl⟩, h4⟩
      · have g : (rd S.lt d' a' b' lim wb wp).c.2 ≠ .decreasing := by simpa using g
        obtain ⟨r1, r2, r3⟩ := rd_not g
        rw [r1, r2, r3]
        simp only [go_sem, Bool.false_and, new_set, Int.reduceBEq, Int.reduceBNe, Int.reduceNeg, not_true_eq_false, beq_self_eq_true, bne_self_eq_false, Bool.false_eq_true, if_false, if_true, Int.cast_ofNat_Int, decide_true, decide_false, reduceCtorEq, Nat.reduceEqDiff, Nat.reduceAdd, ne_eq, not_false_eq_true, Option.map_some, Option.bind_some, Option.map_none, Option.bind_none, true_and, and_true, Bool.not_true, Bool.not_false, Nat.reduceLeDiff, Nat.reduceMul, Nat.reduceSub, Nat.le_refl, Int.reduceToNat, Int.reduceLT, Int.reduceLE, Nat.one_mul, Nat.mul_one]
        exact ⟨⟨_, rfl⟩, h3⟩
      rintro _ m4 ⟨⟨rest, rfl⟩, h4⟩
      have hpv : a' ≤ (rd S.lt d' a' b' lim wb wp).pivot ∧ (rd S.lt d' a' b' lim wb wp).pivot < b' := pivot_range hc.1 hc.2 ((rd S.lt d' a' b' lim wb wp).c.2 = .decreasing)
      -- a few by insertion
      have hpd : (rd S.lt d' a' b' lim wb wp).pi.2 = true → pdq S.lt d' a' b' lim wb wp = (rd S.lt d' a' b' lim wb wp).pi.1 := pdq_done h12 (by omega)
      have hpiy := rd_pi_yes (lt := S.lt) (d := d') (a := a') (b := b') (limit := lim) (wb := wb) (wp := wp)
      have hpin := rd_pi_no (lt := S.lt) (d := d') (a := a') (b := b') (limit := lim) (wb := wb) (wp := wp)
      have hpe := pdq_eq (lt := S.lt) (d := d') (a := a') (b := b') (limit := lim) (wb := wb) (wp := wp) h12 (by omega)
      have hpl := pdq_left (lt := S.lt) (d := d') (a := a') (b := b') (limit := lim) (wb := wb) (wp := wp) h12 (by omega)
      have hpr := pdq_right (lt := S.lt) (d := d') (a := a') (b := b') (limit := lim) (wb := wb) (wp := wp) h12 (by omega)
      generalize hrd : rd S.lt d' a' b' lim wb wp = D at *
      refine gp_seq_mid (fun e m' => (∃ rest, e = (0, S.sv) :: (1, .int .i64 a') :: (2, .int .i64 b') :: (3, .int .i64 D.lim) :: (4, S.cv) :: (10, .bool wb) :: (11, .bool wp) :: (12, .int .i64 (b' - a' : Nat)) :: (13, .int .i64 D.pivot) :: rest) ∧ S.Row m' D.pi.1 ∧ D.pi.2 = false) ?_ ?_
      · have no : (wb && wp && decide (D.hint = .increasing)) = false → S.Row m4 D.pi.1 ∧ D.pi.2 = false := fun hc => by rw [hpin hc]; exact ⟨h4, rfl⟩
        cases wb with
        | false => simp only [go_sem, Bool.false_and, new_set, Int.reduceBEq, Int.reduceBNe, Int.reduceNeg, not_true_eq_false, beq_self_eq_true, bne_self_eq_false, Bool.false_eq_true, if_false, if_true, Int.cast_ofNat_Int, decide_true, decide_false, reduceCtorEq, Nat.reduceEqDiff, Nat.reduceAdd, ne_eq, not_false_eq_true, Option.map_some, Option.bind_some, Option.map_none, Option.bind_none, true_and, and_true, Bool.not_true, Bool.not_false, Nat.reduceLeDiff, Nat.reduceMul, Nat.reduceSub, Nat.le_refl, Int.reduceToNat, Int.reduceLT, Int.reduceLE, Nat.one_mul, Nat.mul_one]; exact ⟨⟨_, rfl⟩, no rfl⟩
        | true =>
          cases wp with
          | false => simp only [go_sem, Bool.false_and, new_set, Int.reduceBEq, Int.reduceBNe, Int.reduceNeg, not_true_eq_false, beq_self_eq_true, bne_self_eq_false, Bool.false_eq_true, if_false, if_true, Int.cast_ofNat_Int, decide_true, decide_false, reduceCtorEq, Nat.reduceEqDiff, Nat.reduceAdd, ne_eq, not_false_eq_true, Option.map_some, Option.bind_some, Option.map_none, Option.bind_none, true_and, and_true, Bool.not_true, Bool.not_false, Nat.reduceLeDiff, Nat.reduceMul, Nat.reduceSub, Nat.le_refl, Int.reduceToNat, Int.reduceLT, Int.reduceLE, Nat.one_mul, Nat.mul_one]; exact ⟨⟨_, rfl⟩, no rfl⟩
          | true =>
            simp only [go_sem, Bool.false_and, new_set, Int.reduceBEq, Int.reduceBNe, Int.reduceNeg, not_true_eq_false, beq_self_eq_true, bne_self_eq_false, Bool.false_eq_true, if_false, if_true, Int.cast_ofNat_Int, decide_true, decide_false, reduceCtorEq, Nat.reduceEqDiff, Nat.reduceAdd, ne_eq, not_false_eq_true, Option.map_some, Option.bind_some, Option.map_none, Option.bind_none, true_and, and_true, Bool.not_true, Bool.not_false, Nat.reduceLeDiff, Nat.reduceMul, Nat.reduceSub, Nat.le_refl, Int.reduceToNat, Int.reduceLT, Int.reduceLE, Nat.one_mul, Nat.mul_one, so_hint1]
            refine gT.of (fun g => ?_) (fun g => ?_)
            · have hpi := hpiy (by simpa using g)
              simp only [go_sem, Bool.false_and, new_set, Int.reduceBEq, Int.reduceBNe, Int.reduceNeg, not_true_eq_false, beq_self_eq_true, bne_self_eq_false, Bool.false_eq_true, if_false, if_true, Int.cast_ofNat_Int, decide_true, decide_false, reduceCtorEq, Nat.reduceEqDiff, Nat.reduceAdd, ne_eq, not_false_eq_true, Option.map_some, Option.bind_some, Option.map_none, Option.bind_none, true_and, and_true, Bool.not_true, Bool.not_false, Nat.reduceLeDiff, Nat.reduceMul, Nat.reduceSub, Nat.le_refl, Int.reduceToNat, Int.reduceLT, Int.reduceLE, Nat.one_mul, Nat.mul_one, g]
              refine gC.of (so_pins h4 hb hab') ?_
              rintro _ m5 ⟨rfl, h5⟩
              rw [← hpi] at h5 ⊢
              simp only [go_sem, Bool.false_and, new_set, Int.reduceBEq, Int.reduceBNe, Int.reduceNeg, not_true_eq_false, beq_self_eq_true, bne_self_eq_false, Bool.false_eq_true, if_false, if_true, Int.cast_ofNat_Int, decide_true, decide_false, reduceCtorEq, Nat.reduceEqDiff, Nat.reduceAdd, ne_eq, not_false_eq_true, Option.map_some, Option.bind_some, Option.map_none, Option.bind_none, true_and, and_true, Bool.not_true, Bool.not_false, Nat.reduceLeDiff, Nat.reduceMul, Nat.reduceSub, Nat.le_refl, Int.reduceToNat, Int.reduceLT, Int.reduceLE, Nat.one_mul, Nat.mul_one]
              refine gT.of (fun g3 => ?_) (fun g3 => ?_)
              · simp only [go_sem, Bool.false_and, new_set, Int.reduceBEq, Int.reduceBNe, Int.reduceNeg, not_true_eq_false, beq_self_eq_true, bne_self_eq_false, Bool.false_eq_true, if_false, if_true, Int.cast_ofNat_Int, decide_true, decide_false, reduceCtorEq, Nat.reduceEqDiff, Nat.reduceAdd, ne_eq, not_false_eq_true, Option.map_some, Option.bind_some, Option.map_none, Option.bind_none, true_and, and_true, Bool.not_true, Bool.not_false, Nat.reduceLeDiff, Nat.reduceMul, Nat.reduceSub, Nat.le_refl, Int.reduceToNat, Int.reduceLT, Int.reduceLE, Nat.one_mul, Nat.mul_one]
                rw [hpd g3] at he
                rw [he] at h5
                exact h5
              · simp only [go_sem, Bool.false_and, new_set, Int.reduceBEq, Int.reduceBNe, Int.reduceNeg, not_true_eq_false, beq_self_eq_true, bne_self_eq_false, Bool.false_eq_true, if_false, if_true, Int.cast_ofNat_Int, decide_true, decide_false, reduceCtorEq, Nat.reduceEqDiff, Nat.reduceAdd, ne_eq, not_false_eq_true, Option.map_some, Option.bind_some, Option.map_none, Option.bind_none, true_and, and_true, Bool.not_true, Bool.not_false, Nat.reduceLeDiff, Nat.reduceMul, Nat.reduceSub, Nat.le_refl, Int.reduceToNat, Int.reduceLT, Int.reduceLE, Nat.one_mul, Nat.mul_one]
                exact ⟨⟨_, rfl⟩, h5, g3⟩
            · simp only [go_sem, Bool.false_and, new_set, Int.reduceBEq, Int.reduceBNe, Int.reduceNeg, not_true_eq_false, beq_self_eq_true, bne_self_eq_false, Bool.false_eq_true, if_false, if_true, Int.cast_ofNat_Int, decide_true, decide_false, reduceCtorEq, Nat.reduceEqDiff, Nat.reduceAdd, ne_eq, not_false_eq_true, Option.map_some, Option.bind_some, Option.map_none, Option.bind_none, true_and, and_true, Bool.not_true, Bool.not_false, Nat.reduceLeDiff, Nat.reduceMul, Nat.reduceSub, Nat.le_refl, Int.reduceToNat, Int.reduceLT, Int.reduceLE, Nat.one_mul, Nat.mul_one, g]
              exact ⟨⟨_, rfl⟩, no (by simpa using g)⟩
      rintro _ m5 ⟨⟨rest, rfl⟩, h5, hp2⟩
      have hpe := hpe hp2
      have hpl := hpl hp2
      have hpr := hpr hp2
      clear hpd hpiy hpin h4 h3 h2 h1
      have c0 : a' - 1 < S.n := by omega
      have cp : D.pivot < S.n := by omega
      -- the rest, where what is ahead is less
      have rest2 : ∀ (m6 : Mem) (rest : Env), S.Row m6 D.pi.1 → (decide (a' > 0) && !S.lt D.pi.1[a' - 1]! D.pi.1[D.pivot]!) = false → True := fun _ _ _ _ => trivial
      clear rest2
      refine gp_seq_mid (fun e m' => (∃ rest, e = (0, S.sv) :: (1, .int .i64 a') :: (2, .int .i64 b') :: (3, .int .i64 D.lim) :: (4, S.cv) :: (10, .bool wb) :: (11, .bool wp) :: (12, .int .i64 (b' - a' : Nat)) :: (13, .int .i64 D.pivot) :: rest) ∧ S.Row m' D.pi.1 ∧ (decide (a' > 0) && !S.lt D.pi.1[a' - 1]! D.pi.1[D.pivot]!) = false) ?_ ?_
      · simp only [go_sem, Bool.false_and, new_set, Int.reduceBEq, Int.reduceBNe, Int.reduceNeg, not_true_eq_false, beq_self_eq_true, bne_self_eq_false, Bool.false_eq_true, if_false, if_true, Int.cast_ofNat_Int, decide_true, decide_false, reduceCtorEq, Nat.reduceEqDiff, Nat.reduceAdd, ne_eq, not_false_eq_true, Option.map_some, Option.bind_some, Option.map_none, Option.bind_none, true_and, and_true, Bool.not_true, Bool.not_false, Nat.reduceLeDiff, Nat.reduceMul, Nat.reduceSub, Nat.le_refl, Int.reduceToNat, Int.reduceLT, Int.reduceLE, Nat.one_mul, Nat.mul_one]
        refine gT.of (fun g3' => ?_) (fun g3' => ?_) <;> (have g3 := g3'; try simp only [decide_eq_true_eq, decide_eq_false_iff_not, beq_iff_eq, bne_iff_ne, beq_eq_false_iff_ne, ne_eq, Bool.not_eq_true', Bool.not_eq_false', bne_eq_false_iff_eq, Int.not_lt, Int.not_le] at g3)
        · simp only [go_sem, Bool.false_and, new_set, Int.reduceBEq, Int.reduceBNe, Int.reduceNeg, not_true_eq_false, beq_self_eq_true, bne_self_eq_false, Bool.false_eq_true, if_false, if_true, Int.cast_ofNat_Int, decide_true, decide_false, reduceCtorEq, Nat.reduceEqDiff, Nat.reduceAdd, ne_eq, not_false_eq_true, Option.map_some, Option.bind_some, Option.map_none, Option.bind_none, true_and, and_true, Bool.not_true, Bool.not_false, Nat.reduceLeDiff, Nat.reduceMul, Nat.reduceSub, Nat.le_refl, Int.reduceToNat, Int.reduceLT, Int.reduceLE, Nat.one_mul, Nat.mul_one, g3', nsub1 (show 0 < a' by omega) (show a' < 4000000 by omega), S.ix c0, S.ix cp, h5.ld c0, h5.ld cp]
          refine gC.of (S.cmp m5 D.pi.1[a' - 1]! D.pi.1[D.pivot]!) ?_
          rintro _ m6 ⟨rfl, hx6⟩
          simp only [go_sem, Bool.false_and, new_set, Int.reduceBEq, Int.reduceBNe, Int.reduceNeg, not_true_eq_false, beq_self_eq_true, bne_self_eq_false, Bool.false_eq_true, if_false, if_true, Int.cast_ofNat_Int, decide_true, decide_false, reduceCtorEq, Nat.reduceEqDiff, Nat.reduceAdd, ne_eq, not_false_eq_true, Option.map_some, Option.bind_some, Option.map_none, Option.bind_none, true_and, and_true, Bool.not_true, Bool.not_false, Nat.reduceLeDiff, Nat.reduceMul, Nat.reduceSub, Nat.le_refl, Int.reduceToNat, Int.reduceLT, Int.reduceLE, Nat.one_mul, Nat.mul_one]
          have h6 := h5.keep hx6
          refine gT.of (fun g4' => ?_) (fun g4' => ?_) <;> (have g4 := g4'; try simp only [decide_eq_true_eq, decide_eq_false_iff_not, beq_iff_eq, bne_iff_ne, beq_eq_false_iff_ne, ne_eq, Bool.not_eq_true', Bool.not_eq_false', bne_eq_false_iff_eq, Int.not_lt, Int.not_le] at g4)
          · have hcd : (decide (a' > 0) && !S.lt D.pi.1[a' - 1]! D.pi.1[D.pivot]!) = true := by rw [S.lt_f' (by simpa using g4)]; simp; omega
            have rg := parte_rng (lt := S.lt) (d := D.pi.1) (p := D.pivot) hab'
            have hpe := hpe hcd rg
            rw [he] at hpe
            simp only [go_sem, Bool.false_and, new_set, Int.reduceBEq, Int.reduceBNe, Int.reduceNeg, not_true_eq_false, beq_self_eq_true, bne_self_eq_false, Bool.false_eq_true, if_false, if_true, Int.cast_ofNat_Int, decide_true, decide_false, reduceCtorEq, Nat.reduceEqDiff, Nat.reduceAdd, ne_eq, not_false_eq_true, Option.map_some, Option.bind_some, Option.map_none, Option.bind_none, true_and, and_true, Bool.not_true, Bool.not_false, Nat.reduceLeDiff, Nat.reduceMul, Nat.reduceSub, Nat.le_refl, Int.reduceToNat, Int.reduceLT, Int.reduceLE, Nat.one_mul, Nat.mul_one, g4']
            refine gC.of (so_parte h6 hb hpv.1 hpv.2) ?_
            rintro _ m7 ⟨rfl, h7⟩
            simp only [go_sem, Bool.false_and, new_set, Int.reduceBEq, Int.reduceBNe, Int.reduceNeg, not_true_eq_false, beq_self_eq_true, bne_self_eq_false, Bool.false_eq_true, if_false, if_true, Int.cast_ofNat_Int, decide_true, decide_false, reduceCtorEq, Nat.reduceEqDiff, Nat.reduceAdd, ne_eq, not_false_eq_true, Option.map_some, Option.bind_some, Option.map_none, Option.bind_none, true_and, and_true, Bool.not_true, Bool.not_false, Nat.reduceLeDiff, Nat.reduceMul, Nat.reduceSub, Nat.le_refl, Int.reduceToNat, Int.reduceLT, Int.reduceLE, Nat.one_mul, Nat.mul_one]
            exact ⟨b' - (partitionEqual S.lt D.pi.1 a' b' D.pivot).1, by omega, _, b', D.lim, wb, wp, _, rfl, by omega, hb, rg.2, hlx, rfl, h7, hpe.symm⟩
          · simp only [go_sem, Bool.false_and, new_set, Int.reduceBEq, Int.reduceBNe, Int.reduceNeg, not_true_eq_false, beq_self_eq_true, bne_self_eq_false, Bool.false_eq_true, if_false, if_true, Int.cast_ofNat_Int, decide_true, decide_false, reduceCtorEq, Nat.reduceEqDiff, Nat.reduceAdd, ne_eq, not_false_eq_true, Option.map_some, Option.bind_some, Option.map_none, Option.bind_none, true_and, and_true, Bool.not_true, Bool.not_false, Nat.reduceLeDiff, Nat.reduceMul, Nat.reduceSub, Nat.le_refl, Int.reduceToNat, Int.reduceLT, Int.reduceLE, Nat.one_mul, Nat.mul_one, g4']
            refine ⟨⟨_, rfl⟩, h6, ?_⟩
            rw [S.lt_t (by simpa using g4)]; simp
        · simp only [go_sem, Bool.false_and, new_set, Int.reduceBEq, Int.reduceBNe, Int.reduceNeg, not_true_eq_false, beq_self_eq_true, bne_self_eq_false, Bool.false_eq_true, if_false, if_true, Int.cast_ofNat_Int, decide_true, decide_false, reduceCtorEq, Nat.reduceEqDiff, Nat.reduceAdd, ne_eq, not_false_eq_true, Option.map_some, Option.bind_some, Option.map_none, Option.bind_none, true_and, and_true, Bool.not_true, Bool.not_false, Nat.reduceLeDiff, Nat.reduceMul, Nat.reduceSub, Nat.le_refl, Int.reduceToNat, Int.reduceLT, Int.reduceLE, Nat.one_mul, Nat.mul_one, g3']
          refine ⟨⟨_, rfl⟩, h5, ?_⟩
          have : decide (a' > 0) = false := by simp; omega
          rw [this]; rfl
      rintro _ m6 ⟨⟨rest, rfl⟩, h6, hcd⟩
      have rg := part_rng (lt := S.lt) (d := D.pi.1) (p := D.pivot) hab'
      have hpl := hpl hcd rg
      have hpr := hpr hcd rg
      simp only [go_sem, Bool.false_and, new_set, Int.reduceBEq, Int.reduceBNe, Int.reduceNeg, not_true_eq_false, beq_self_eq_true, bne_self_eq_false, Bool.false_eq_true, if_false, if_true, Int.cast_ofNat_Int, decide_true, decide_false, reduceCtorEq, Nat.reduceEqDiff, Nat.reduceAdd, ne_eq, not_false_eq_true, Option.map_some, Option.bind_some, Option.map_none, Option.bind_none, true_and, and_true, Bool.not_true, Bool.not_false, Nat.reduceLeDiff, Nat.reduceMul, Nat.reduceSub, Nat.le_refl, Int.reduceToNat, Int.reduceLT, Int.reduceLE, Nat.one_mul, Nat.mul_one]
      refine gC.of (so_part h6 hb hpv.1 hpv.2) ?_
      rintro _ m7 ⟨rfl, h7⟩
      generalize partition S.lt D.pi.1 a' b' D.pivot = pt at *
      obtain ⟨mid, ap, d4⟩ := pt
      simp only at rg hpl hpr h7
      simp only [go_sem, Bool.false_and, new_set, Int.reduceBEq, Int.reduceBNe, Int.reduceNeg, not_true_eq_false, beq_self_eq_true, bne_self_eq_false, Bool.false_eq_true, if_false, if_true, Int.cast_ofNat_Int, decide_true, decide_false, reduceCtorEq, Nat.reduceEqDiff, Nat.reduceAdd, ne_eq, not_false_eq_true, Option.map_some, Option.bind_some, Option.map_none, Option.bind_none, true_and, and_true, Bool.not_true, Bool.not_false, Nat.reduceLeDiff, Nat.reduceMul, Nat.reduceSub, Nat.le_refl, Int.reduceToNat, Int.reduceLT, Int.reduceLE, Nat.one_mul, Nat.mul_one, aExt0, aExt1, nsub rg.1 (show mid < 4000000 by omega), nsub (show mid ≤ b' by omega) (show b' < 4000000 by omega), nq8 (show b' - a' < 4000000 by omega)]
      refine ⟨by omega, ?_⟩
      refine gT.of (fun g5' => ?_) (fun g5' => ?_) <;> (have g5 := g5'; try simp only [decide_eq_true_eq, decide_eq_false_iff_not, beq_iff_eq, bne_iff_ne, beq_eq_false_iff_ne, ne_eq, Bool.not_eq_true', Bool.not_eq_false', bne_eq_false_iff_eq, Int.not_lt, Int.not_le] at g5)
      · have hpl := hpl (by omega)
        rw [he] at hpl
        simp only [go_sem, Bool.false_and, new_set, Int.reduceBEq, Int.reduceBNe, Int.reduceNeg, not_true_eq_false, beq_self_eq_true, bne_self_eq_false, Bool.false_eq_true, if_false, if_true, Int.cast_ofNat_Int, decide_true, decide_false, reduceCtorEq, Nat.reduceEqDiff, Nat.reduceAdd, ne_eq, not_false_eq_true, Option.map_some, Option.bind_some, Option.map_none, Option.bind_none, true_and, and_true, Bool.not_true, Bool.not_false, Nat.reduceLeDiff, Nat.reduceMul, Nat.reduceSub, Nat.le_refl, Int.reduceToNat, Int.reduceLT, Int.reduceLE, Nat.one_mul, Nat.mul_one, g5']
        refine gC.of (ih (mid - a') (by omega) m7 d4 a' mid D.lim (Nat.le_refl _) h7 (by omega) (by omega) hlx) ?_
        rintro _ m8 h8
        simp only [go_sem, Bool.false_and, new_set, Int.reduceBEq, Int.reduceBNe, Int.reduceNeg, not_true_eq_false, beq_self_eq_true, bne_self_eq_false, Bool.false_eq_true, if_false, if_true, Int.cast_ofNat_Int, decide_true, decide_false, reduceCtorEq, Nat.reduceEqDiff, Nat.reduceAdd, ne_eq, not_false_eq_true, Option.map_some, Option.bind_some, Option.map_none, Option.bind_none, true_and, and_true, Bool.not_true, Bool.not_false, Nat.reduceLeDiff, Nat.reduceMul, Nat.reduceSub, Nat.le_refl, Int.reduceToNat, Int.reduceLT, Int.reduceLE, Nat.one_mul, Nat.mul_one, nadd1 (show mid < 4000000 by omega)]
        refine ⟨b' - (mid + 1), by omega, mid + 1, b', D.lim, _, _, _, rfl, by omega, hb, by omega, hlx, rfl, h8, ?_⟩
        rw [hpl]
        congr 1
        rw [decide_eq_decide]; omega
      · have hpr := hpr (by omega)
        rw [he] at hpr
        simp only [go_sem, Bool.false_and, new_set, Int.reduceBEq, Int.reduceBNe, Int.reduceNeg, not_true_eq_false, beq_self_eq_true, bne_self_eq_false, Bool.false_eq_true, if_false, if_true, Int.cast_ofNat_Int, decide_true, decide_false, reduceCtorEq, Nat.reduceEqDiff, Nat.reduceAdd, ne_eq, not_false_eq_true, Option.map_some, Option.bind_some, Option.map_none, Option.bind_none, true_and, and_true, Bool.not_true, Bool.not_false, Nat.reduceLeDiff, Nat.reduceMul, Nat.reduceSub, Nat.le_refl, Int.reduceToNat, Int.reduceLT, Int.reduceLE, Nat.one_mul, Nat.mul_one, g5', nadd1 (show mid < 4000000 by omega)]
        refine gC.of (ih (b' - (mid + 1)) (by omega) m7 d4 (mid + 1) b' D.lim (Nat.le_refl _) h7 hb (by omega) hlx) ?_
        rintro _ m8 h8
        simp only [go_sem, Bool.false_and, new_set, Int.reduceBEq, Int.reduceBNe, Int.reduceNeg, not_true_eq_false, beq_self_eq_true, bne_self_eq_false, Bool.false_eq_true, if_false, if_true, Int.cast_ofNat_Int, decide_true, decide_false, reduceCtorEq, Nat.reduceEqDiff, Nat.reduceAdd, ne_eq, not_false_eq_true, Option.map_some, Option.bind_some, Option.map_none, Option.bind_none, true_and, and_true, Bool.not_true, Bool.not_false, Nat.reduceLeDiff, Nat.reduceMul, Nat.reduceSub, Nat.le_refl, Int.reduceToNat, Int.reduceLT, Int.reduceLE, Nat.one_mul, Nat.mul_one]
        refine ⟨mid - a', by omega, a', mid, D.lim, _, _, _, rfl, by omega, by omega, by omega, hlx, rfl, h8, ?_⟩
        rw [hpr]
        congr 1
        rw [decide_eq_decide]; omega

theorem so_sort (h : S.Row m d) (hO : SWO S.lt) : WC R F.slices_SortFunc_local_entry_local_entry [S.sv, S.cv] m fun r m' => ∃ d', S.Row m' d' ∧ PermIn 0 d.size d d' ∧ SortedIn S.lt 0 d.size d' := by
  refine WC.of R.slices_SortFunc_local_entry_local_entry rfl ?_
  have hn := S.small
  have hlen : aLen S.sv = some (.int .i64 S.n) := rfl
  have e : (BitVec.ofInt 64 ((S.n : Nat) : Int)).toNat = S.n := by rw [BitVec.ofInt_natCast, BitVec.toNat_ofNat, Nat.mod_eq_of_lt (by omega)]
  simp only [RC.slices_SortFunc_local_entry_local_entry, go_sem, Bool.false_and, new_set, Int.reduceBEq, Int.reduceBNe, Int.reduceNeg, not_true_eq_false, beq_self_eq_true, bne_self_eq_false, Bool.false_eq_true, if_false, if_true, Int.cast_ofNat_Int, decide_true, decide_false, reduceCtorEq, Nat.reduceEqDiff, Nat.reduceAdd, ne_eq, not_false_eq_true, Option.map_some, Option.bind_some, Option.map_none, Option.bind_none, true_and, and_true, Bool.not_true, Bool.not_false, Nat.reduceLeDiff, Nat.reduceMul, Nat.reduceSub, Nat.le_refl, Int.reduceToNat, Int.reduceLT, Int.reduceLE, Nat.one_mul, Nat.mul_one, hlen]
  refine gC.of (so_len (x := BitVec.ofInt 64 ((S.n : Nat) : Int)) (by omega)) ?_
  rintro _ _ ⟨rfl, hm⟩
  subst hm
  rw [e]
  have hbl : bitsLen S.n ≤ 20 := (bitsLen_le_iff _ _).2 (by omega)
  simp only [go_sem, Bool.false_and, new_set, Int.reduceBEq, Int.reduceBNe, Int.reduceNeg, not_true_eq_false, beq_self_eq_true, bne_self_eq_false, Bool.false_eq_true, if_false, if_true, Int.cast_ofNat_Int, decide_true, decide_false, reduceCtorEq, Nat.reduceEqDiff, Nat.reduceAdd, ne_eq, not_false_eq_true, Option.map_some, Option.bind_some, Option.map_none, Option.bind_none, true_and, and_true, Bool.not_true, Bool.not_false, Nat.reduceLeDiff, Nat.reduceMul, Nat.reduceSub, Nat.le_refl, Int.reduceToNat, Int.reduceLT, Int.reduceLE, Nat.one_mul, Nat.mul_one]
  refine gC.of (so_pdq S.n _ d 0 S.n (bitsLen S.n) (by omega) h (Nat.le_refl _) (Nat.zero_le _) (by omega)) ?_
  rintro _ m2 h2
  simp only [go_sem, Bool.false_and, new_set, Int.reduceBEq, Int.reduceBNe, Int.reduceNeg, not_true_eq_false, beq_self_eq_true, bne_self_eq_false, Bool.false_eq_true, if_false, if_true, Int.cast_ofNat_Int, decide_true, decide_false, reduceCtorEq, Nat.reduceEqDiff, Nat.reduceAdd, ne_eq, not_false_eq_true, Option.map_some, Option.bind_some, Option.map_none, Option.bind_none, true_and, and_true, Bool.not_true, Bool.not_false, Nat.reduceLeDiff, Nat.reduceMul, Nat.reduceSub, Nat.le_refl, Int.reduceToNat, Int.reduceLT, Int.reduceLE, Nat.one_mul, Nat.mul_one]
  have := pdq_sorts S.lt hO d 0 S.n (bitsLen S.n) true true (Nat.zero_le _) (by rw [h.size]; exact Nat.le_refl _) (.inl rfl)
  rw [h.size]
  exact ⟨_, h2, this⟩
end Go.Am


/- The sort of a slice of one's own, of local_entry (Local). Printed out of SortT7.tmpl by sortgen.py. -/
set_option linter.unusedVariables false
set_option linter.unusedSimpArgs false
namespace Go.Am
open Go.Sort
variable {α : Type} [Inhabited α]

theorem so_insNil {m : Mem} {v fv : Value} : WC R F.slices_insertionSortCmpFunc_local_entry [v, .int .i64 0, .int .i64 0, fv] m fun r m' => m' = m := by
  refine WC.of R.slices_insertionSortCmpFunc_local_entry rfl ?_
  have w : IntKind.wrap .i64 (0 + 1) = 1 := rfl
  simp only [RC.slices_insertionSortCmpFunc_local_entry, go_sem, Bool.false_and, new_set, Int.reduceBEq, Int.reduceBNe, Int.reduceNeg, not_true_eq_false, beq_self_eq_true, bne_self_eq_false, Bool.false_eq_true, if_false, if_true, Int.cast_ofNat_Int, decide_true, decide_false, reduceCtorEq, Nat.reduceEqDiff, Nat.reduceAdd, ne_eq, not_false_eq_true, Option.map_some, Option.bind_some, Option.map_none, Option.bind_none, true_and, and_true, Bool.not_true, Bool.not_false, Nat.reduceLeDiff, Nat.reduceMul, Nat.reduceSub, Nat.le_refl, Int.reduceToNat, Int.reduceLT, Int.reduceLE, Nat.one_mul, Nat.mul_one, w]
  refine WL.of (fun r e m' => m' = m ∧ e = [(0, v), (1, .int .i64 0), (2, .int .i64 0), (3, fv), (8, .int .i64 1)]) 0 ⟨rfl, by simp only [go_sem, Bool.false_and, new_set, Int.reduceBEq, Int.reduceBNe, Int.reduceNeg, not_true_eq_false, beq_self_eq_true, bne_self_eq_false, Bool.false_eq_true, if_false, if_true, Int.cast_ofNat_Int, decide_true, decide_false, reduceCtorEq, Nat.reduceEqDiff, Nat.reduceAdd, ne_eq, not_false_eq_true, Option.map_some, Option.bind_some, Option.map_none, Option.bind_none, true_and, and_true, Bool.not_true, Bool.not_false, Nat.reduceLeDiff, Nat.reduceMul, Nat.reduceSub, Nat.le_refl, Int.reduceToNat, Int.reduceLT, Int.reduceLE, Nat.one_mul, Nat.mul_one] <;> rfl⟩ ?_
  rintro _ _ _ ⟨rfl, rfl⟩
  have e0 : decide ((1 : Int) < 0) = false := rfl
  simp only [RB.slices_insertionSortCmpFunc_local_entry_2, go_sem, Bool.false_and, new_set, Int.reduceBEq, Int.reduceBNe, Int.reduceNeg, not_true_eq_false, beq_self_eq_true, bne_self_eq_false, Bool.false_eq_true, if_false, if_true, Int.cast_ofNat_Int, decide_true, decide_false, reduceCtorEq, Nat.reduceEqDiff, Nat.reduceAdd, ne_eq, not_false_eq_true, Option.map_some, Option.bind_some, Option.map_none, Option.bind_none, true_and, and_true, Bool.not_true, Bool.not_false, Nat.reduceLeDiff, Nat.reduceMul, Nat.reduceSub, Nat.le_refl, Int.reduceToNat, Int.reduceLT, Int.reduceLE, Nat.one_mul, Nat.mul_one, e0]

theorem so_pdqNil {m : Mem} {v fv : Value} {lim : Nat} : WC R F.slices_pdqsortCmpFunc_local_entry [v, .int .i64 0, .int .i64 0, .int .i64 lim, fv] m fun r m' => m' = m := by
  refine WC.of R.slices_pdqsortCmpFunc_local_entry rfl ?_
  simp only [RC.slices_pdqsortCmpFunc_local_entry, go_sem, Bool.false_and, new_set, Int.reduceBEq, Int.reduceBNe, Int.reduceNeg, not_true_eq_false, beq_self_eq_true, bne_self_eq_false, Bool.false_eq_true, if_false, if_true, Int.cast_ofNat_Int, decide_true, decide_false, reduceCtorEq, Nat.reduceEqDiff, Nat.reduceAdd, ne_eq, not_false_eq_true, Option.map_some, Option.bind_some, Option.map_none, Option.bind_none, true_and, and_true, Bool.not_true, Bool.not_false, Nat.reduceLeDiff, Nat.reduceMul, Nat.reduceSub, Nat.le_refl, Int.reduceToNat, Int.reduceLT, Int.reduceLE, Nat.one_mul, Nat.mul_one]
  refine WL.of (fun r e m' => m' = m ∧ e = [(0, v), (1, .int .i64 0), (2, .int .i64 0), (3, .int .i64 lim), (4, fv), (10, .bool true), (11, .bool true)]) 0 ⟨rfl, by simp only [go_sem, Bool.false_and, new_set, Int.reduceBEq, Int.reduceBNe, Int.reduceNeg, not_true_eq_false, beq_self_eq_true, bne_self_eq_false, Bool.false_eq_true, if_false, if_true, Int.cast_ofNat_Int, decide_true, decide_false, reduceCtorEq, Nat.reduceEqDiff, Nat.reduceAdd, ne_eq, not_false_eq_true, Option.map_some, Option.bind_some, Option.map_none, Option.bind_none, true_and, and_true, Bool.not_true, Bool.not_false, Nat.reduceLeDiff, Nat.reduceMul, Nat.reduceSub, Nat.le_refl, Int.reduceToNat, Int.reduceLT, Int.reduceLE, Nat.one_mul, Nat.mul_one] <;> rfl⟩ ?_
  rintro _ _ _ ⟨rfl, rfl⟩
  have w : IntKind.wrap .i64 (0 - 0) = 0 := rfl
  have e0 : decide ((0 : Int) ≤ 12) = true := rfl
  simp only [RB.slices_pdqsortCmpFunc_local_entry_1, go_sem, Bool.false_and, new_set, Int.reduceBEq, Int.reduceBNe, Int.reduceNeg, not_true_eq_false, beq_self_eq_true, bne_self_eq_false, Bool.false_eq_true, if_false, if_true, Int.cast_ofNat_Int, decide_true, decide_false, reduceCtorEq, Nat.reduceEqDiff, Nat.reduceAdd, ne_eq, not_false_eq_true, Option.map_some, Option.bind_some, Option.map_none, Option.bind_none, true_and, and_true, Bool.not_true, Bool.not_false, Nat.reduceLeDiff, Nat.reduceMul, Nat.reduceSub, Nat.le_refl, Int.reduceToNat, Int.reduceLT, Int.reduceLE, Nat.one_mul, Nat.mul_one, w, e0]
  refine gC.of so_insNil ?_
  rintro _ m1 rfl
  simp only [go_sem, Bool.false_and, new_set, Int.reduceBEq, Int.reduceBNe, Int.reduceNeg, not_true_eq_false, beq_self_eq_true, bne_self_eq_false, Bool.false_eq_true, if_false, if_true, Int.cast_ofNat_Int, decide_true, decide_false, reduceCtorEq, Nat.reduceEqDiff, Nat.reduceAdd, ne_eq, not_false_eq_true, Option.map_some, Option.bind_some, Option.map_none, Option.bind_none, true_and, and_true, Bool.not_true, Bool.not_false, Nat.reduceLeDiff, Nat.reduceMul, Nat.reduceSub, Nat.le_refl, Int.reduceToNat, Int.reduceLT, Int.reduceLE, Nat.one_mul, Nat.mul_one]

theorem so_sortNil {m : Mem} {fv : Value} : WC R F.slices_SortFunc_local_entry_local_entry [.slice none 0 0, fv] m fun r m' => m' = m := by
  refine WC.of R.slices_SortFunc_local_entry_local_entry rfl ?_
  have hlen : aLen (.slice none 0 0) = some (.int .i64 0) := rfl
  simp only [RC.slices_SortFunc_local_entry_local_entry, go_sem, Bool.false_and, new_set, Int.reduceBEq, Int.reduceBNe, Int.reduceNeg, not_true_eq_false, beq_self_eq_true, bne_self_eq_false, Bool.false_eq_true, if_false, if_true, Int.cast_ofNat_Int, decide_true, decide_false, reduceCtorEq, Nat.reduceEqDiff, Nat.reduceAdd, ne_eq, not_false_eq_true, Option.map_some, Option.bind_some, Option.map_none, Option.bind_none, true_and, and_true, Bool.not_true, Bool.not_false, Nat.reduceLeDiff, Nat.reduceMul, Nat.reduceSub, Nat.le_refl, Int.reduceToNat, Int.reduceLT, Int.reduceLE, Nat.one_mul, Nat.mul_one, hlen]
  refine gC.of (so_len (x := BitVec.ofInt 64 0) (by decide)) ?_
  rintro _ _ ⟨rfl, hm⟩
  subst hm
  simp only [go_sem, Bool.false_and, new_set, Int.reduceBEq, Int.reduceBNe, Int.reduceNeg, not_true_eq_false, beq_self_eq_true, bne_self_eq_false, Bool.false_eq_true, if_false, if_true, Int.cast_ofNat_Int, decide_true, decide_false, reduceCtorEq, Nat.reduceEqDiff, Nat.reduceAdd, ne_eq, not_false_eq_true, Option.map_some, Option.bind_some, Option.map_none, Option.bind_none, true_and, and_true, Bool.not_true, Bool.not_false, Nat.reduceLeDiff, Nat.reduceMul, Nat.reduceSub, Nat.le_refl, Int.reduceToNat, Int.reduceLT, Int.reduceLE, Nat.one_mul, Nat.mul_one]
  refine gC.of so_pdqNil ?_
  rintro _ m1 rfl
  simp only [go_sem, Bool.false_and, new_set, Int.reduceBEq, Int.reduceBNe, Int.reduceNeg, not_true_eq_false, beq_self_eq_true, bne_self_eq_false, Bool.false_eq_true, if_false, if_true, Int.cast_ofNat_Int, decide_true, decide_false, reduceCtorEq, Nat.reduceEqDiff, Nat.reduceAdd, ne_eq, not_false_eq_true, Option.map_some, Option.bind_some, Option.map_none, Option.bind_none, true_and, and_true, Bool.not_true, Bool.not_false, Nat.reduceLeDiff, Nat.reduceMul, Nat.reduceSub, Nat.le_refl, Int.reduceToNat, Int.reduceLT, Int.reduceLE, Nat.one_mul, Nat.mul_one]

/-- One's own row, sorted. -/
theorem so_own {m0 m : Mem} {l : List α} {f : α → List Value} {v : Value} {cf : α → α → Int} {g : Nat} (hf : ∀ a, (f a).length = 3) (h1 : ∀ a, oneCells (f a) = true)
    (hcmp : ∀ (m : Mem) (x y : α), WC R g [.agg (f x).toArray, .agg (f y).toArray] m fun r m' => r = .int .i64 (cf x y) ∧ Ext m m')
    (hO : SWO fun x y => decide (cf x y < 0)) (ho : Own m0 m 3 l.length (l.flatMap f) v) (hx0 : Ext m0 m) (hl : l.length < 1000000) :
    WC R F.slices_SortFunc_local_entry_local_entry [v, .func (.func g) #[] #[]] m fun r m' => ∃ l' : List α, l'.Perm l ∧ l'.Pairwise (fun x y => ¬ cf y x < 0) ∧ Own m0 m' 3 l'.length (l'.flatMap f) v ∧ Ext m0 m' ∧ Upd m m' (vb v) := by
  cases ho with
  | nil h hc =>
    have e := List.eq_nil_of_length_eq_zero h
    subst e
    refine WC.mono so_sortNil ?_
    rintro _ m1 rfl
    exact ⟨[], .nil, .nil, .nil rfl rfl, hx0, Upd.refl _ _⟩
  | @«at» b c all hb hb2 hnc hm hal hcs hone =>
    let S : SortC R α 3 := ⟨f, hf, h1, cf, g, hcmp, b, 0, l.length, c, [], all.drop (l.length * 3), rfl, m, hl⟩
    have hrow : S.Row m l.toArray := ⟨by show m.blk b = _; rw [hm, ← hcs]; show _ = some (AObj.cells ([] ++ all.take (l.length * 3) ++ all.drop (l.length * 3)) _); rw [List.nil_append, List.take_append_drop], hb2, by simp [S], Upd.refl _ _⟩
    refine WC.mono (so_sort (S := S) hrow hO) ?_
    rintro _ m1 ⟨d', hr, ⟨hsz, -, hp⟩, hs⟩
    have hp : d'.toList.Perm l := by
      have e : d'.extract 0 l.toArray.size = d' := by rw [← hsz]; exact Array.extract_size
      rw [e, Array.extract_size] at hp
      exact hp
    have hlen : d'.toList.length = l.length := hp.length_eq
    have hu : Upd m m1 [b] := hr.upd
    refine ⟨d'.toList, hp, ?_, ?_, hu.ext_of hx0 (by simpa using hb), hu⟩
    · rw [List.pairwise_iff_getElem]
      intro i j hi hj hij
      have := hs i j (Nat.zero_le _) hij (by simpa [← hlen] using hj)
      rw [getElem!_pos d' j (by simpa using hj), getElem!_pos d' i (by simpa using hi)] at this
      have := of_decide_eq_false this
      simpa using this
    · rw [hlen]
      have hfl : (d'.toList.flatMap f).length = l.length * 3 := by rw [flat_len hf, hlen]
      refine .at (all := d'.toList.flatMap f ++ all.drop (l.length * 3)) hb hr.lt hnc hr.at_ ?_ ?_ ?_
      · have e1 : l.length * 3 ≤ c * 3 := Nat.mul_le_mul_right _ hnc
        rw [List.length_append, hfl, List.length_drop, hal]; omega
      · rw [List.take_left' hfl]
      · unfold oneCells
        rw [List.all_eq_true]
        intro x hx
        obtain ⟨y, _, hy⟩ := List.mem_flatMap.1 hx
        have := h1 y
        unfold oneCells at this
        exact List.all_eq_true.1 this x hy
end Go.Am


/- Rows of spans, with no program in sight: what is in one; that a right row is told by what is in it; how many numbers there are. -/
set_option linter.unusedVariables false
set_option linter.unusedSimpArgs false
namespace Go.Am

abbrev Sp := Int × Int
instance : Inhabited Sp := ⟨(0, 0)⟩
def spV (s : Sp) : List Value := [.int .i64 s.1, .int .i64 s.2]
theorem spV_len (s : Sp) : (spV s).length = 2 := rfl
theorem spV_one (s : Sp) : oneCells (spV s) = true := rfl
theorem spV_flat (l : List Sp) : oneCells (l.flatMap spV) = true := by
  unfold oneCells
  rw [List.all_eq_true]
  intro x hx
  obtain ⟨y, _, hy⟩ := List.mem_flatMap.1 hx
  have := spV_one y
  unfold oneCells at this
  exact List.all_eq_true.1 this x hy

def InS (l : List Sp) (x : Int) : Prop := ∃ s ∈ l, s.1 ≤ x ∧ x < s.2
def hasS (l : List Sp) (x : Int) : Bool := l.any fun s => decide (s.1 ≤ x) && decide (x < s.2)
theorem hasS_iff {l : List Sp} {x : Int} : hasS l x = true ↔ InS l x := by
  simp only [hasS, InS, List.any_eq_true, Bool.and_eq_true, decide_eq_true_eq]
theorem hasS_eq {l l' : List Sp} {x y : Int} (h : InS l x ↔ InS l' y) : hasS l x = hasS l' y := by
  rw [Bool.eq_iff_iff, hasS_iff, hasS_iff]; exact h
theorem InS.nil {x : Int} : ¬ InS [] x := by rintro ⟨s, h, _⟩; simp at h
theorem InS.cons {s : Sp} {l : List Sp} {x : Int} : InS (s :: l) x ↔ (s.1 ≤ x ∧ x < s.2) ∨ InS l x := by
  unfold InS; simp
theorem InS.append {a b : List Sp} {x : Int} : InS (a ++ b) x ↔ InS a x ∨ InS b x := by
  unfold InS
  constructor
  · rintro ⟨s, h, h1⟩
    rcases List.mem_append.1 h with h | h
    · exact .inl ⟨s, h, h1⟩
    · exact .inr ⟨s, h, h1⟩
  · rintro (⟨s, h, h1⟩ | ⟨s, h, h1⟩)
    · exact ⟨s, List.mem_append.2 (.inl h), h1⟩
    · exact ⟨s, List.mem_append.2 (.inr h), h1⟩
theorem InS.single {s : Sp} {x : Int} : InS [s] x ↔ s.1 ≤ x ∧ x < s.2 := by
  unfold InS; simp
theorem InS.snoc {a : List Sp} {s : Sp} {x : Int} : InS (a ++ [s]) x ↔ InS a x ∨ (s.1 ≤ x ∧ x < s.2) := by
  rw [InS.append, InS.single]

/-- A row that is right: none is empty, and there is a number between any two. -/
def Rt (l : List Sp) : Prop := (∀ s ∈ l, s.1 < s.2) ∧ l.Pairwise fun s t => s.2 < t.1
theorem Rt.nil : Rt [] := ⟨by simp, .nil⟩
theorem Rt.cons {s : Sp} {l : List Sp} : Rt (s :: l) ↔ s.1 < s.2 ∧ (∀ t ∈ l, s.2 < t.1) ∧ Rt l := by
  unfold Rt
  rw [List.pairwise_cons]
  constructor
  · rintro ⟨h1, h2, h3⟩
    exact ⟨h1 s (by simp), h2, fun t ht => h1 t (by simp [ht]), h3⟩
  · rintro ⟨h1, h2, h3, h4⟩
    refine ⟨fun t ht => ?_, h2, h4⟩
    rcases List.mem_cons.1 ht with rfl | h
    · exact h1
    · exact h3 t h
theorem Rt.snoc {s : Sp} {l : List Sp} : Rt (l ++ [s]) ↔ Rt l ∧ s.1 < s.2 ∧ ∀ t ∈ l, t.2 < s.1 := by
  unfold Rt
  rw [List.pairwise_append]
  constructor
  · rintro ⟨h1, h2, -, h3⟩
    exact ⟨⟨fun t ht => h1 t (by simp [ht]), h2⟩, h1 s (by simp), fun t ht => h3 t ht s (by simp)⟩
  · rintro ⟨⟨h1, h2⟩, h3, h4⟩
    refine ⟨fun t ht => ?_, h2, List.pairwise_singleton _ _, fun t ht u hu => ?_⟩
    · rcases List.mem_append.1 ht with h | h
      · exact h1 t h
      · rw [List.mem_singleton.1 h]; exact h3
    · rw [List.mem_singleton.1 hu]; exact h4 t ht

/-- A right row is told by what is in it. -/
theorem Rt.eq : ∀ {a b : List Sp}, Rt a → Rt b → (∀ x, InS a x ↔ InS b x) → a = b
  | [], [], _, _, _ => rfl
  | [], t :: b, _, hb, h => by
    have := (h t.1).2 (InS.cons.2 (.inl ⟨Int.le_refl _, (Rt.cons.1 hb).1⟩))
    exact absurd this InS.nil
  | s :: a, [], ha, _, h => by
    have := (h s.1).1 (InS.cons.2 (.inl ⟨Int.le_refl _, (Rt.cons.1 ha).1⟩))
    exact absurd this InS.nil
  | s :: a, t :: b, ha, hb, h => by
    obtain ⟨a1, a2, a3⟩ := Rt.cons.1 ha
    obtain ⟨b1, b2, b3⟩ := Rt.cons.1 hb
    have ga : ∀ x, InS a x → s.2 < x := by rintro x ⟨u, hu, h1, _⟩; have := a2 u hu; omega
    have gb : ∀ x, InS b x → t.2 < x := by rintro x ⟨u, hu, h1, _⟩; have := b2 u hu; omega
    have k : ∀ x, ((s.1 ≤ x ∧ x < s.2) ∨ InS a x) ↔ ((t.1 ≤ x ∧ x < t.2) ∨ InS b x) := fun x => by rw [← InS.cons, ← InS.cons]; exact h x
    have e1 : s.1 = t.1 := by
      have h1 : t.1 ≤ s.1 := by
        rcases (k s.1).1 (.inl ⟨Int.le_refl _, a1⟩) with h | h
        · exact h.1
        · have := gb _ h; omega
      have h2 : s.1 ≤ t.1 := by
        rcases (k t.1).2 (.inl ⟨Int.le_refl _, b1⟩) with h | h
        · exact h.1
        · have := ga _ h; omega
      omega
    have e2 : s.2 = t.2 := by
      have h1 : ¬ s.2 < t.2 := fun hlt => by
        rcases (k s.2).2 (.inl ⟨by omega, hlt⟩) with h | h
        · omega
        · have := ga _ h; omega
      have h2 : ¬ t.2 < s.2 := fun hlt => by
        rcases (k t.2).1 (.inl ⟨by omega, hlt⟩) with h | h
        · omega
        · have := gb _ h; omega
      omega
    have e : s = t := Prod.ext e1 e2
    subst e
    congr 1
    refine Rt.eq a3 b3 fun x => ?_
    have kx := k x
    constructor
    · intro hx
      have := ga x hx
      rcases kx.1 (.inr hx) with h | h
      · omega
      · exact h
    · intro hx
      have := gb x hx
      rcases kx.2 (.inr hx) with h | h
      · omega
      · exact h

theorem Rt.none {a : List Sp} (h : Rt a) (hn : ∀ x, ¬ InS a x) : a = [] :=
  Rt.eq h Rt.nil fun x => ⟨fun hx => absurd hx (hn x), fun hx => absurd hx InS.nil⟩

/-! ### Steps -/
theorem Rt.put {r : List Sp} {s : Sp} (h : Rt r) (h1 : s.1 < s.2) (h2 : ∀ t ∈ r, t.2 < s.1) : Rt (r ++ [s]) := Rt.snoc.2 ⟨h, h1, h2⟩
/-- The last one goes on. -/
theorem Rt.more {r : List Sp} {t : Sp} {e : Int} (h : Rt (r ++ [t])) (h1 : t.2 ≤ e) : Rt (r ++ [(t.1, e)]) := by
  obtain ⟨h2, h3, h4⟩ := Rt.snoc.1 h
  exact Rt.snoc.2 ⟨h2, by show t.1 < e; omega, h4⟩
theorem Rt.last {r : List Sp} {t : Sp} (h : Rt (r ++ [t])) {u : Sp} (hu : u ∈ r ++ [t]) : u.2 ≤ t.2 := by
  obtain ⟨h2, h3, h4⟩ := Rt.snoc.1 h
  rcases List.mem_append.1 hu with h | h
  · have := h4 u h; omega
  · rw [List.mem_singleton.1 h]; omega

/-! ### How many -/
def sumS (l : List Sp) : Int := (l.map fun s => s.2 - s.1).foldr (· + ·) 0
theorem sumS_cons {s : Sp} {l : List Sp} : sumS (s :: l) = (s.2 - s.1) + sumS l := rfl

def cnt (p : Int → Bool) (lo : Int) (n : Nat) : Int := ((List.range n).countP fun (i : Nat) => p (lo + i))
theorem cnt_succ {p : Int → Bool} {lo : Int} {n : Nat} : cnt p lo (n + 1) = cnt p lo n + (if p (lo + n) then 1 else 0) := by
  unfold cnt
  rw [List.range_succ, List.countP_append]
  simp only [List.countP_cons, List.countP_nil]
  split <;> simp
theorem cnt_or {p q : Int → Bool} {lo : Int} (h : ∀ x, ¬ (p x = true ∧ q x = true)) : ∀ {n : Nat}, cnt (fun x => p x || q x) lo n = cnt p lo n + cnt q lo n
  | 0 => rfl
  | n + 1 => by
    rw [cnt_succ, cnt_succ, cnt_succ, cnt_or h]
    have := h (lo + n)
    cases hp : p (lo + n) <;> cases hq : q (lo + n) <;> simp [hp, hq] at this ⊢ <;> omega
theorem cnt_congr {p q : Int → Bool} {lo : Int} {n : Nat} (h : ∀ x, p x = q x) : cnt p lo n = cnt q lo n := by
  have : p = q := funext h
  rw [this]
theorem cnt_none {lo : Int} : ∀ {n : Nat}, cnt (fun _ => false) lo n = 0
  | 0 => rfl
  | n + 1 => by rw [cnt_succ, cnt_none]; rfl
theorem cnt_span {a b lo : Int} (h1 : lo ≤ a) (h2 : a ≤ b) : ∀ {n : Nat}, b ≤ lo + n → cnt (fun x => decide (a ≤ x) && decide (x < b)) lo n = b - a := by
  have key : ∀ n : Nat, cnt (fun x => decide (a ≤ x) && decide (x < b)) lo n = (if lo + n ≤ a then 0 else if lo + n ≤ b then lo + n - a else b - a) := by
    intro n
    induction n with
    | zero =>
      show (0 : Int) = _
      rw [if_pos (by omega)]
    | succ n ih =>
      rw [cnt_succ, ih]
      by_cases c1 : a ≤ lo + n
      · by_cases c2 : lo + n < b
        · simp only [c1, c2, decide_true, Bool.and_self, if_true]
          rw [if_neg (show ¬ lo + ((n + 1 : Nat) : Int) ≤ a by omega), if_pos (show lo + ((n + 1 : Nat) : Int) ≤ b by omega)]
          by_cases c3 : lo + (n : Int) ≤ a
          · rw [if_pos c3]; omega
          · rw [if_neg c3, if_pos (by omega)]; omega
        · simp only [c1, c2, decide_true, decide_false, Bool.and_false, Bool.false_eq_true, if_false]
          rw [if_neg (show ¬ lo + ((n + 1 : Nat) : Int) ≤ a by omega), if_neg (show ¬ lo + ((n + 1 : Nat) : Int) ≤ b by omega)]
          by_cases c3 : lo + (n : Int) ≤ a
          · rw [if_pos c3]; omega
          · rw [if_neg c3]
            by_cases c4 : lo + (n : Int) ≤ b
            · rw [if_pos c4]; omega
            · rw [if_neg c4]; omega
      · simp only [c1, decide_false, Bool.false_and, Bool.false_eq_true, if_false]
        rw [if_pos (show lo + (n : Int) ≤ a by omega), if_pos (show lo + ((n + 1 : Nat) : Int) ≤ a by omega)]
        omega
  intro n h
  rw [key]
  by_cases c : lo + (n : Int) ≤ a
  · rw [if_pos c]; omega
  · rw [if_neg c]
    by_cases c2 : lo + (n : Int) ≤ b
    · rw [if_pos c2]; omega
    · rw [if_neg c2]

theorem Rt.cnt {lo : Int} {n : Nat} : ∀ {l : List Sp}, Rt l → (∀ s ∈ l, lo ≤ s.1 ∧ s.2 ≤ lo + n) → cnt (hasS l) lo n = sumS l
  | [], _, _ => by
    rw [show sumS [] = 0 from rfl, ← cnt_none (lo := lo) (n := n)]
    exact cnt_congr fun x => rfl
  | s :: l, h, hb => by
    obtain ⟨h1, h2, h3⟩ := Rt.cons.1 h
    have hs := hb s (by simp)
    rw [sumS_cons, ← Rt.cnt h3 (fun t ht => hb t (by simp [ht])), ← cnt_span hs.1 (by omega) hs.2, ← cnt_or]
    · exact cnt_congr fun x => by unfold hasS; rw [List.any_cons]
    · rintro x ⟨h4, h5⟩
      simp only [Bool.and_eq_true, decide_eq_true_eq] at h4
      obtain ⟨t, ht, h6, h7⟩ := hasS_iff.1 h5
      have := h2 t ht
      omega

theorem bounds : ∀ (l : List Sp), ∃ lo : Int, ∃ n : Nat, ∀ s ∈ l, lo ≤ s.1 ∧ s.2 ≤ lo + n
  | [] => ⟨0, 0, by simp⟩
  | s :: l => by
    obtain ⟨lo, n, h⟩ := bounds l
    refine ⟨min lo s.1, (max (lo + n) s.2 - min lo s.1).toNat, fun t ht => ?_⟩
    rcases List.mem_cons.1 ht with rfl | ht
    · omega
    · have := h t ht; omega

/-- Two rows with nothing in common: as many as both. -/
theorem Rt.sum {a b c : List Sp} (ha : Rt a) (hb : Rt b) (hc : Rt c) (h : ∀ x, InS c x ↔ InS a x ∨ InS b x) (hd : ∀ x, ¬ (InS a x ∧ InS b x)) : sumS a + sumS b = sumS c := by
  obtain ⟨lo, n, hx⟩ := bounds (a ++ (b ++ c))
  rw [← ha.cnt (lo := lo) (n := n) (fun s hs => hx s (by simp [hs])), ← hb.cnt (lo := lo) (n := n) (fun s hs => hx s (by simp [hs])), ← hc.cnt (lo := lo) (n := n) (fun s hs => hx s (by simp [hs])), ← cnt_or]
  · refine (cnt_congr fun x => ?_).symm
    rw [Bool.eq_iff_iff, Bool.or_eq_true, hasS_iff, hasS_iff, hasS_iff]; exact h x
  · rintro x ⟨h1, h2⟩
    exact hd x ⟨hasS_iff.1 h1, hasS_iff.1 h2⟩

/-- As the program adds it up. -/
def sumB (l : List Sp) : BitVec 64 := BitVec.ofInt 64 (sumS l)
def stepB (n : BitVec 64) (s : Sp) : BitVec 64 := n + (BitVec.ofInt 64 s.2 - BitVec.ofInt 64 s.1)
theorem foldB : ∀ (l : List Sp) (n : BitVec 64), l.foldl stepB n = n + sumB l
  | [], n => by show n = n + BitVec.ofInt 64 0; simp
  | s :: l, n => by
    rw [List.foldl_cons, foldB l]
    unfold sumB stepB
    rw [sumS_cons, BitVec.ofInt_add, show s.2 - s.1 = s.2 + -s.1 by omega, BitVec.ofInt_add, BitVec.ofInt_neg, BitVec.sub_eq_add_neg, BitVec.add_assoc]
end Go.Am


/- OrderUnits over the table of local (relayset.py). -/
set_option linter.unusedVariables false
set_option linter.unusedSimpArgs false
namespace Go.Am
variable {m : Mem}

def uOk (id : Int) (g : Bool) : Prop := 1 ≤ id ∧ (g = true ∧ id ≤ 40 ∨ g = false ∧ id ≤ 200)
def isU (u : Int) : Prop := 1 ≤ u ∧ u ≤ 200 ∨ 1001 ≤ u ∧ u ≤ 1040

theorem Kind_spec {u : Int} : WC R F.order_Kind [.int .i64 u] m fun v m' => ((isU u ∧ v = .tuple #[.int .i64 (if 1000 < u then u - 1000 else u), .bool (decide (1000 < u)), .bool true]) ∨ (¬ isU u ∧ v = .tuple #[.int .i64 0, .bool false, .bool false])) ∧ m' = m := by
  refine WC.of R.order_Kind rfl ?_
  simp only [RC.order_Kind, go_sem, Bool.false_and, new_set, Int.reduceBEq, Int.reduceBNe, Int.reduceNeg, not_true_eq_false, beq_self_eq_true, bne_self_eq_false, Bool.false_eq_true, if_false, if_true, Int.cast_ofNat_Int, decide_true, decide_false, reduceCtorEq, Nat.reduceEqDiff, Nat.reduceAdd, ne_eq, not_false_eq_true, Option.map_some, Option.bind_some, Option.map_none, Option.bind_none, true_and, and_true, Bool.not_true, Bool.not_false, Nat.reduceLeDiff, Nat.reduceMul, Nat.reduceSub, Nat.le_refl, Int.reduceToNat, Int.reduceLT, Int.reduceLE, Nat.one_mul, Nat.mul_one]
  repeat' (refine gT.of (fun h => ?_) (fun h => ?_) <;> try simp only [go_sem, Bool.false_and, new_set, Int.reduceBEq, Int.reduceBNe, Int.reduceNeg, not_true_eq_false, beq_self_eq_true, bne_self_eq_false, Bool.false_eq_true, if_false, if_true, Int.cast_ofNat_Int, decide_true, decide_false, reduceCtorEq, Nat.reduceEqDiff, Nat.reduceAdd, ne_eq, not_false_eq_true, Option.map_some, Option.bind_some, Option.map_none, Option.bind_none, true_and, and_true, Bool.not_true, Bool.not_false, Nat.reduceLeDiff, Nat.reduceMul, Nat.reduceSub, Nat.le_refl, Int.reduceToNat, Int.reduceLT, Int.reduceLE, Nat.one_mul, Nat.mul_one, *])
  all_goals simp only [decide_eq_true_eq, decide_eq_false_iff_not] at *
  · exact .inl ⟨by unfold isU; omega, by simp [show ¬ 1000 < u by omega]⟩
  · exact .inl ⟨by unfold isU; omega, by rw [wrap_i64 (by omega) (by omega)]; simp [show 1000 < u by omega]⟩
  all_goals (refine .inr ?_; first | exact ⟨by unfold isU; omega, rfl⟩ | (unfold isU; omega) | skip)

theorem Is_spec {u : Int} : WC R F.ref08_Is [.int .i64 u] m fun v m' => (v = .bool true ∧ isU u ∨ v = .bool false ∧ ¬ isU u) ∧ m' = m := by
  refine WC.of R.ref08_Is rfl ?_
  simp only [RC.ref08_Is, go_sem, Bool.false_and, new_set, Int.reduceBEq, Int.reduceBNe, Int.reduceNeg, not_true_eq_false, beq_self_eq_true, bne_self_eq_false, Bool.false_eq_true, if_false, if_true, Int.cast_ofNat_Int, decide_true, decide_false, reduceCtorEq, Nat.reduceEqDiff, Nat.reduceAdd, ne_eq, not_false_eq_true, Option.map_some, Option.bind_some, Option.map_none, Option.bind_none, true_and, and_true, Bool.not_true, Bool.not_false, Nat.reduceLeDiff, Nat.reduceMul, Nat.reduceSub, Nat.le_refl, Int.reduceToNat, Int.reduceLT, Int.reduceLE, Nat.one_mul, Nat.mul_one]
  repeat' (refine gT.of (fun h => ?_) (fun h => ?_) <;> try simp only [go_sem, Bool.false_and, new_set, Int.reduceBEq, Int.reduceBNe, Int.reduceNeg, not_true_eq_false, beq_self_eq_true, bne_self_eq_false, Bool.false_eq_true, if_false, if_true, Int.cast_ofNat_Int, decide_true, decide_false, reduceCtorEq, Nat.reduceEqDiff, Nat.reduceAdd, ne_eq, not_false_eq_true, Option.map_some, Option.bind_some, Option.map_none, Option.bind_none, true_and, and_true, Bool.not_true, Bool.not_false, Nat.reduceLeDiff, Nat.reduceMul, Nat.reduceSub, Nat.le_refl, Int.reduceToNat, Int.reduceLT, Int.reduceLE, Nat.one_mul, Nat.mul_one, *])
  all_goals simp only [decide_eq_true_eq, decide_eq_false_iff_not] at *
  all_goals (unfold isU; simp; omega)
end Go.Am


/- OrderD over the table of local (relayset.py). -/
set_option linter.unusedVariables false
set_option linter.unusedSimpArgs false
namespace Go.Am
abbrev inR (n : Int) : Prop := -9223372036854775808 ≤ n ∧ n ≤ 9223372036854775807

theorem wrap_hi {x : Int} (h1 : 9223372036854775808 ≤ x) (h2 : x ≤ 18446744073709551614) : IntKind.wrap .i64 x = x - 18446744073709551616 := by
  have e : IntKind.wrap .i64 x = IntKind.wrap .i64 (x - 18446744073709551616) := by
    unfold IntKind.wrap
    simp [IntKind.bits, IntKind.signed]
  rw [e, wrap_i64 (by omega) (by omega)]
theorem wrap_lo {x : Int} (h1 : x ≤ -9223372036854775809) (h2 : -18446744073709551616 ≤ x) : IntKind.wrap .i64 x = x + 18446744073709551616 := by
  have e : IntKind.wrap .i64 x = IntKind.wrap .i64 (x + 18446744073709551616) := by
    unfold IntKind.wrap
    simp [IntKind.bits, IntKind.signed]
  rw [e, wrap_i64 (by omega) (by omega)]

/-- All shares together; none: it runs over. -/
def totO (n : Int) : List Sp → Option Int
  | [] => some n
  | w :: r => if inR (n + w.2) then totO (n + w.2) r else none

/-- What is wrong with the first one that is not right. -/
noncomputable def chkF (f : Int) (pre : List Sp) : List Sp → Int
  | [] => 0
  | w :: r => open Classical in if ¬ isU w.1 then 20 else if w.2 < 1 ∨ f < w.2 then 21 else if ∃ p ∈ pre, p.1 = w.1 then 11 else chkF f (pre ++ [w]) r
end Go.Am


/- Cuts of slices. -/
set_option linter.unusedVariables false
set_option linter.unusedSimpArgs false
namespace Go.Am

/-- A slice that may be cut. -/
def Cut (u : Nat) (m : Mem) (v : Value) : Prop := ∀ b o n c, v = .slice (some ⟨b, o, none⟩) n c → unitOk u m b = true
theorem Cutable.cut {u : Nat} {m : Mem} {v : Value} (h : Cutable m v) : Cut u m v := fun b o n c e => by subst e; exact h.unit
theorem Own.cut {m0 m : Mem} {u n : Nat} {cs : List Value} {v : Value} (h : Own m0 m u n cs v) : Cut u m v := by
  intro b o n' c e
  cases h with
  | nil => cases e
  | «at» hb hb2 hn hm hl hcs h1 => cases e; exact unitOk_own hm
theorem Cut.keep {u : Nat} {m m' : Mem} {v : Value} (h : Cut u m v) (hb : SlLt m v) (hx : Ext m m') : Cut u m' v := by
  intro b o n c e
  have := h b o n c e
  subst e
  unfold unitOk at this ⊢
  rw [hx.same b hb]; exact this

theorem aCells_split {m : Mem} {b o n k : Nat} {cs : List Value} (h : aCells m b o n = some cs) (hk : k ≤ n) : aCells m b o k = some (cs.take k) ∧ aCells m b (o + k) (n - k) = some (cs.drop k) := by
  unfold aCells at h ⊢
  split at h
  · rename_i c w hm
    split at h
    · rename_i hle
      cases h
      constructor
      · rw [if_pos (by omega), List.take_take, Nat.min_eq_left hk]
      · rw [if_pos (by omega), ← List.drop_drop, List.drop_take]
    · cases h
  · cases h

theorem Sl.to {m : Mem} {u n : Nat} {cs : List Value} {v : Value} (h : Sl m u n cs v) (hc : Cut u m v) {k : IntKind} {i : Nat} (hi : i ≤ n) :
    ∃ v', aSub u m v none (some (.int k i)) none = some v' ∧ Sl m u i (cs.take (i * u)) v' ∧ (SlLt m v → SlLt m v') ∧ Cut u m v' := by
  cases h with
  | nil h hcs =>
    subst hcs
    have : i = 0 := by omega
    subst this
    exact ⟨.slice none 0 0, rfl, .nil rfl (by simp), id, fun _ _ _ _ e => by cases e⟩
  | @«at» b o c hnc h =>
    have hu := hc b o n c rfl
    refine ⟨.slice (some ⟨b, o, none⟩) i c, sub_to hu (by omega), .at (by omega) (aCells_split h (Nat.mul_le_mul_right _ hi)).1, id, fun _ _ _ _ e => by cases e; exact hu⟩

theorem Sl.from {m : Mem} {u n : Nat} {cs : List Value} {v : Value} (h : Sl m u n cs v) (hc : Cut u m v) {k : IntKind} {i : Nat} (hi : i ≤ n) :
    ∃ v', aSub u m v (some (.int k i)) none none = some v' ∧ Sl m u (n - i) (cs.drop (i * u)) v' ∧ (SlLt m v → SlLt m v') ∧ Cut u m v' := by
  cases h with
  | nil h hcs =>
    subst hcs
    have : i = 0 := by omega
    subst this
    exact ⟨.slice none 0 0, rfl, .nil (by omega) (by simp), id, fun _ _ _ _ e => by cases e⟩
  | @«at» b o c hnc h =>
    have hu := hc b o n c rfl
    refine ⟨.slice (some ⟨b, o + i * u, none⟩) (n - i) (c - i), sub_from hu hi hnc, .at (by omega) ?_, id, fun _ _ _ _ e => by cases e; exact hu⟩
    rw [Nat.sub_mul]
    exact (aCells_split h (Nat.mul_le_mul_right _ hi)).2

/-- Full: no room behind its last one. -/
def Full (v : Value) : Prop := ∀ a p q, v = .slice a p q → p = q
theorem app_full {u by_ : Nat} {m m' : Mem} {v v' x : Value} {k : Nat} (h : aApp none u by_ m v x = some (v', m')) (hk : sliceLen x = some k) (hf : Full v) : Full v' := by
  unfold aApp at h
  rw [hk] at h
  simp only [Option.bind_some] at h
  obtain ⟨xs, hx, h'⟩ := Option.bind_eq_some_iff.1 h
  clear h
  have h := h'
  clear h'
  split at h
  · split at h
    · cases h; intro a p q e; cases e; rfl
    · split at h
      · cases h; intro a p q e; cases e; rfl
      · cases h
  · rename_i b o l c
    have hlc : l = c := hf _ _ _ rfl
    split at h
    · split at h
      · cases h; intro a p q e; cases e; exact hlc
      · cases h
    · split at h
      · omega
      · split at h
        · split at h
          · cases h; intro a p q e; cases e; rfl
          · cases h
        · cases h
  · cases h
end Go.Am
