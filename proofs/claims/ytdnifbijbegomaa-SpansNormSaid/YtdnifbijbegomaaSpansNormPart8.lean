/- Parts of the proofs of the statements of this seat: SpansW6, SpansX1, WSpansNorm. No conditions. -/
import Derived.Test.YtdnifbijbegomaaSpansNormPart7
set_option linter.unusedVariables false
set_option linter.unusedSimpArgs false

/- Spans: the law's own words; how many numbers. -/
set_option linter.unusedVariables false
set_option linter.unusedSimpArgs false
namespace Go.Am
variable {m : Mem}

theorem spFew {l : List Sp} {v : Value} (hs : Sl m 2 l.length (l.flatMap spV) v) (hb : SlLt m v) (hc : Cut 2 m v) :
    WC R F.law05_few [v] m fun r m' => (Sl m 2 (l.take 30).length ((l.take 30).flatMap spV) r ∧ SlLt m r ∧ Cut 2 m r) ∧ m' = m := by
  refine WC.of R.law05_few rfl ?_
  simp only [RC.law05_few, go_sem, Bool.false_and, new_set, Int.reduceBEq, Int.reduceBNe, Int.reduceNeg, not_true_eq_false, beq_self_eq_true, bne_self_eq_false, Bool.false_eq_true, if_false, if_true, Int.cast_ofNat_Int, decide_true, decide_false, reduceCtorEq, Nat.reduceEqDiff, Nat.reduceAdd, ne_eq, not_false_eq_true, Option.map_some, Option.bind_some, Option.map_none, Option.bind_none, true_and, and_true, Bool.not_true, Bool.not_false, Nat.reduceLeDiff, Nat.reduceMul, Nat.reduceSub, Nat.le_refl, Int.reduceToNat, Int.reduceLT, Int.reduceLE, Nat.one_mul, Nat.mul_one, hs.len]
  have e : (if (30 : Int) < l.length then (30 : Int) else l.length) = ((min l.length 30 : Nat) : Int) := by
    split <;> omega
  have e2 : (if (l.length : Int) < 30 then (l.length : Int) else 30) = ((min l.length 30 : Nat) : Int) := by
    split <;> omega
  try simp only [go_sem, Bool.false_and, new_set, Int.reduceBEq, Int.reduceBNe, Int.reduceNeg, not_true_eq_false, beq_self_eq_true, bne_self_eq_false, Bool.false_eq_true, if_false, if_true, Int.cast_ofNat_Int, decide_true, decide_false, reduceCtorEq, Nat.reduceEqDiff, Nat.reduceAdd, ne_eq, not_false_eq_true, Option.map_some, Option.bind_some, Option.map_none, Option.bind_none, true_and, and_true, Bool.not_true, Bool.not_false, Nat.reduceLeDiff, Nat.reduceMul, Nat.reduceSub, Nat.le_refl, Int.reduceToNat, Int.reduceLT, Int.reduceLE, Nat.one_mul, Nat.mul_one, e, e2]
  obtain ⟨v', a1, a2, a3, a4⟩ := hs.to hc (k := .i64) (i := min l.length 30) (by omega)
  simp only [go_sem, Bool.false_and, new_set, Int.reduceBEq, Int.reduceBNe, Int.reduceNeg, not_true_eq_false, beq_self_eq_true, bne_self_eq_false, Bool.false_eq_true, if_false, if_true, Int.cast_ofNat_Int, decide_true, decide_false, reduceCtorEq, Nat.reduceEqDiff, Nat.reduceAdd, ne_eq, not_false_eq_true, Option.map_some, Option.bind_some, Option.map_none, Option.bind_none, true_and, and_true, Bool.not_true, Bool.not_false, Nat.reduceLeDiff, Nat.reduceMul, Nat.reduceSub, Nat.le_refl, Int.reduceToNat, Int.reduceLT, Int.reduceLE, Nat.one_mul, Nat.mul_one, a1]
  have h : (l.take 30).length = min l.length 30 := by rw [List.length_take]; omega
  rw [h]
  have h2 : (l.flatMap spV).take (min l.length 30 * 2) = (l.take 30).flatMap spV := by
    have e : l.flatMap spV = (l.take 30).flatMap spV ++ (l.drop 30).flatMap spV := by rw [← List.flatMap_append, List.take_append_drop]
    rw [e, List.take_left' (by rw [spFlat, h])]
  rw [h2] at a2
  exact ⟨a2, a3 hb, a4⟩

theorem spOf {l : List Sp} {v : Value} (hs : Sl m 2 l.length (l.flatMap spV) v) (hb : SlLt m v) (hl : l.length < 1000000) :
    WC R F.law05_of [v] m fun r m' => Own m m' 2 l.length (l.flatMap spV) r ∧ Ext m m' := by
  refine WC.of R.law05_of rfl ?_
  simp only [RC.law05_of, go_sem, Bool.false_and, new_set, Int.reduceBEq, Int.reduceBNe, Int.reduceNeg, not_true_eq_false, beq_self_eq_true, bne_self_eq_false, Bool.false_eq_true, if_false, if_true, Int.cast_ofNat_Int, decide_true, decide_false, reduceCtorEq, Nat.reduceEqDiff, Nat.reduceAdd, ne_eq, not_false_eq_true, Option.map_some, Option.bind_some, Option.map_none, Option.bind_none, true_and, and_true, Bool.not_true, Bool.not_false, Nat.reduceLeDiff, Nat.reduceMul, Nat.reduceSub, Nat.le_refl, Int.reduceToNat, Int.reduceLT, Int.reduceLE, Nat.one_mul, Nat.mul_one]
  refine WL.of (fun n e m' => ∃ (i : Nat) (rv : Value), i ≤ l.length ∧ n = l.length - i ∧ e = [(0, v), (3, rv), (4, .int .i64 i)] ∧ Own m m' 2 i ((l.take i).flatMap spV) rv ∧ Ext m m') l.length
    ⟨0, .slice none 0 0, by omega, by omega, by simp only [go_sem, Bool.false_and, new_set, Int.reduceBEq, Int.reduceBNe, Int.reduceNeg, not_true_eq_false, beq_self_eq_true, bne_self_eq_false, Bool.false_eq_true, if_false, if_true, Int.cast_ofNat_Int, decide_true, decide_false, reduceCtorEq, Nat.reduceEqDiff, Nat.reduceAdd, ne_eq, not_false_eq_true, Option.map_some, Option.bind_some, Option.map_none, Option.bind_none, true_and, and_true, Bool.not_true, Bool.not_false, Nat.reduceLeDiff, Nat.reduceMul, Nat.reduceSub, Nat.le_refl, Int.reduceToNat, Int.reduceLT, Int.reduceLE, Nat.one_mul, Nat.mul_one] <;> rfl, .nil rfl rfl, Ext.refl _⟩ ?_
  rintro _ _ m1 ⟨i, rv, hi, rfl, rfl, ho, hx⟩
  have hs1 := hs.keep hb hx
  simp only [RB.law05_of_1, go_sem, Bool.false_and, new_set, Int.reduceBEq, Int.reduceBNe, Int.reduceNeg, not_true_eq_false, beq_self_eq_true, bne_self_eq_false, Bool.false_eq_true, if_false, if_true, Int.cast_ofNat_Int, decide_true, decide_false, reduceCtorEq, Nat.reduceEqDiff, Nat.reduceAdd, ne_eq, not_false_eq_true, Option.map_some, Option.bind_some, Option.map_none, Option.bind_none, true_and, and_true, Bool.not_true, Bool.not_false, Nat.reduceLeDiff, Nat.reduceMul, Nat.reduceSub, Nat.le_refl, Int.reduceToNat, Int.reduceLT, Int.reduceLE, Nat.one_mul, Nat.mul_one, hs1.len]
  refine gT.of (fun g1' => ?_) (fun g1' => ?_) <;> (have g1 := g1'; try simp only [decide_eq_true_eq, decide_eq_false_iff_not, beq_iff_eq, bne_iff_ne, beq_eq_false_iff_ne, ne_eq, Bool.not_eq_true', Bool.not_eq_false', bne_eq_false_iff_eq, Int.not_lt, Int.not_le] at g1)
  · have hil : i < l.length := by omega
    have s1 := step1 (show i < 1000000 by omega)
    obtain ⟨p, o, a1, -, a3, a4⟩ := hs1.elem spV_len (k := .i64) hil
    have c1 : aLoad false 1 m1 (.pointer (some ⟨p, o + 0, none⟩)) = some (.int .i64 l[i].1) := a3 0 (by omega)
    have c2 : aLoad false 1 m1 (.pointer (some ⟨p, o + 1, none⟩)) = some (.int .i64 l[i].2) := a3 1 (by omega)
    obtain ⟨v', m', f1, f2, f3⟩ := ho.appD (by_ := 16) (N := 15) (s := 12) (t := 13) (es := spV l[i]) hx rfl rfl (by omega) (by omega) (by omega) (by omega)
    simp only [spV] at f1
    simp only [go_sem, Bool.false_and, new_set, Int.reduceBEq, Int.reduceBNe, Int.reduceNeg, not_true_eq_false, beq_self_eq_true, bne_self_eq_false, Bool.false_eq_true, if_false, if_true, Int.cast_ofNat_Int, decide_true, decide_false, reduceCtorEq, Nat.reduceEqDiff, Nat.reduceAdd, ne_eq, not_false_eq_true, Option.map_some, Option.bind_some, Option.map_none, Option.bind_none, true_and, and_true, Bool.not_true, Bool.not_false, Nat.reduceLeDiff, Nat.reduceMul, Nat.reduceSub, Nat.le_refl, Int.reduceToNat, Int.reduceLT, Int.reduceLE, Nat.one_mul, Nat.mul_one, g1', a1, c1, c2]
    rw [f1]
    simp only [go_sem, Bool.false_and, new_set, Int.reduceBEq, Int.reduceBNe, Int.reduceNeg, not_true_eq_false, beq_self_eq_true, bne_self_eq_false, Bool.false_eq_true, if_false, if_true, Int.cast_ofNat_Int, decide_true, decide_false, reduceCtorEq, Nat.reduceEqDiff, Nat.reduceAdd, ne_eq, not_false_eq_true, Option.map_some, Option.bind_some, Option.map_none, Option.bind_none, true_and, and_true, Bool.not_true, Bool.not_false, Nat.reduceLeDiff, Nat.reduceMul, Nat.reduceSub, Nat.le_refl, Int.reduceToNat, Int.reduceLT, Int.reduceLE, Nat.one_mul, Nat.mul_one, s1]
    refine ⟨l.length - (i + 1), by omega, i + 1, v', by omega, rfl, rfl, ?_, f3⟩
    rw [List.take_succ_eq_append_getElem hil, spSnoc]
    exact f2
  · have : i = l.length := by omega
    subst this
    rw [List.take_length] at ho
    simp only [go_sem, Bool.false_and, new_set, Int.reduceBEq, Int.reduceBNe, Int.reduceNeg, not_true_eq_false, beq_self_eq_true, bne_self_eq_false, Bool.false_eq_true, if_false, if_true, Int.cast_ofNat_Int, decide_true, decide_false, reduceCtorEq, Nat.reduceEqDiff, Nat.reduceAdd, ne_eq, not_false_eq_true, Option.map_some, Option.bind_some, Option.map_none, Option.bind_none, true_and, and_true, Bool.not_true, Bool.not_false, Nat.reduceLeDiff, Nat.reduceMul, Nat.reduceSub, Nat.le_refl, Int.reduceToNat, Int.reduceLT, Int.reduceLE, Nat.one_mul, Nat.mul_one, g1']
    exact ⟨ho, hx⟩

theorem spSame {a b : List Sp} {va vbv : Value} (ha : Sl m 2 a.length (a.flatMap spV) va) (hb : Sl m 2 b.length (b.flatMap spV) vbv) (hal : a.length < 1000000) :
    WC R F.law05_same [va, vbv] m fun r m' => r = .bool (decide (a = b)) ∧ m' = m := by
  refine WC.of R.law05_same rfl ?_
  simp only [RC.law05_same, go_sem, Bool.false_and, new_set, Int.reduceBEq, Int.reduceBNe, Int.reduceNeg, not_true_eq_false, beq_self_eq_true, bne_self_eq_false, Bool.false_eq_true, if_false, if_true, Int.cast_ofNat_Int, decide_true, decide_false, reduceCtorEq, Nat.reduceEqDiff, Nat.reduceAdd, ne_eq, not_false_eq_true, Option.map_some, Option.bind_some, Option.map_none, Option.bind_none, true_and, and_true, Bool.not_true, Bool.not_false, Nat.reduceLeDiff, Nat.reduceMul, Nat.reduceSub, Nat.le_refl, Int.reduceToNat, Int.reduceLT, Int.reduceLE, Nat.one_mul, Nat.mul_one, ha.len, hb.len]
  by_cases hlen : a.length = b.length
  · have e0 : ((a.length : Int) != b.length) = false := by rw [hlen]; exact bne_self_eq_false _
    simp only [go_sem, Bool.false_and, new_set, Int.reduceBEq, Int.reduceBNe, Int.reduceNeg, not_true_eq_false, beq_self_eq_true, bne_self_eq_false, Bool.false_eq_true, if_false, if_true, Int.cast_ofNat_Int, decide_true, decide_false, reduceCtorEq, Nat.reduceEqDiff, Nat.reduceAdd, ne_eq, not_false_eq_true, Option.map_some, Option.bind_some, Option.map_none, Option.bind_none, true_and, and_true, Bool.not_true, Bool.not_false, Nat.reduceLeDiff, Nat.reduceMul, Nat.reduceSub, Nat.le_refl, Int.reduceToNat, Int.reduceLT, Int.reduceLE, Nat.one_mul, Nat.mul_one, e0]
    refine WL.of (fun n e m' => ∃ i : Nat, i ≤ a.length ∧ n = a.length - i ∧ m' = m ∧ e = [(0, va), (1, vbv), (5, .int .i64 i)] ∧ a.take i = b.take i) a.length
      ⟨0, by omega, by omega, rfl, by simp only [go_sem, Bool.false_and, new_set, Int.reduceBEq, Int.reduceBNe, Int.reduceNeg, not_true_eq_false, beq_self_eq_true, bne_self_eq_false, Bool.false_eq_true, if_false, if_true, Int.cast_ofNat_Int, decide_true, decide_false, reduceCtorEq, Nat.reduceEqDiff, Nat.reduceAdd, ne_eq, not_false_eq_true, Option.map_some, Option.bind_some, Option.map_none, Option.bind_none, true_and, and_true, Bool.not_true, Bool.not_false, Nat.reduceLeDiff, Nat.reduceMul, Nat.reduceSub, Nat.le_refl, Int.reduceToNat, Int.reduceLT, Int.reduceLE, Nat.one_mul, Nat.mul_one] <;> rfl, rfl⟩ ?_
    rintro _ _ _ ⟨i, hi, rfl, rfl, rfl, heq⟩
    simp only [RB.law05_same_1, go_sem, Bool.false_and, new_set, Int.reduceBEq, Int.reduceBNe, Int.reduceNeg, not_true_eq_false, beq_self_eq_true, bne_self_eq_false, Bool.false_eq_true, if_false, if_true, Int.cast_ofNat_Int, decide_true, decide_false, reduceCtorEq, Nat.reduceEqDiff, Nat.reduceAdd, ne_eq, not_false_eq_true, Option.map_some, Option.bind_some, Option.map_none, Option.bind_none, true_and, and_true, Bool.not_true, Bool.not_false, Nat.reduceLeDiff, Nat.reduceMul, Nat.reduceSub, Nat.le_refl, Int.reduceToNat, Int.reduceLT, Int.reduceLE, Nat.one_mul, Nat.mul_one, ha.len]
    refine gT.of (fun g1' => ?_) (fun g1' => ?_) <;> (have g1 := g1'; try simp only [decide_eq_true_eq, decide_eq_false_iff_not, beq_iff_eq, bne_iff_ne, beq_eq_false_iff_ne, ne_eq, Bool.not_eq_true', Bool.not_eq_false', bne_eq_false_iff_eq, Int.not_lt, Int.not_le] at g1)
    · have hil : i < a.length := by omega
      have hib : i < b.length := by omega
      have s1 := step1 (show i < 1000000 by omega)
      obtain ⟨p, o, a1, -, a3, -⟩ := ha.elem spV_len (k := .i64) hil
      obtain ⟨p', o', b1, -, b3, -⟩ := hb.elem spV_len (k := .i64) hib
      have c1 : aLoad false 1 _ (.pointer (some ⟨p, o + 0, none⟩)) = some (.int .i64 a[i].1) := a3 0 (by omega)
      have c2 : aLoad false 1 _ (.pointer (some ⟨p, o + 1, none⟩)) = some (.int .i64 a[i].2) := a3 1 (by omega)
      have d1 : aLoad false 1 _ (.pointer (some ⟨p', o' + 0, none⟩)) = some (.int .i64 b[i].1) := b3 0 (by omega)
      have d2 : aLoad false 1 _ (.pointer (some ⟨p', o' + 1, none⟩)) = some (.int .i64 b[i].2) := b3 1 (by omega)
      have no : a[i] ≠ b[i] → decide (a = b) = false := fun h => decide_eq_false fun e => by subst e; exact h rfl
      by_cases g2 : a[i].1 = b[i].1
      · have e2 : (a[i].1 != b[i].1) = false := by rw [g2]; exact bne_self_eq_false _
        by_cases g3 : a[i].2 = b[i].2
        · have e3 : (a[i].2 != b[i].2) = false := by rw [g3]; exact bne_self_eq_false _
          simp only [go_sem, Bool.false_and, new_set, Int.reduceBEq, Int.reduceBNe, Int.reduceNeg, not_true_eq_false, beq_self_eq_true, bne_self_eq_false, Bool.false_eq_true, if_false, if_true, Int.cast_ofNat_Int, decide_true, decide_false, reduceCtorEq, Nat.reduceEqDiff, Nat.reduceAdd, ne_eq, not_false_eq_true, Option.map_some, Option.bind_some, Option.map_none, Option.bind_none, true_and, and_true, Bool.not_true, Bool.not_false, Nat.reduceLeDiff, Nat.reduceMul, Nat.reduceSub, Nat.le_refl, Int.reduceToNat, Int.reduceLT, Int.reduceLE, Nat.one_mul, Nat.mul_one, g1', a1, b1, c1, d1, e2, c2, d2, e3, s1]
          refine ⟨a.length - (i + 1), by omega, i + 1, by omega, rfl, rfl, ?_⟩
          rw [List.take_succ_eq_append_getElem hil, List.take_succ_eq_append_getElem hib, heq, show a[i] = b[i] from Prod.ext g2 g3]
        · have e3 : (a[i].2 != b[i].2) = true := by simpa using g3
          simp only [go_sem, Bool.false_and, new_set, Int.reduceBEq, Int.reduceBNe, Int.reduceNeg, not_true_eq_false, beq_self_eq_true, bne_self_eq_false, Bool.false_eq_true, if_false, if_true, Int.cast_ofNat_Int, decide_true, decide_false, reduceCtorEq, Nat.reduceEqDiff, Nat.reduceAdd, ne_eq, not_false_eq_true, Option.map_some, Option.bind_some, Option.map_none, Option.bind_none, true_and, and_true, Bool.not_true, Bool.not_false, Nat.reduceLeDiff, Nat.reduceMul, Nat.reduceSub, Nat.le_refl, Int.reduceToNat, Int.reduceLT, Int.reduceLE, Nat.one_mul, Nat.mul_one, g1', a1, b1, c1, d1, e2, c2, d2, e3]
          rw [no (fun e => g3 (by rw [e]))]
      · have e2 : (a[i].1 != b[i].1) = true := by simpa using g2
        simp only [go_sem, Bool.false_and, new_set, Int.reduceBEq, Int.reduceBNe, Int.reduceNeg, not_true_eq_false, beq_self_eq_true, bne_self_eq_false, Bool.false_eq_true, if_false, if_true, Int.cast_ofNat_Int, decide_true, decide_false, reduceCtorEq, Nat.reduceEqDiff, Nat.reduceAdd, ne_eq, not_false_eq_true, Option.map_some, Option.bind_some, Option.map_none, Option.bind_none, true_and, and_true, Bool.not_true, Bool.not_false, Nat.reduceLeDiff, Nat.reduceMul, Nat.reduceSub, Nat.le_refl, Int.reduceToNat, Int.reduceLT, Int.reduceLE, Nat.one_mul, Nat.mul_one, g1', a1, b1, c1, d1, e2]
        rw [no (fun e => g2 (by rw [e]))]
    · have : i = a.length := by omega
      subst this
      rw [List.take_length, hlen, List.take_length] at heq
      simp only [go_sem, Bool.false_and, new_set, Int.reduceBEq, Int.reduceBNe, Int.reduceNeg, not_true_eq_false, beq_self_eq_true, bne_self_eq_false, Bool.false_eq_true, if_false, if_true, Int.cast_ofNat_Int, decide_true, decide_false, reduceCtorEq, Nat.reduceEqDiff, Nat.reduceAdd, ne_eq, not_false_eq_true, Option.map_some, Option.bind_some, Option.map_none, Option.bind_none, true_and, and_true, Bool.not_true, Bool.not_false, Nat.reduceLeDiff, Nat.reduceMul, Nat.reduceSub, Nat.le_refl, Int.reduceToNat, Int.reduceLT, Int.reduceLE, Nat.one_mul, Nat.mul_one, g1']
      rw [decide_eq_true heq]
  · have e0 : ((a.length : Int) != b.length) = true := by rw [bne_iff_ne]; omega
    simp only [go_sem, Bool.false_and, new_set, Int.reduceBEq, Int.reduceBNe, Int.reduceNeg, not_true_eq_false, beq_self_eq_true, bne_self_eq_false, Bool.false_eq_true, if_false, if_true, Int.cast_ofNat_Int, decide_true, decide_false, reduceCtorEq, Nat.reduceEqDiff, Nat.reduceAdd, ne_eq, not_false_eq_true, Option.map_some, Option.bind_some, Option.map_none, Option.bind_none, true_and, and_true, Bool.not_true, Bool.not_false, Nat.reduceLeDiff, Nat.reduceMul, Nat.reduceSub, Nat.le_refl, Int.reduceToNat, Int.reduceLT, Int.reduceLE, Nat.one_mul, Nat.mul_one, e0]
    rw [decide_eq_false (fun e => hlen (by rw [e]))]

theorem spTotal {l : List Sp} {v : Value} (hs : Sl m 2 l.length (l.flatMap spV) v) (hb : SlLt m v) (hl : l.length < 100000) :
    WC R F.spans_Total [v] m fun rv m' => (∃ r, NormOf l r ∧ rv = u64 (sumB r)) ∧ Ext m m' := by
  refine WC.of R.spans_Total rfl ?_
  simp only [RC.spans_Total, go_sem, Bool.false_and, new_set, Int.reduceBEq, Int.reduceBNe, Int.reduceNeg, not_true_eq_false, beq_self_eq_true, bne_self_eq_false, Bool.false_eq_true, if_false, if_true, Int.cast_ofNat_Int, decide_true, decide_false, reduceCtorEq, Nat.reduceEqDiff, Nat.reduceAdd, ne_eq, not_false_eq_true, Option.map_some, Option.bind_some, Option.map_none, Option.bind_none, true_and, and_true, Bool.not_true, Bool.not_false, Nat.reduceLeDiff, Nat.reduceMul, Nat.reduceSub, Nat.le_refl, Int.reduceToNat, Int.reduceLT, Int.reduceLE, Nat.one_mul, Nat.mul_one]
  refine gC.of (spNorm hs hb hl) ?_
  rintro nv m1 ⟨r, hN, ho, hx⟩
  have hrl := hN.2.2
  have hs1 := ho.sl
  have hb1 := ho.lt
  simp only [go_sem, Bool.false_and, new_set, Int.reduceBEq, Int.reduceBNe, Int.reduceNeg, not_true_eq_false, beq_self_eq_true, bne_self_eq_false, Bool.false_eq_true, if_false, if_true, Int.cast_ofNat_Int, decide_true, decide_false, reduceCtorEq, Nat.reduceEqDiff, Nat.reduceAdd, ne_eq, not_false_eq_true, Option.map_some, Option.bind_some, Option.map_none, Option.bind_none, true_and, and_true, Bool.not_true, Bool.not_false, Nat.reduceLeDiff, Nat.reduceMul, Nat.reduceSub, Nat.le_refl, Int.reduceToNat, Int.reduceLT, Int.reduceLE, Nat.one_mul, Nat.mul_one, hs1.len]
  refine WL.of (fun n e m' => ∃ i : Nat, i ≤ r.length ∧ n = r.length - i ∧ e = [(3, u64 ((r.take i).foldl stepB 0)), (7, nv), (8, .int .i64 r.length), (9, .int .i64 i)] ∧ Ext m1 m') r.length
    ⟨0, by omega, by omega, by simp only [go_sem, Bool.false_and, new_set, Int.reduceBEq, Int.reduceBNe, Int.reduceNeg, not_true_eq_false, beq_self_eq_true, bne_self_eq_false, Bool.false_eq_true, if_false, if_true, Int.cast_ofNat_Int, decide_true, decide_false, reduceCtorEq, Nat.reduceEqDiff, Nat.reduceAdd, ne_eq, not_false_eq_true, Option.map_some, Option.bind_some, Option.map_none, Option.bind_none, true_and, and_true, Bool.not_true, Bool.not_false, Nat.reduceLeDiff, Nat.reduceMul, Nat.reduceSub, Nat.le_refl, Int.reduceToNat, Int.reduceLT, Int.reduceLE, Nat.one_mul, Nat.mul_one] <;> rfl, Ext.refl _⟩ ?_
  rintro _ _ m2 ⟨i, hi, rfl, rfl, hx2⟩
  simp only [RB.spans_Total_1, go_sem, Bool.false_and, new_set, Int.reduceBEq, Int.reduceBNe, Int.reduceNeg, not_true_eq_false, beq_self_eq_true, bne_self_eq_false, Bool.false_eq_true, if_false, if_true, Int.cast_ofNat_Int, decide_true, decide_false, reduceCtorEq, Nat.reduceEqDiff, Nat.reduceAdd, ne_eq, not_false_eq_true, Option.map_some, Option.bind_some, Option.map_none, Option.bind_none, true_and, and_true, Bool.not_true, Bool.not_false, Nat.reduceLeDiff, Nat.reduceMul, Nat.reduceSub, Nat.le_refl, Int.reduceToNat, Int.reduceLT, Int.reduceLE, Nat.one_mul, Nat.mul_one]
  refine gT.of (fun g1' => ?_) (fun g1' => ?_) <;> (have g1 := g1'; try simp only [decide_eq_true_eq, decide_eq_false_iff_not, beq_iff_eq, bne_iff_ne, beq_eq_false_iff_ne, ne_eq, Bool.not_eq_true', Bool.not_eq_false', bne_eq_false_iff_eq, Int.not_lt, Int.not_le] at g1)
  · have hil : i < r.length := by omega
    have s1 := step1 (show i < 1000000 by omega)
    obtain ⟨p, o, a1, a2, -, -⟩ := (hs1.keep hb1 hx2).elem spV_len (k := .i64) hil
    have tk : (r.take (i + 1)).foldl stepB 0 = stepB ((r.take i).foldl stepB 0) r[i] := by
      rw [List.take_succ_eq_append_getElem hil, List.foldl_append]; rfl
    have hst : aStore 2 (m2.new (.cells [(.int .i64 0), (.int .i64 0)] (some 2))) (.pointer (some ⟨m2.next, 0, none⟩)) (.agg (spV r[i]).toArray) = some (m2.new (.cells [.int .i64 r[i].1, .int .i64 r[i].2] (some 2))) := by
      simp only [spV]
      simp only [go_sem, Bool.false_and, new_set, Int.reduceBEq, Int.reduceBNe, Int.reduceNeg, not_true_eq_false, beq_self_eq_true, bne_self_eq_false, Bool.false_eq_true, if_false, if_true, Int.cast_ofNat_Int, decide_true, decide_false, reduceCtorEq, Nat.reduceEqDiff, Nat.reduceAdd, ne_eq, not_false_eq_true, Option.map_some, Option.bind_some, Option.map_none, Option.bind_none, true_and, and_true, Bool.not_true, Bool.not_false, Nat.reduceLeDiff, Nat.reduceMul, Nat.reduceSub, Nat.le_refl, Int.reduceToNat, Int.reduceLT, Int.reduceLE, Nat.one_mul, Nat.mul_one, load_w, load_a, store_b, idxS_b, set_blk, new_blk, set_next, new_next, len_s, ldW_c, ldA_c, stB_c, toArr_one, size_one, toList_toArr, size_toArr, List.length_cons, List.length_nil, List.getElem?_cons_zero, List.getElem?_cons_succ, Nat.zero_add, Nat.add_zero]
    simp only [go_sem, Bool.false_and, new_set, Int.reduceBEq, Int.reduceBNe, Int.reduceNeg, not_true_eq_false, beq_self_eq_true, bne_self_eq_false, Bool.false_eq_true, if_false, if_true, Int.cast_ofNat_Int, decide_true, decide_false, reduceCtorEq, Nat.reduceEqDiff, Nat.reduceAdd, ne_eq, not_false_eq_true, Option.map_some, Option.bind_some, Option.map_none, Option.bind_none, true_and, and_true, Bool.not_true, Bool.not_false, Nat.reduceLeDiff, Nat.reduceMul, Nat.reduceSub, Nat.le_refl, Int.reduceToNat, Int.reduceLT, Int.reduceLE, Nat.one_mul, Nat.mul_one, g1', a1, a2, hst]
    have hxx : Ext m2 (m2.new (.cells [.int .i64 r[i].1, .int .i64 r[i].2] (some 2))) := Ext.new
    have hbx : Bk (m2.new (.cells [.int .i64 r[i].1, .int .i64 r[i].2] (some 2))) m2.next [.int .i64 r[i].1, .int .i64 r[i].2] 2 := Bk.new
    generalize m2.new (.cells [.int .i64 r[i].1, .int .i64 r[i].2] (some 2)) = m3 at hbx hxx ⊢
    have c1 : aLoad false 1 m3 (.pointer (some ⟨m2.next, 0, none⟩)) = some (.int .i64 r[i].1) := by simp only [go_sem, Bool.false_and, new_set, Int.reduceBEq, Int.reduceBNe, Int.reduceNeg, not_true_eq_false, beq_self_eq_true, bne_self_eq_false, Bool.false_eq_true, if_false, if_true, Int.cast_ofNat_Int, decide_true, decide_false, reduceCtorEq, Nat.reduceEqDiff, Nat.reduceAdd, ne_eq, not_false_eq_true, Option.map_some, Option.bind_some, Option.map_none, Option.bind_none, true_and, and_true, Bool.not_true, Bool.not_false, Nat.reduceLeDiff, Nat.reduceMul, Nat.reduceSub, Nat.le_refl, Int.reduceToNat, Int.reduceLT, Int.reduceLE, Nat.one_mul, Nat.mul_one, load_w, load_a, store_b, idxS_b, set_blk, new_blk, set_next, new_next, len_s, ldW_c, ldA_c, stB_c, toArr_one, size_one, toList_toArr, size_toArr, List.length_cons, List.length_nil, List.getElem?_cons_zero, List.getElem?_cons_succ, Nat.zero_add, Nat.add_zero, hbx.at_]
    have c2 : aLoad false 1 m3 (.pointer (some ⟨m2.next, 1, none⟩)) = some (.int .i64 r[i].2) := by simp only [go_sem, Bool.false_and, new_set, Int.reduceBEq, Int.reduceBNe, Int.reduceNeg, not_true_eq_false, beq_self_eq_true, bne_self_eq_false, Bool.false_eq_true, if_false, if_true, Int.cast_ofNat_Int, decide_true, decide_false, reduceCtorEq, Nat.reduceEqDiff, Nat.reduceAdd, ne_eq, not_false_eq_true, Option.map_some, Option.bind_some, Option.map_none, Option.bind_none, true_and, and_true, Bool.not_true, Bool.not_false, Nat.reduceLeDiff, Nat.reduceMul, Nat.reduceSub, Nat.le_refl, Int.reduceToNat, Int.reduceLT, Int.reduceLE, Nat.one_mul, Nat.mul_one, load_w, load_a, store_b, idxS_b, set_blk, new_blk, set_next, new_next, len_s, ldW_c, ldA_c, stB_c, toArr_one, size_one, toList_toArr, size_toArr, List.length_cons, List.length_nil, List.getElem?_cons_zero, List.getElem?_cons_succ, Nat.zero_add, Nat.add_zero, hbx.at_]
    simp only [go_sem, Bool.false_and, new_set, Int.reduceBEq, Int.reduceBNe, Int.reduceNeg, not_true_eq_false, beq_self_eq_true, bne_self_eq_false, Bool.false_eq_true, if_false, if_true, Int.cast_ofNat_Int, decide_true, decide_false, reduceCtorEq, Nat.reduceEqDiff, Nat.reduceAdd, ne_eq, not_false_eq_true, Option.map_some, Option.bind_some, Option.map_none, Option.bind_none, true_and, and_true, Bool.not_true, Bool.not_false, Nat.reduceLeDiff, Nat.reduceMul, Nat.reduceSub, Nat.le_refl, Int.reduceToNat, Int.reduceLT, Int.reduceLE, Nat.one_mul, Nat.mul_one, c1, c2, s1]
    refine ⟨r.length - (i + 1), by omega, i + 1, by omega, rfl, ?_, hx2.trans hxx⟩
    rw [tk]; rfl
  · have : i = r.length := by omega
    subst this
    simp only [go_sem, Bool.false_and, new_set, Int.reduceBEq, Int.reduceBNe, Int.reduceNeg, not_true_eq_false, beq_self_eq_true, bne_self_eq_false, Bool.false_eq_true, if_false, if_true, Int.cast_ofNat_Int, decide_true, decide_false, reduceCtorEq, Nat.reduceEqDiff, Nat.reduceAdd, ne_eq, not_false_eq_true, Option.map_some, Option.bind_some, Option.map_none, Option.bind_none, true_and, and_true, Bool.not_true, Bool.not_false, Nat.reduceLeDiff, Nat.reduceMul, Nat.reduceSub, Nat.le_refl, Int.reduceToNat, Int.reduceLT, Int.reduceLE, Nat.one_mul, Nat.mul_one, g1']
    refine ⟨⟨r, hN, ?_⟩, hx.trans hx2⟩
    rw [List.take_length, foldB]; simp

theorem refTotal {l : List Sp} {v : Value} (hs : Sl m 2 l.length (l.flatMap spV) v) (hb : SlLt m v) (hl : l.length < 10000) :
    WC R F.ref05_Total [v] m fun rv m' => (∃ r, (Rt r ∧ ∀ x, InS r x ↔ InS l x) ∧ rv = u64 (sumB r)) ∧ Ext m m' := by
  refine WC.of R.ref05_Total rfl ?_
  simp only [RC.ref05_Total, go_sem, Bool.false_and, new_set, Int.reduceBEq, Int.reduceBNe, Int.reduceNeg, not_true_eq_false, beq_self_eq_true, bne_self_eq_false, Bool.false_eq_true, if_false, if_true, Int.cast_ofNat_Int, decide_true, decide_false, reduceCtorEq, Nat.reduceEqDiff, Nat.reduceAdd, ne_eq, not_false_eq_true, Option.map_some, Option.bind_some, Option.map_none, Option.bind_none, true_and, and_true, Bool.not_true, Bool.not_false, Nat.reduceLeDiff, Nat.reduceMul, Nat.reduceSub, Nat.le_refl, Int.reduceToNat, Int.reduceLT, Int.reduceLE, Nat.one_mul, Nat.mul_one]
  refine gC.of (refOp (k := 0) (b := []) hs hb (.nil rfl rfl) trivial hl (by simp)) ?_
  rintro nv m1 ⟨r, ⟨hR, hM⟩, hrl, ho, hx⟩
  have hs1 := ho.sl
  simp only [go_sem, Bool.false_and, new_set, Int.reduceBEq, Int.reduceBNe, Int.reduceNeg, not_true_eq_false, beq_self_eq_true, bne_self_eq_false, Bool.false_eq_true, if_false, if_true, Int.cast_ofNat_Int, decide_true, decide_false, reduceCtorEq, Nat.reduceEqDiff, Nat.reduceAdd, ne_eq, not_false_eq_true, Option.map_some, Option.bind_some, Option.map_none, Option.bind_none, true_and, and_true, Bool.not_true, Bool.not_false, Nat.reduceLeDiff, Nat.reduceMul, Nat.reduceSub, Nat.le_refl, Int.reduceToNat, Int.reduceLT, Int.reduceLE, Nat.one_mul, Nat.mul_one]
  refine WL.of (fun n e m' => ∃ i : Nat, i ≤ r.length ∧ n = r.length - i ∧ m' = m1 ∧ e = [(3, u64 ((r.take i).foldl stepB 0)), (4, nv), (5, .int .i64 i)]) r.length
    ⟨0, by omega, by omega, rfl, by simp only [go_sem, Bool.false_and, new_set, Int.reduceBEq, Int.reduceBNe, Int.reduceNeg, not_true_eq_false, beq_self_eq_true, bne_self_eq_false, Bool.false_eq_true, if_false, if_true, Int.cast_ofNat_Int, decide_true, decide_false, reduceCtorEq, Nat.reduceEqDiff, Nat.reduceAdd, ne_eq, not_false_eq_true, Option.map_some, Option.bind_some, Option.map_none, Option.bind_none, true_and, and_true, Bool.not_true, Bool.not_false, Nat.reduceLeDiff, Nat.reduceMul, Nat.reduceSub, Nat.le_refl, Int.reduceToNat, Int.reduceLT, Int.reduceLE, Nat.one_mul, Nat.mul_one] <;> rfl⟩ ?_
  rintro _ _ _ ⟨i, hi, rfl, rfl, rfl⟩
  simp only [RB.ref05_Total_1, go_sem, Bool.false_and, new_set, Int.reduceBEq, Int.reduceBNe, Int.reduceNeg, not_true_eq_false, beq_self_eq_true, bne_self_eq_false, Bool.false_eq_true, if_false, if_true, Int.cast_ofNat_Int, decide_true, decide_false, reduceCtorEq, Nat.reduceEqDiff, Nat.reduceAdd, ne_eq, not_false_eq_true, Option.map_some, Option.bind_some, Option.map_none, Option.bind_none, true_and, and_true, Bool.not_true, Bool.not_false, Nat.reduceLeDiff, Nat.reduceMul, Nat.reduceSub, Nat.le_refl, Int.reduceToNat, Int.reduceLT, Int.reduceLE, Nat.one_mul, Nat.mul_one, hs1.len]
  refine gT.of (fun g1' => ?_) (fun g1' => ?_) <;> (have g1 := g1'; try simp only [decide_eq_true_eq, decide_eq_false_iff_not, beq_iff_eq, bne_iff_ne, beq_eq_false_iff_ne, ne_eq, Bool.not_eq_true', Bool.not_eq_false', bne_eq_false_iff_eq, Int.not_lt, Int.not_le] at g1)
  · have hil : i < r.length := by omega
    have s1 := step1 (show i < 1000000 by omega)
    obtain ⟨p, o, a1, -, a3, -⟩ := hs1.elem spV_len (k := .i64) hil
    have tk : (r.take (i + 1)).foldl stepB 0 = stepB ((r.take i).foldl stepB 0) r[i] := by
      rw [List.take_succ_eq_append_getElem hil, List.foldl_append]; rfl
    have c1 : aLoad false 1 _ (.pointer (some ⟨p, o + 0, none⟩)) = some (.int .i64 r[i].1) := a3 0 (by omega)
    have c2 : aLoad false 1 _ (.pointer (some ⟨p, o + 1, none⟩)) = some (.int .i64 r[i].2) := a3 1 (by omega)
    simp only [go_sem, Bool.false_and, new_set, Int.reduceBEq, Int.reduceBNe, Int.reduceNeg, not_true_eq_false, beq_self_eq_true, bne_self_eq_false, Bool.false_eq_true, if_false, if_true, Int.cast_ofNat_Int, decide_true, decide_false, reduceCtorEq, Nat.reduceEqDiff, Nat.reduceAdd, ne_eq, not_false_eq_true, Option.map_some, Option.bind_some, Option.map_none, Option.bind_none, true_and, and_true, Bool.not_true, Bool.not_false, Nat.reduceLeDiff, Nat.reduceMul, Nat.reduceSub, Nat.le_refl, Int.reduceToNat, Int.reduceLT, Int.reduceLE, Nat.one_mul, Nat.mul_one, g1', a1, c1, c2, s1]
    refine ⟨r.length - (i + 1), by omega, i + 1, by omega, rfl, ?_⟩
    rw [tk]; rfl
  · have : i = r.length := by omega
    subst this
    simp only [go_sem, Bool.false_and, new_set, Int.reduceBEq, Int.reduceBNe, Int.reduceNeg, not_true_eq_false, beq_self_eq_true, bne_self_eq_false, Bool.false_eq_true, if_false, if_true, Int.cast_ofNat_Int, decide_true, decide_false, reduceCtorEq, Nat.reduceEqDiff, Nat.reduceAdd, ne_eq, not_false_eq_true, Option.map_some, Option.bind_some, Option.map_none, Option.bind_none, true_and, and_true, Bool.not_true, Bool.not_false, Nat.reduceLeDiff, Nat.reduceMul, Nat.reduceSub, Nat.le_refl, Int.reduceToNat, Int.reduceLT, Int.reduceLE, Nat.one_mul, Nat.mul_one, g1']
    refine ⟨⟨r, ⟨hR, fun x => ?_⟩, ?_⟩, hx⟩
    · rw [hM]
      unfold KIn kindOf
      simp [hasS_iff.symm, hasS]
    · rw [List.take_length, foldB]; simp
end Go.Am


/- SpansNorm. -/
set_option linter.unusedVariables false
set_option linter.unusedSimpArgs false
namespace Go.Am
variable {m : Mem}

theorem kin0 {a b : List Sp} {x : Int} : KIn 0 a b x ↔ InS a x ∨ InS b x := by
  unfold KIn kindOf
  rw [← hasS_iff, ← hasS_iff]; simp
theorem kin0n {a : List Sp} {x : Int} : KIn 0 a [] x ↔ InS a x := by
  rw [kin0]; exact ⟨fun h => h.elim id fun h => absurd h InS.nil, .inl⟩
theorem kin1 {a b : List Sp} {x : Int} : KIn 1 a b x ↔ InS a x ∧ InS b x := by
  unfold KIn kindOf
  rw [← hasS_iff, ← hasS_iff]; simp
theorem kin2 {a b : List Sp} {x : Int} : KIn 2 a b x ↔ InS a x ∧ ¬ InS b x := by
  unfold KIn kindOf
  rw [← hasS_iff, ← hasS_iff]; simp

def spSh : List Sh := [.int .i64, .int .i64]
theorem sp_read {m : Mem} {v : Value} (h : Rd m (.sl [.int .i64, .int .i64]) v) : ∃ l : List Sp, Sl m 2 l.length (l.flatMap spV) v ∧ SlLt m v ∧ Cut 2 m v := by
  obtain ⟨l, h1, h2, -⟩ := Rd.slice (f := spV) (fun cs hc => by
    obtain ⟨c, r, rfl, h1, h2⟩ := hc.one
    obtain ⟨d, r2, rfl, h3, h4⟩ := h2.one
    cases h4.none
    obtain ⟨a, rfl, -⟩ := h1.i64
    obtain ⟨b, rfl, -⟩ := h3.i64
    exact ⟨(a, b), rfl⟩) h
  exact ⟨l, h1, h2, h.free.cut⟩

theorem take30 {l : List Sp} : (l.take 30).length ≤ 30 := by rw [List.length_take]; omega

set_option maxHeartbeats 4000000 in
theorem SpansNorm_spec {l : List Sp} {v : Value} {x : Int} (hs : Sl m 2 l.length (l.flatMap spV) v) (hb : SlLt m v) (hc : Cut 2 m v) : WC R F.law05_SpansNorm [v, .int .i64 x] m fun r _ => r = .bool true := by
  refine WC.of R.law05_SpansNorm rfl ?_
  simp only [RC.law05_SpansNorm, go_sem, Bool.false_and, new_set, Int.reduceBEq, Int.reduceBNe, Int.reduceNeg, not_true_eq_false, beq_self_eq_true, bne_self_eq_false, Bool.false_eq_true, if_false, if_true, Int.cast_ofNat_Int, decide_true, decide_false, reduceCtorEq, Nat.reduceEqDiff, Nat.reduceAdd, ne_eq, not_false_eq_true, Option.map_some, Option.bind_some, Option.map_none, Option.bind_none, true_and, and_true, Bool.not_true, Bool.not_false, Nat.reduceLeDiff, Nat.reduceMul, Nat.reduceSub, Nat.le_refl, Int.reduceToNat, Int.reduceLT, Int.reduceLE, Nat.one_mul, Nat.mul_one]
  refine gC.of (spFew hs hb hc) ?_
  rintro v0 _ ⟨⟨hs0, hb0, hc0⟩, hm⟩
  subst hm
  have h30 : (l.take 30).length ≤ 30 := take30
  generalize l.take 30 = L at hs0 h30
  clear hs hb hc
  simp only [go_sem, Bool.false_and, new_set, Int.reduceBEq, Int.reduceBNe, Int.reduceNeg, not_true_eq_false, beq_self_eq_true, bne_self_eq_false, Bool.false_eq_true, if_false, if_true, Int.cast_ofNat_Int, decide_true, decide_false, reduceCtorEq, Nat.reduceEqDiff, Nat.reduceAdd, ne_eq, not_false_eq_true, Option.map_some, Option.bind_some, Option.map_none, Option.bind_none, true_and, and_true, Bool.not_true, Bool.not_false, Nat.reduceLeDiff, Nat.reduceMul, Nat.reduceSub, Nat.le_refl, Int.reduceToNat, Int.reduceLT, Int.reduceLE, Nat.one_mul, Nat.mul_one]
  refine gC.of (spOf hs0 hb0 (by omega)) ?_
  rintro v1 m1 ⟨ho1, hx1⟩
  simp only [go_sem, Bool.false_and, new_set, Int.reduceBEq, Int.reduceBNe, Int.reduceNeg, not_true_eq_false, beq_self_eq_true, bne_self_eq_false, Bool.false_eq_true, if_false, if_true, Int.cast_ofNat_Int, decide_true, decide_false, reduceCtorEq, Nat.reduceEqDiff, Nat.reduceAdd, ne_eq, not_false_eq_true, Option.map_some, Option.bind_some, Option.map_none, Option.bind_none, true_and, and_true, Bool.not_true, Bool.not_false, Nat.reduceLeDiff, Nat.reduceMul, Nat.reduceSub, Nat.le_refl, Int.reduceToNat, Int.reduceLT, Int.reduceLE, Nat.one_mul, Nat.mul_one]
  refine gC.of (spNorm ho1.sl ho1.lt (by omega)) ?_
  rintro nv m2 ⟨r, hN, hon, hx2⟩
  simp only [go_sem, Bool.false_and, new_set, Int.reduceBEq, Int.reduceBNe, Int.reduceNeg, not_true_eq_false, beq_self_eq_true, bne_self_eq_false, Bool.false_eq_true, if_false, if_true, Int.cast_ofNat_Int, decide_true, decide_false, reduceCtorEq, Nat.reduceEqDiff, Nat.reduceAdd, ne_eq, not_false_eq_true, Option.map_some, Option.bind_some, Option.map_none, Option.bind_none, true_and, and_true, Bool.not_true, Bool.not_false, Nat.reduceLeDiff, Nat.reduceMul, Nat.reduceSub, Nat.le_refl, Int.reduceToNat, Int.reduceLT, Int.reduceLE, Nat.one_mul, Nat.mul_one]
  have hx02 := hx1.trans hx2
  refine gC.of (spOf (hs0.keep hb0 hx02) (hb0.keep hx02) (by omega)) ?_
  rintro v3 m3 ⟨ho3, hx3⟩
  simp only [go_sem, Bool.false_and, new_set, Int.reduceBEq, Int.reduceBNe, Int.reduceNeg, not_true_eq_false, beq_self_eq_true, bne_self_eq_false, Bool.false_eq_true, if_false, if_true, Int.cast_ofNat_Int, decide_true, decide_false, reduceCtorEq, Nat.reduceEqDiff, Nat.reduceAdd, ne_eq, not_false_eq_true, Option.map_some, Option.bind_some, Option.map_none, Option.bind_none, true_and, and_true, Bool.not_true, Bool.not_false, Nat.reduceLeDiff, Nat.reduceMul, Nat.reduceSub, Nat.le_refl, Int.reduceToNat, Int.reduceLT, Int.reduceLE, Nat.one_mul, Nat.mul_one]
  refine gC.of (spCheck ho3.sl ho3.lt (by omega)) ?_
  rintro ev m4 ⟨hck, hx4⟩
  have hx24 := hx3.trans hx4
  have hx04 := hx02.trans hx24
  simp only [go_sem, Bool.false_and, new_set, Int.reduceBEq, Int.reduceBNe, Int.reduceNeg, not_true_eq_false, beq_self_eq_true, bne_self_eq_false, Bool.false_eq_true, if_false, if_true, Int.cast_ofNat_Int, decide_true, decide_false, reduceCtorEq, Nat.reduceEqDiff, Nat.reduceAdd, ne_eq, not_false_eq_true, Option.map_some, Option.bind_some, Option.map_none, Option.bind_none, true_and, and_true, Bool.not_true, Bool.not_false, Nat.reduceLeDiff, Nat.reduceMul, Nat.reduceSub, Nat.le_refl, Int.reduceToNat, Int.reduceLT, Int.reduceLE, Nat.one_mul, Nat.mul_one]
  refine gC.of (refOp (k := 0) (b := []) (hs0.keep hb0 hx04) (hb0.keep hx04) (.nil rfl rfl) trivial (by omega) (by simp)) ?_
  rintro ov m5 ⟨r', ⟨hR', hM'⟩, hrl', hoo, hx5⟩
  have hnr := hon.keep (hx24.trans hx5)
  have hrr : r' = r := hR'.eq hN.1 fun y => by rw [hM', kin0n, hN.2.1]
  subst hrr
  simp only [go_sem, Bool.false_and, new_set, Int.reduceBEq, Int.reduceBNe, Int.reduceNeg, not_true_eq_false, beq_self_eq_true, bne_self_eq_false, Bool.false_eq_true, if_false, if_true, Int.cast_ofNat_Int, decide_true, decide_false, reduceCtorEq, Nat.reduceEqDiff, Nat.reduceAdd, ne_eq, not_false_eq_true, Option.map_some, Option.bind_some, Option.map_none, Option.bind_none, true_and, and_true, Bool.not_true, Bool.not_false, Nat.reduceLeDiff, Nat.reduceMul, Nat.reduceSub, Nat.le_refl, Int.reduceToNat, Int.reduceLT, Int.reduceLE, Nat.one_mul, Nat.mul_one]
  refine gC.of (spSame hnr.sl hoo.sl (by have := hN.2.2; omega)) ?_
  rintro _ _ ⟨rfl, hm⟩
  subst hm
  have e1 : decide (r' = r') = true := decide_eq_true rfl
  have hx05 := hx04.trans hx5
  simp only [go_sem, Bool.false_and, new_set, Int.reduceBEq, Int.reduceBNe, Int.reduceNeg, not_true_eq_false, beq_self_eq_true, bne_self_eq_false, Bool.false_eq_true, if_false, if_true, Int.cast_ofNat_Int, decide_true, decide_false, reduceCtorEq, Nat.reduceEqDiff, Nat.reduceAdd, ne_eq, not_false_eq_true, Option.map_some, Option.bind_some, Option.map_none, Option.bind_none, true_and, and_true, Bool.not_true, Bool.not_false, Nat.reduceLeDiff, Nat.reduceMul, Nat.reduceSub, Nat.le_refl, Int.reduceToNat, Int.reduceLT, Int.reduceLE, Nat.one_mul, Nat.mul_one, e1]
  have hs5 := hs0.keep hb0 hx05
  have hb5 := hb0.keep hx05
  have hRn : ((r' : List Sp) = r') := rfl
  have hlr := hN.2.2
  obtain ⟨E, hE, hE2, hE3⟩ : ∃ E : Int, ev = .int .i64 E ∧ (E == 0 ↔ Rt L) ∧ (E = 0 ∨ E = 1) := by
    rcases hck with ⟨h, rfl⟩ | ⟨h, rfl⟩
    · exact ⟨0, rfl, by simp [h], .inl rfl⟩
    · exact ⟨1, rfl, by simp [h], .inr rfl⟩
  subst hE
  simp only [go_sem, Bool.false_and, new_set, Int.reduceBEq, Int.reduceBNe, Int.reduceNeg, not_true_eq_false, beq_self_eq_true, bne_self_eq_false, Bool.false_eq_true, if_false, if_true, Int.cast_ofNat_Int, decide_true, decide_false, reduceCtorEq, Nat.reduceEqDiff, Nat.reduceAdd, ne_eq, not_false_eq_true, Option.map_some, Option.bind_some, Option.map_none, Option.bind_none, true_and, and_true, Bool.not_true, Bool.not_false, Nat.reduceLeDiff, Nat.reduceMul, Nat.reduceSub, Nat.le_refl, Int.reduceToNat, Int.reduceLT, Int.reduceLE, Nat.one_mul, Nat.mul_one]
  refine gC.of (refRight hs5 (by omega)) ?_
  rintro _ _ ⟨⟨bR, rfl, hbR⟩, hm⟩
  subst hm
  have e2 : ((E == 0) == bR) = true := by
    rw [beq_iff_eq, Bool.eq_iff_iff, hbR]; exact hE2
  simp only [go_sem, Bool.false_and, new_set, Int.reduceBEq, Int.reduceBNe, Int.reduceNeg, not_true_eq_false, beq_self_eq_true, bne_self_eq_false, Bool.false_eq_true, if_false, if_true, Int.cast_ofNat_Int, decide_true, decide_false, reduceCtorEq, Nat.reduceEqDiff, Nat.reduceAdd, ne_eq, not_false_eq_true, Option.map_some, Option.bind_some, Option.map_none, Option.bind_none, true_and, and_true, Bool.not_true, Bool.not_false, Nat.reduceLeDiff, Nat.reduceMul, Nat.reduceSub, Nat.le_refl, Int.reduceToNat, Int.reduceLT, Int.reduceLE, Nat.one_mul, Nat.mul_one, e2]
  rcases hE3 with rfl | rfl
  all_goals
    simp only [go_sem, Bool.false_and, new_set, Int.reduceBEq, Int.reduceBNe, Int.reduceNeg, not_true_eq_false, beq_self_eq_true, bne_self_eq_false, Bool.false_eq_true, if_false, if_true, Int.cast_ofNat_Int, decide_true, decide_false, reduceCtorEq, Nat.reduceEqDiff, Nat.reduceAdd, ne_eq, not_false_eq_true, Option.map_some, Option.bind_some, Option.map_none, Option.bind_none, true_and, and_true, Bool.not_true, Bool.not_false, Nat.reduceLeDiff, Nat.reduceMul, Nat.reduceSub, Nat.le_refl, Int.reduceToNat, Int.reduceLT, Int.reduceLE, Nat.one_mul, Nat.mul_one]
    refine gC.of (spCheck hnr.sl hnr.lt (by omega)) ?_
    rintro _ m6 ⟨hck2, hx6⟩
    rcases hck2 with ⟨-, rfl⟩ | ⟨h, -⟩
    case inr => exact absurd hN.1 h
    simp only [go_sem, Bool.false_and, new_set, Int.reduceBEq, Int.reduceBNe, Int.reduceNeg, not_true_eq_false, beq_self_eq_true, bne_self_eq_false, Bool.false_eq_true, if_false, if_true, Int.cast_ofNat_Int, decide_true, decide_false, reduceCtorEq, Nat.reduceEqDiff, Nat.reduceAdd, ne_eq, not_false_eq_true, Option.map_some, Option.bind_some, Option.map_none, Option.bind_none, true_and, and_true, Bool.not_true, Bool.not_false, Nat.reduceLeDiff, Nat.reduceMul, Nat.reduceSub, Nat.le_refl, Int.reduceToNat, Int.reduceLT, Int.reduceLE, Nat.one_mul, Nat.mul_one]
    refine gC.of (spOf (hs5.keep hb5 hx6) (hb5.keep hx6) (by omega)) ?_
    rintro v7 m7 ⟨ho7, hx7⟩
    simp only [go_sem, Bool.false_and, new_set, Int.reduceBEq, Int.reduceBNe, Int.reduceNeg, not_true_eq_false, beq_self_eq_true, bne_self_eq_false, Bool.false_eq_true, if_false, if_true, Int.cast_ofNat_Int, decide_true, decide_false, reduceCtorEq, Nat.reduceEqDiff, Nat.reduceAdd, ne_eq, not_false_eq_true, Option.map_some, Option.bind_some, Option.map_none, Option.bind_none, true_and, and_true, Bool.not_true, Bool.not_false, Nat.reduceLeDiff, Nat.reduceMul, Nat.reduceSub, Nat.le_refl, Int.reduceToNat, Int.reduceLT, Int.reduceLE, Nat.one_mul, Nat.mul_one]
    refine gC.of (spHas ho7.sl ho7.lt (by omega)) ?_
    rintro _ m8 ⟨rfl, hx8⟩
    have hx58 := hx6.trans (hx7.trans hx8)
    simp only [go_sem, Bool.false_and, new_set, Int.reduceBEq, Int.reduceBNe, Int.reduceNeg, not_true_eq_false, beq_self_eq_true, bne_self_eq_false, Bool.false_eq_true, if_false, if_true, Int.cast_ofNat_Int, decide_true, decide_false, reduceCtorEq, Nat.reduceEqDiff, Nat.reduceAdd, ne_eq, not_false_eq_true, Option.map_some, Option.bind_some, Option.map_none, Option.bind_none, true_and, and_true, Bool.not_true, Bool.not_false, Nat.reduceLeDiff, Nat.reduceMul, Nat.reduceSub, Nat.le_refl, Int.reduceToNat, Int.reduceLT, Int.reduceLE, Nat.one_mul, Nat.mul_one]
    refine gC.of (refHas (hs5.keep hb5 hx58) (by omega)) ?_
    rintro _ _ ⟨rfl, hm⟩
    subst hm
    have e3 : (hasS L x == hasS L x) = true := beq_self_eq_true _
    simp only [go_sem, Bool.false_and, new_set, Int.reduceBEq, Int.reduceBNe, Int.reduceNeg, not_true_eq_false, beq_self_eq_true, bne_self_eq_false, Bool.false_eq_true, if_false, if_true, Int.cast_ofNat_Int, decide_true, decide_false, reduceCtorEq, Nat.reduceEqDiff, Nat.reduceAdd, ne_eq, not_false_eq_true, Option.map_some, Option.bind_some, Option.map_none, Option.bind_none, true_and, and_true, Bool.not_true, Bool.not_false, Nat.reduceLeDiff, Nat.reduceMul, Nat.reduceSub, Nat.le_refl, Int.reduceToNat, Int.reduceLT, Int.reduceLE, Nat.one_mul, Nat.mul_one, e3]
    refine gC.of (spHas (hnr.keep hx58).sl (hnr.keep hx58).lt (by omega)) ?_
    rintro _ m9 ⟨rfl, hx9⟩
    simp only [go_sem, Bool.false_and, new_set, Int.reduceBEq, Int.reduceBNe, Int.reduceNeg, not_true_eq_false, beq_self_eq_true, bne_self_eq_false, Bool.false_eq_true, if_false, if_true, Int.cast_ofNat_Int, decide_true, decide_false, reduceCtorEq, Nat.reduceEqDiff, Nat.reduceAdd, ne_eq, not_false_eq_true, Option.map_some, Option.bind_some, Option.map_none, Option.bind_none, true_and, and_true, Bool.not_true, Bool.not_false, Nat.reduceLeDiff, Nat.reduceMul, Nat.reduceSub, Nat.le_refl, Int.reduceToNat, Int.reduceLT, Int.reduceLE, Nat.one_mul, Nat.mul_one]
    have hx59 := hx58.trans hx9
    refine gC.of (refHas (hs5.keep hb5 hx59) (by omega)) ?_
    rintro _ _ ⟨rfl, hm⟩
    subst hm
    have e4 : (hasS r' x == hasS L x) = true := by rw [beq_iff_eq]; exact hasS_eq (hN.2.1 x)
    simp only [go_sem, Bool.false_and, new_set, Int.reduceBEq, Int.reduceBNe, Int.reduceNeg, not_true_eq_false, beq_self_eq_true, bne_self_eq_false, Bool.false_eq_true, if_false, if_true, Int.cast_ofNat_Int, decide_true, decide_false, reduceCtorEq, Nat.reduceEqDiff, Nat.reduceAdd, ne_eq, not_false_eq_true, Option.map_some, Option.bind_some, Option.map_none, Option.bind_none, true_and, and_true, Bool.not_true, Bool.not_false, Nat.reduceLeDiff, Nat.reduceMul, Nat.reduceSub, Nat.le_refl, Int.reduceToNat, Int.reduceLT, Int.reduceLE, Nat.one_mul, Nat.mul_one, e4]
    refine gC.of (spOf (hs5.keep hb5 hx59) (hb5.keep hx59) (by omega)) ?_
    rintro v10 m10 ⟨ho10, hx10⟩
    simp only [go_sem, Bool.false_and, new_set, Int.reduceBEq, Int.reduceBNe, Int.reduceNeg, not_true_eq_false, beq_self_eq_true, bne_self_eq_false, Bool.false_eq_true, if_false, if_true, Int.cast_ofNat_Int, decide_true, decide_false, reduceCtorEq, Nat.reduceEqDiff, Nat.reduceAdd, ne_eq, not_false_eq_true, Option.map_some, Option.bind_some, Option.map_none, Option.bind_none, true_and, and_true, Bool.not_true, Bool.not_false, Nat.reduceLeDiff, Nat.reduceMul, Nat.reduceSub, Nat.le_refl, Int.reduceToNat, Int.reduceLT, Int.reduceLE, Nat.one_mul, Nat.mul_one]
    refine gC.of (spTotal ho10.sl ho10.lt (by omega)) ?_
    rintro _ m11 ⟨⟨r2, hN2, rfl⟩, hx11⟩
    simp only [go_sem, Bool.false_and, new_set, Int.reduceBEq, Int.reduceBNe, Int.reduceNeg, not_true_eq_false, beq_self_eq_true, bne_self_eq_false, Bool.false_eq_true, if_false, if_true, Int.cast_ofNat_Int, decide_true, decide_false, reduceCtorEq, Nat.reduceEqDiff, Nat.reduceAdd, ne_eq, not_false_eq_true, Option.map_some, Option.bind_some, Option.map_none, Option.bind_none, true_and, and_true, Bool.not_true, Bool.not_false, Nat.reduceLeDiff, Nat.reduceMul, Nat.reduceSub, Nat.le_refl, Int.reduceToNat, Int.reduceLT, Int.reduceLE, Nat.one_mul, Nat.mul_one]
    have hx511 := hx59.trans (hx10.trans hx11)
    refine gC.of (refTotal (hs5.keep hb5 hx511) (hb5.keep hx511) (by omega)) ?_
    rintro _ m12 ⟨⟨r3, ⟨hR3, hM3⟩, rfl⟩, hx12⟩
    have hr23 : r2 = r3 := hN2.1.eq hR3 fun y => by rw [hM3, hN2.2.1]
    subst hr23
    have e5 : (sumB r2 == sumB r2) = true := beq_self_eq_true _
    simp only [go_sem, Bool.false_and, new_set, Int.reduceBEq, Int.reduceBNe, Int.reduceNeg, not_true_eq_false, beq_self_eq_true, bne_self_eq_false, Bool.false_eq_true, if_false, if_true, Int.cast_ofNat_Int, decide_true, decide_false, reduceCtorEq, Nat.reduceEqDiff, Nat.reduceAdd, ne_eq, not_false_eq_true, Option.map_some, Option.bind_some, Option.map_none, Option.bind_none, true_and, and_true, Bool.not_true, Bool.not_false, Nat.reduceLeDiff, Nat.reduceMul, Nat.reduceSub, Nat.le_refl, Int.reduceToNat, Int.reduceLT, Int.reduceLE, Nat.one_mul, Nat.mul_one, e5]
    refine gC.of (ok_spec R.law05_awake) ?_
    rintro _ m_ ⟨rfl, hm_⟩
    replace hm_ := hm_.symm
    subst hm_
    simp only [go_sem, Bool.false_and, new_set, Int.reduceBEq, Int.reduceBNe, Int.reduceNeg, not_true_eq_false, beq_self_eq_true, bne_self_eq_false, Bool.false_eq_true, if_false, if_true, Int.cast_ofNat_Int, decide_true, decide_false, reduceCtorEq, Nat.reduceEqDiff, Nat.reduceAdd, ne_eq, not_false_eq_true, Option.map_some, Option.bind_some, Option.map_none, Option.bind_none, true_and, and_true, Bool.not_true, Bool.not_false, Nat.reduceLeDiff, Nat.reduceMul, Nat.reduceSub, Nat.le_refl, Int.reduceToNat, Int.reduceLT, Int.reduceLE, Nat.one_mul, Nat.mul_one]
end Go.Am


/- SpansNorm, of arguments as they are read. -/
set_option linter.unusedVariables false
namespace Go.Am
theorem law05_SpansNorm_walk (m : Mem) (us : List Value) (h : RdAs m [(false, [.sl [.int .i64, .int .i64]]), (false, [.int .i64])] us) : WC R F.law05_SpansNorm us m fun v _ => v = .bool true := by
  obtain ⟨_, _, rfl, h1, h⟩ := h.one; obtain ⟨_, _, rfl, h2, h⟩ := h.one; cases h.none
  obtain ⟨l, hs, hb, hc⟩ := sp_read h1.rd; obtain ⟨x, rfl, -⟩ := h2.rd.i64
  exact SpansNorm_spec hs hb hc
end Go.Am
