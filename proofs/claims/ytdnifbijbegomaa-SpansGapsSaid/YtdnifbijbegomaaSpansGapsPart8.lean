/- Parts of the proofs of the statements of this seat: SpansW6, SpansX1, SpansD2, SpansW7, SpansX2, WSpansGaps, WSpansBoth, WSpansParts. No conditions. -/
import Derived.Test.YtdnifbijbegomaaSpansGapsPart7
import Derived.Test.YtdnifbijbegomaaSpansGapsPart5
set_option linter.unusedVariables false
set_option linter.unusedSimpArgs false

/- Spans: the law's own words; how many numbers. -/
set_option linter.unusedVariables false
set_option linter.unusedSimpArgs false
namespace Go.Am
variable {m : Mem}

theorem spFew {l : List Sp} {v : Value} (hs : Sl m 2 l.length (l.flatMap spV) v) (hb : SlLt m v) (hc : Cut 2 m v) :
    WC R F.law05_few [v] m fun r m' => (Sl m 2 (l.take 30).length ((l.take 30).flatMap spV) r ∧ SlLt m r ∧ Cut 2 m r) ∧ m' = m := by
  refine WC.of R.law05_few rfl ?_
  simp only [RC.law05_few, go_sem, Bool.false_and, new_set, Int.reduceBEq, Int.reduceBNe, Int.reduceNeg, not_true_eq_false, beq_self_eq_true, bne_self_eq_false, Bool.false_eq_true, if_false, if_true, Int.cast_ofNat_Int, decide_true, decide_false, reduceCtorEq, Nat.reduceEqDiff, Nat.reduceAdd, ne_eq, not_false_eq_true, Option.map_some, Option.bind_some, Option.map_none, Option.bind_none, true_and, and_true, Bool.not_true, Bool.not_false, Nat.reduceLeDiff, Nat.reduceMul, Nat.reduceSub, Nat.le_refl, Int.reduceToNat, Int.reduceLT, Int.reduceLE, Nat.one_mul, Nat.mul_one, hs.len]
  have e : (if (30 : Int) < l.length then (30 : Int) else l.length) = ((min l.length 30 : Nat) : Int) := by
    split <;> omega
  have e2 : (if (l.length : Int) < 30 then (l.length : Int) else 30) = ((min l.length 30 : Nat) : Int) := by
    split <;> omega
  try simp only [go_sem, Bool.false_and, new_set, Int.reduceBEq, Int.reduceBNe, Int.reduceNeg, not_true_eq_false, beq_self_eq_true, bne_self_eq_false, Bool.false_eq_true, if_false, if_true, Int.cast_ofNat_Int, decide_true, decide_false, reduceCtorEq, Nat.reduceEqDiff, Nat.reduceAdd, ne_eq, not_false_eq_true, Option.map_some, Option.bind_some, Option.map_none, Option.bind_none, true_and, and_true, Bool.not_true, Bool.not_false, Nat.reduceLeDiff, Nat.reduceMul, Nat.reduceSub, Nat.le_refl, Int.reduceToNat, Int.reduceLT, Int.reduceLE, Nat.one_mul, Nat.mul_one, e, e2]
  obtain ⟨v', a1, a2, a3, a4⟩ := hs.to hc (k := .i64) (i := min l.length 30) (by omega)
  simp only [go_sem, Bool.false_and, new_set, Int.reduceBEq, Int.reduceBNe, Int.reduceNeg, not_true_eq_false, beq_self_eq_true, bne_self_eq_false, Bool.false_eq_true, if_false, if_true, Int.cast_ofNat_Int, decide_true, decide_false, reduceCtorEq, Nat.reduceEqDiff, Nat.reduceAdd, ne_eq, not_false_eq_true, Option.map_some, Option.bind_some, Option.map_none, Option.bind_none, true_and, and_true, Bool.not_true, Bool.not_false, Nat.reduceLeDiff, Nat.reduceMul, Nat.reduceSub, Nat.le_refl, Int.reduceToNat, Int.reduceLT, Int.reduceLE, Nat.one_mul, Nat.mul_one, a1]
  have h : (l.take 30).length = min l.length 30 := by rw [List.length_take]; omega
  rw [h]
  have h2 : (l.flatMap spV).take (min l.length 30 * 2) = (l.take 30).flatMap spV := by
    have e : l.flatMap spV = (l.take 30).flatMap spV ++ (l.drop 30).flatMap spV := by rw [← List.flatMap_append, List.take_append_drop]
    rw [e, List.take_left' (by rw [spFlat, h])]
  rw [h2] at a2
  exact ⟨a2, a3 hb, a4⟩

theorem spOf {l : List Sp} {v : Value} (hs : Sl m 2 l.length (l.flatMap spV) v) (hb : SlLt m v) (hl : l.length < 1000000) :
    WC R F.law05_of [v] m fun r m' => Own m m' 2 l.length (l.flatMap spV) r ∧ Ext m m' := by
  refine WC.of R.law05_of rfl ?_
  simp only [RC.law05_of, go_sem, Bool.false_and, new_set, Int.reduceBEq, Int.reduceBNe, Int.reduceNeg, not_true_eq_false, beq_self_eq_true, bne_self_eq_false, Bool.false_eq_true, if_false, if_true, Int.cast_ofNat_Int, decide_true, decide_false, reduceCtorEq, Nat.reduceEqDiff, Nat.reduceAdd, ne_eq, not_false_eq_true, Option.map_some, Option.bind_some, Option.map_none, Option.bind_none, true_and, and_true, Bool.not_true, Bool.not_false, Nat.reduceLeDiff, Nat.reduceMul, Nat.reduceSub, Nat.le_refl, Int.reduceToNat, Int.reduceLT, Int.reduceLE, Nat.one_mul, Nat.mul_one]
  refine WL.of (fun n e m' => ∃ (i : Nat) (rv : Value), i ≤ l.length ∧ n = l.length - i ∧ e = [(0, v), (3, rv), (4, .int .i64 i)] ∧ Own m m' 2 i ((l.take i).flatMap spV) rv ∧ Ext m m') l.length
    ⟨0, .slice none 0 0, by omega, by omega, by simp only [go_sem, Bool.false_and, new_set, Int.reduceBEq, Int.reduceBNe, Int.reduceNeg, not_true_eq_false, beq_self_eq_true, bne_self_eq_false, Bool.false_eq_true, if_false, if_true, Int.cast_ofNat_Int, decide_true, decide_false, reduceCtorEq, Nat.reduceEqDiff, Nat.reduceAdd, ne_eq, not_false_eq_true, Option.map_some, Option.bind_some, Option.map_none, Option.bind_none, true_and, and_true, Bool.not_true, Bool.not_false, Nat.reduceLeDiff, Nat.reduceMul, Nat.reduceSub, Nat.le_refl, Int.reduceToNat, Int.reduceLT, Int.reduceLE, Nat.one_mul, Nat.mul_one] <;> rfl, .nil rfl rfl, Ext.refl _⟩ ?_
  rintro _ _ m1 ⟨i, rv, hi, rfl, rfl, ho, hx⟩
  have hs1 := hs.keep hb hx
  simp only [RB.law05_of_1, go_sem, Bool.false_and, new_set, Int.reduceBEq, Int.reduceBNe, Int.reduceNeg, not_true_eq_false, beq_self_eq_true, bne_self_eq_false, Bool.false_eq_true, if_false, if_true, Int.cast_ofNat_Int, decide_true, decide_false, reduceCtorEq, Nat.reduceEqDiff, Nat.reduceAdd, ne_eq, not_false_eq_true, Option.map_some, Option.bind_some, Option.map_none, Option.bind_none, true_and, and_true, Bool.not_true, Bool.not_false, Nat.reduceLeDiff, Nat.reduceMul, Nat.reduceSub, Nat.le_refl, Int.reduceToNat, Int.reduceLT, Int.reduceLE, Nat.one_mul, Nat.mul_one, hs1.len]
  refine gT.of (fun g1' => ?_) (fun g1' => ?_) <;> (have g1 := g1'; try simp only [decide_eq_true_eq, decide_eq_false_iff_not, beq_iff_eq, bne_iff_ne, beq_eq_false_iff_ne, ne_eq, Bool.not_eq_true', Bool.not_eq_false', bne_eq_false_iff_eq, Int.not_lt, Int.not_le] at g1)
  · have hil : i < l.length := by omega
    have s1 := step1 (show i < 1000000 by omega)
    obtain ⟨p, o, a1, -, a3, a4⟩ := hs1.elem spV_len (k := .i64) hil
    have c1 : aLoad false 1 m1 (.pointer (some ⟨p, o + 0, none⟩)) = some (.int .i64 l[i].1) := a3 0 (by omega)
    have c2 : aLoad false 1 m1 (.pointer (some ⟨p, o + 1, none⟩)) = some (.int .i64 l[i].2) := a3 1 (by omega)
    obtain ⟨v', m', f1, f2, f3⟩ := ho.appD (by_ := 16) (N := 15) (s := 12) (t := 13) (es := spV l[i]) hx rfl rfl (by omega) (by omega) (by omega) (by omega)
    simp only [spV] at f1
    simp only [go_sem, Bool.false_and, new_set, Int.reduceBEq, Int.reduceBNe, Int.reduceNeg, not_true_eq_false, beq_self_eq_true, bne_self_eq_false, Bool.false_eq_true, if_false, if_true, Int.cast_ofNat_Int, decide_true, decide_false, reduceCtorEq, Nat.reduceEqDiff, Nat.reduceAdd, ne_eq, not_false_eq_true, Option.map_some, Option.bind_some, Option.map_none, Option.bind_none, true_and, and_true, Bool.not_true, Bool.not_false, Nat.reduceLeDiff, Nat.reduceMul, Nat.reduceSub, Nat.le_refl, Int.reduceToNat, Int.reduceLT, Int.reduceLE, Nat.one_mul, Nat.mul_one, g1', a1, c1, c2]
    rw [f1]
    simp only [go_sem, Bool.false_and, new_set, Int.reduceBEq, Int.reduceBNe, Int.reduceNeg, not_true_eq_false, beq_self_eq_true, bne_self_eq_false, Bool.false_eq_true, if_false, if_true, Int.cast_ofNat_Int, decide_true, decide_false, reduceCtorEq, Nat.reduceEqDiff, Nat.reduceAdd, ne_eq, not_false_eq_true, Option.map_some, Option.bind_some, Option.map_none, Option.bind_none, true_and, and_true, Bool.not_true, Bool.not_false, Nat.reduceLeDiff, Nat.reduceMul, Nat.reduceSub, Nat.le_refl, Int.reduceToNat, Int.reduceLT, Int.reduceLE, Nat.one_mul, Nat.mul_one, s1]
    refine ⟨l.length - (i + 1), by omega, i + 1, v', by omega, rfl, rfl, ?_, f3⟩
    rw [List.take_succ_eq_append_getElem hil, spSnoc]
    exact f2
  · have : i = l.length := by omega
    subst this
    rw [List.take_length] at ho
    simp only [go_sem, Bool.false_and, new_set, Int.reduceBEq, Int.reduceBNe, Int.reduceNeg, not_true_eq_false, beq_self_eq_true, bne_self_eq_false, Bool.false_eq_true, if_false, if_true, Int.cast_ofNat_Int, decide_true, decide_false, reduceCtorEq, Nat.reduceEqDiff, Nat.reduceAdd, ne_eq, not_false_eq_true, Option.map_some, Option.bind_some, Option.map_none, Option.bind_none, true_and, and_true, Bool.not_true, Bool.not_false, Nat.reduceLeDiff, Nat.reduceMul, Nat.reduceSub, Nat.le_refl, Int.reduceToNat, Int.reduceLT, Int.reduceLE, Nat.one_mul, Nat.mul_one, g1']
    exact ⟨ho, hx⟩

theorem spSame {a b : List Sp} {va vbv : Value} (ha : Sl m 2 a.length (a.flatMap spV) va) (hb : Sl m 2 b.length (b.flatMap spV) vbv) (hal : a.length < 1000000) :
    WC R F.law05_same [va, vbv] m fun r m' => r = .bool (decide (a = b)) ∧ m' = m := by
  refine WC.of R.law05_same rfl ?_
  simp only [RC.law05_same, go_sem, Bool.false_and, new_set, Int.reduceBEq, Int.reduceBNe, Int.reduceNeg, not_true_eq_false, beq_self_eq_true, bne_self_eq_false, Bool.false_eq_true, if_false, if_true, Int.cast_ofNat_Int, decide_true, decide_false, reduceCtorEq, Nat.reduceEqDiff, Nat.reduceAdd, ne_eq, not_false_eq_true, Option.map_some, Option.bind_some, Option.map_none, Option.bind_none, true_and, and_true, Bool.not_true, Bool.not_false, Nat.reduceLeDiff, Nat.reduceMul, Nat.reduceSub, Nat.le_refl, Int.reduceToNat, Int.reduceLT, Int.reduceLE, Nat.one_mul, Nat.mul_one, ha.len, hb.len]
  by_cases hlen : a.length = b.length
  · have e0 : ((a.length : Int) != b.length) = false := by rw [hlen]; exact bne_self_eq_false _
    simp only [go_sem, Bool.false_and, new_set, Int.reduceBEq, Int.reduceBNe, Int.reduceNeg, not_true_eq_false, beq_self_eq_true, bne_self_eq_false, Bool.false_eq_true, if_false, if_true, Int.cast_ofNat_Int, decide_true, decide_false, reduceCtorEq, Nat.reduceEqDiff, Nat.reduceAdd, ne_eq, not_false_eq_true, Option.map_some, Option.bind_some, Option.map_none, Option.bind_none, true_and, and_true, Bool.not_true, Bool.not_false, Nat.reduceLeDiff, Nat.reduceMul, Nat.reduceSub, Nat.le_refl, Int.reduceToNat, Int.reduceLT, Int.reduceLE, Nat.one_mul, Nat.mul_one, e0]
    refine WL.of (fun n e m' => ∃ i : Nat, i ≤ a.length ∧ n = a.length - i ∧ m' = m ∧ e = [(0, va), (1, vbv), (5, .int .i64 i)] ∧ a.take i = b.take i) a.length
      ⟨0, by omega, by omega, rfl, by simp only [go_sem, Bool.false_and, new_set, Int.reduceBEq, Int.reduceBNe, Int.reduceNeg, not_true_eq_false, beq_self_eq_true, bne_self_eq_false, Bool.false_eq_true, if_false, if_true, Int.cast_ofNat_Int, decide_true, decide_false, reduceCtorEq, Nat.reduceEqDiff, Nat.reduceAdd, ne_eq, not_false_eq_true, Option.map_some, Option.bind_some, Option.map_none, Option.bind_none, true_and, and_true, Bool.not_true, Bool.not_false, Nat.reduceLeDiff, Nat.reduceMul, Nat.reduceSub, Nat.le_refl, Int.reduceToNat, Int.reduceLT, Int.reduceLE, Nat.one_mul, Nat.mul_one] <;> rfl, rfl⟩ ?_
    rintro _ _ _ ⟨i, hi, rfl, rfl, rfl, heq⟩
    simp only [RB.law05_same_1, go_sem, Bool.false_and, new_set, Int.reduceBEq, Int.reduceBNe, Int.reduceNeg, not_true_eq_false, beq_self_eq_true, bne_self_eq_false, Bool.false_eq_true, if_false, if_true, Int.cast_ofNat_Int, decide_true, decide_false, reduceCtorEq, Nat.reduceEqDiff, Nat.reduceAdd, ne_eq, not_false_eq_true, Option.map_some, Option.bind_some, Option.map_none, Option.bind_none, true_and, and_true, Bool.not_true, Bool.not_false, Nat.reduceLeDiff, Nat.reduceMul, Nat.reduceSub, Nat.le_refl, Int.reduceToNat, Int.reduceLT, Int.reduceLE, Nat.one_mul, Nat.mul_one, ha.len]
    refine gT.of (fun g1' => ?_) (fun g1' => ?_) <;> (have g1 := g1'; try simp only [decide_eq_true_eq, decide_eq_false_iff_not, beq_iff_eq, bne_iff_ne, beq_eq_false_iff_ne, ne_eq, Bool.not_eq_true', Bool.not_eq_false', bne_eq_false_iff_eq, Int.not_lt, Int.not_le] at g1)
    · have hil : i < a.length := by omega
      have hib : i < b.length := by omega
      have s1 := step1 (show i < 1000000 by omega)
      obtain ⟨p, o, a1, -, a3, -⟩ := ha.elem spV_len (k := .i64) hil
      obtain ⟨p', o', b1, -, b3, -⟩ := hb.elem spV_len (k := .i64) hib
      have c1 : aLoad false 1 _ (.pointer (some ⟨p, o + 0, none⟩)) = some (.int .i64 a[i].1) := a3 0 (by omega)
      have c2 : aLoad false 1 _ (.pointer (some ⟨p, o + 1, none⟩)) = some (.int .i64 a[i].2) := a3 1 (by omega)
      have d1 : aLoad false 1 _ (.pointer (some ⟨p', o' + 0, none⟩)) = some (.int .i64 b[i].1) := b3 0 (by omega)
      have d2 : aLoad false 1 _ (.pointer (some ⟨p', o' + 1, none⟩)) = some (.int .i64 b[i].2) := b3 1 (by omega)
      have no : a[i] ≠ b[i] → decide (a = b) = false := fun h => decide_eq_false fun e => by subst e; exact h rfl
      by_cases g2 : a[i].1 = b[i].1
      · have e2 : (a[i].1 != b[i].1) = false := by rw [g2]; exact bne_self_eq_false _
        by_cases g3 : a[i].2 = b[i].2
        · have e3 : (a[i].2 != b[i].2) = false := by rw [g3]; exact bne_self_eq_false _
          simp only [go_sem, Bool.false_and, new_set, Int.reduceBEq, Int.reduceBNe, Int.reduceNeg, not_true_eq_false, beq_self_eq_true, bne_self_eq_false, Bool.false_eq_true, if_false, if_true, Int.cast_ofNat_Int, decide_true, decide_false, reduceCtorEq, Nat.reduceEqDiff, Nat.reduceAdd, ne_eq, not_false_eq_true, Option.map_some, Option.bind_some, Option.map_none, Option.bind_none, true_and, and_true, Bool.not_true, Bool.not_false, Nat.reduceLeDiff, Nat.reduceMul, Nat.reduceSub, Nat.le_refl, Int.reduceToNat, Int.reduceLT, Int.reduceLE, Nat.one_mul, Nat.mul_one, g1', a1, b1, c1, d1, e2, c2, d2, e3, s1]
          refine ⟨a.length - (i + 1), by omega, i + 1, by omega, rfl, rfl, ?_⟩
          rw [List.take_succ_eq_append_getElem hil, List.take_succ_eq_append_getElem hib, heq, show a[i] = b[i] from Prod.ext g2 g3]
        · have e3 : (a[i].2 != b[i].2) = true := by simpa using g3
          simp only [go_sem, Bool.false_and, new_set, Int.reduceBEq, Int.reduceBNe, Int.reduceNeg, not_true_eq_false, beq_self_eq_true, bne_self_eq_false, Bool.false_eq_true, if_false, if_true, Int.cast_ofNat_Int, decide_true, decide_false, reduceCtorEq, Nat.reduceEqDiff, Nat.reduceAdd, ne_eq, not_false_eq_true, Option.map_some, Option.bind_some, Option.map_none, Option.bind_none, true_and, and_true, Bool.not_true, Bool.not_false, Nat.reduceLeDiff, Nat.reduceMul, Nat.reduceSub, Nat.le_refl, Int.reduceToNat, Int.reduceLT, Int.reduceLE, Nat.one_mul, Nat.mul_one, g1', a1, b1, c1, d1, e2, c2, d2, e3]
          rw [no (fun e => g3 (by rw [e]))]
      · have e2 : (a[i].1 != b[i].1) = true := by simpa using g2
        simp only [go_sem, Bool.false_and, new_set, Int.reduceBEq, Int.reduceBNe, Int.reduceNeg, not_true_eq_false, beq_self_eq_true, bne_self_eq_false, Bool.false_eq_true, if_false, if_true, Int.cast_ofNat_Int, decide_true, decide_false, reduceCtorEq, Nat.reduceEqDiff, Nat.reduceAdd, ne_eq, not_false_eq_true, Option.map_some, Option.bind_some, Option.map_none, Option.bind_none, true_and, and_true, Bool.not_true, Bool.not_false, Nat.reduceLeDiff, Nat.reduceMul, Nat.reduceSub, Nat.le_refl, Int.reduceToNat, Int.reduceLT, Int.reduceLE, Nat.one_mul, Nat.mul_one, g1', a1, b1, c1, d1, e2]
        rw [no (fun e => g2 (by rw [e]))]
    · have : i = a.length := by omega
      subst this
      rw [List.take_length, hlen, List.take_length] at heq
      simp only [go_sem, Bool.false_and, new_set, Int.reduceBEq, Int.reduceBNe, Int.reduceNeg, not_true_eq_false, beq_self_eq_true, bne_self_eq_false, Bool.false_eq_true, if_false, if_true, Int.cast_ofNat_Int, decide_true, decide_false, reduceCtorEq, Nat.reduceEqDiff, Nat.reduceAdd, ne_eq, not_false_eq_true, Option.map_some, Option.bind_some, Option.map_none, Option.bind_none, true_and, and_true, Bool.not_true, Bool.not_false, Nat.reduceLeDiff, Nat.reduceMul, Nat.reduceSub, Nat.le_refl, Int.reduceToNat, Int.reduceLT, Int.reduceLE, Nat.one_mul, Nat.mul_one, g1']
      rw [decide_eq_true heq]
  · have e0 : ((a.length : Int) != b.length) = true := by rw [bne_iff_ne]; omega
    simp only [go_sem, Bool.false_and, new_set, Int.reduceBEq, Int.reduceBNe, Int.reduceNeg, not_true_eq_false, beq_self_eq_true, bne_self_eq_false, Bool.false_eq_true, if_false, if_true, Int.cast_ofNat_Int, decide_true, decide_false, reduceCtorEq, Nat.reduceEqDiff, Nat.reduceAdd, ne_eq, not_false_eq_true, Option.map_some, Option.bind_some, Option.map_none, Option.bind_none, true_and, and_true, Bool.not_true, Bool.not_false, Nat.reduceLeDiff, Nat.reduceMul, Nat.reduceSub, Nat.le_refl, Int.reduceToNat, Int.reduceLT, Int.reduceLE, Nat.one_mul, Nat.mul_one, e0]
    rw [decide_eq_false (fun e => hlen (by rw [e]))]

theorem spTotal {l : List Sp} {v : Value} (hs : Sl m 2 l.length (l.flatMap spV) v) (hb : SlLt m v) (hl : l.length < 100000) :
    WC R F.spans_Total [v] m fun rv m' => (∃ r, NormOf l r ∧ rv = u64 (sumB r)) ∧ Ext m m' := by
  refine WC.of R.spans_Total rfl ?_
  simp only [RC.spans_Total, go_sem, Bool.false_and, new_set, Int.reduceBEq, Int.reduceBNe, Int.reduceNeg, not_true_eq_false, beq_self_eq_true, bne_self_eq_false, Bool.false_eq_true, if_false, if_true, Int.cast_ofNat_Int, decide_true, decide_false, reduceCtorEq, Nat.reduceEqDiff, Nat.reduceAdd, ne_eq, not_false_eq_true, Option.map_some, Option.bind_some, Option.map_none, Option.bind_none, true_and, and_true, Bool.not_true, Bool.not_false, Nat.reduceLeDiff, Nat.reduceMul, Nat.reduceSub, Nat.le_refl, Int.reduceToNat, Int.reduceLT, Int.reduceLE, Nat.one_mul, Nat.mul_one]
  refine gC.of (spNorm hs hb hl) ?_
  rintro nv m1 ⟨r, hN, ho, hx⟩
  have hrl := hN.2.2
  have hs1 := ho.sl
  have hb1 := ho.lt
  simp only [go_sem, Bool.false_and, new_set, Int.reduceBEq, Int.reduceBNe, Int.reduceNeg, not_true_eq_false, beq_self_eq_true, bne_self_eq_false, Bool.false_eq_true, if_false, if_true, Int.cast_ofNat_Int, decide_true, decide_false, reduceCtorEq, Nat.reduceEqDiff, Nat.reduceAdd, ne_eq, not_false_eq_true, Option.map_some, Option.bind_some, Option.map_none, Option.bind_none, true_and, and_true, Bool.not_true, Bool.not_false, Nat.reduceLeDiff, Nat.reduceMul, Nat.reduceSub, Nat.le_refl, Int.reduceToNat, Int.reduceLT, Int.reduceLE, Nat.one_mul, Nat.mul_one, hs1.len]
  refine WL.of (fun n e m' => ∃ i : Nat, i ≤ r.length ∧ n = r.length - i ∧ e = [(3, u64 ((r.take i).foldl stepB 0)), (7, nv), (8, .int .i64 r.length), (9, .int .i64 i)] ∧ Ext m1 m') r.length
    ⟨0, by omega, by omega, by simp only [go_sem, Bool.false_and, new_set, Int.reduceBEq, Int.reduceBNe, Int.reduceNeg, not_true_eq_false, beq_self_eq_true, bne_self_eq_false, Bool.false_eq_true, if_false, if_true, Int.cast_ofNat_Int, decide_true, decide_false, reduceCtorEq, Nat.reduceEqDiff, Nat.reduceAdd, ne_eq, not_false_eq_true, Option.map_some, Option.bind_some, Option.map_none, Option.bind_none, true_and, and_true, Bool.not_true, Bool.not_false, Nat.reduceLeDiff, Nat.reduceMul, Nat.reduceSub, Nat.le_refl, Int.reduceToNat, Int.reduceLT, Int.reduceLE, Nat.one_mul, Nat.mul_one] <;> rfl, Ext.refl _⟩ ?_
  rintro _ _ m2 ⟨i, hi, rfl, rfl, hx2⟩
  simp only [RB.spans_Total_1, go_sem, Bool.false_and, new_set, Int.reduceBEq, Int.reduceBNe, Int.reduceNeg, not_true_eq_false, beq_self_eq_true, bne_self_eq_false, Bool.false_eq_true, if_false, if_true, Int.cast_ofNat_Int, decide_true, decide_false, reduceCtorEq, Nat.reduceEqDiff, Nat.reduceAdd, ne_eq, not_false_eq_true, Option.map_some, Option.bind_some, Option.map_none, Option.bind_none, true_and, and_true, Bool.not_true, Bool.not_false, Nat.reduceLeDiff, Nat.reduceMul, Nat.reduceSub, Nat.le_refl, Int.reduceToNat, Int.reduceLT, Int.reduceLE, Nat.one_mul, Nat.mul_one]
  refine gT.of (fun g1' => ?_) (fun g1' => ?_) <;> (have g1 := g1'; try simp only [decide_eq_true_eq, decide_eq_false_iff_not, beq_iff_eq, bne_iff_ne, beq_eq_false_iff_ne, ne_eq, Bool.not_eq_true', Bool.not_eq_false', bne_eq_false_iff_eq, Int.not_lt, Int.not_le] at g1)
  · have hil : i < r.length := by omega
    have s1 := step1 (show i < 1000000 by omega)
    obtain ⟨p, o, a1, a2, -, -⟩ := (hs1.keep hb1 hx2).elem spV_len (k := .i64) hil
    have tk : (r.take (i + 1)).foldl stepB 0 = stepB ((r.take i).foldl stepB 0) r[i] := by
      rw [List.take_succ_eq_append_getElem hil, List.foldl_append]; rfl
    have hst : aStore 2 (m2.new (.cells [(.int .i64 0), (.int .i64 0)] (some 2))) (.pointer (some ⟨m2.next, 0, none⟩)) (.agg (spV r[i]).toArray) = some (m2.new (.cells [.int .i64 r[i].1, .int .i64 r[i].2] (some 2))) := by
      simp only [spV]
      simp only [go_sem, Bool.false_and, new_set, Int.reduceBEq, Int.reduceBNe, Int.reduceNeg, not_true_eq_false, beq_self_eq_true, bne_self_eq_false, Bool.false_eq_true, if_false, if_true, Int.cast_ofNat_Int, decide_true, decide_false, reduceCtorEq, Nat.reduceEqDiff, Nat.reduceAdd, ne_eq, not_false_eq_true, Option.map_some, Option.bind_some, Option.map_none, Option.bind_none, true_and, and_true, Bool.not_true, Bool.not_false, Nat.reduceLeDiff, Nat.reduceMul, Nat.reduceSub, Nat.le_refl, Int.reduceToNat, Int.reduceLT, Int.reduceLE, Nat.one_mul, Nat.mul_one, load_w, load_a, store_b, idxS_b, set_blk, new_blk, set_next, new_next, len_s, ldW_c, ldA_c, stB_c, toArr_one, size_one, toList_toArr, size_toArr, List.length_cons, List.length_nil, List.getElem?_cons_zero, List.getElem?_cons_succ, Nat.zero_add, Nat.add_zero]
    simp only [go_sem, Bool.false_and, new_set, Int.reduceBEq, Int.reduceBNe, Int.reduceNeg, not_true_eq_false, beq_self_eq_true, bne_self_eq_false, Bool.false_eq_true, if_false, if_true, Int.cast_ofNat_Int, decide_true, decide_false, reduceCtorEq, Nat.reduceEqDiff, Nat.reduceAdd, ne_eq, not_false_eq_true, Option.map_some, Option.bind_some, Option.map_none, Option.bind_none, true_and, and_true, Bool.not_true, Bool.not_false, Nat.reduceLeDiff, Nat.reduceMul, Nat.reduceSub, Nat.le_refl, Int.reduceToNat, Int.reduceLT, Int.reduceLE, Nat.one_mul, Nat.mul_one, g1', a1, a2, hst]
    have hxx : Ext m2 (m2.new (.cells [.int .i64 r[i].1, .int .i64 r[i].2] (some 2))) := Ext.new
    have hbx : Bk (m2.new (.cells [.int .i64 r[i].1, .int .i64 r[i].2] (some 2))) m2.next [.int .i64 r[i].1, .int .i64 r[i].2] 2 := Bk.new
    generalize m2.new (.cells [.int .i64 r[i].1, .int .i64 r[i].2] (some 2)) = m3 at hbx hxx ⊢
    have c1 : aLoad false 1 m3 (.pointer (some ⟨m2.next, 0, none⟩)) = some (.int .i64 r[i].1) := by simp only [go_sem, Bool.false_and, new_set, Int.reduceBEq, Int.reduceBNe, Int.reduceNeg, not_true_eq_false, beq_self_eq_true, bne_self_eq_false, Bool.false_eq_true, if_false, if_true, Int.cast_ofNat_Int, decide_true, decide_false, reduceCtorEq, Nat.reduceEqDiff, Nat.reduceAdd, ne_eq, not_false_eq_true, Option.map_some, Option.bind_some, Option.map_none, Option.bind_none, true_and, and_true, Bool.not_true, Bool.not_false, Nat.reduceLeDiff, Nat.reduceMul, Nat.reduceSub, Nat.le_refl, Int.reduceToNat, Int.reduceLT, Int.reduceLE, Nat.one_mul, Nat.mul_one, load_w, load_a, store_b, idxS_b, set_blk, new_blk, set_next, new_next, len_s, ldW_c, ldA_c, stB_c, toArr_one, size_one, toList_toArr, size_toArr, List.length_cons, List.length_nil, List.getElem?_cons_zero, List.getElem?_cons_succ, Nat.zero_add, Nat.add_zero, hbx.at_]
    have c2 : aLoad false 1 m3 (.pointer (some ⟨m2.next, 1, none⟩)) = some (.int .i64 r[i].2) := by simp only [go_sem, Bool.false_and, new_set, Int.reduceBEq, Int.reduceBNe, Int.reduceNeg, not_true_eq_false, beq_self_eq_true, bne_self_eq_false, Bool.false_eq_true, if_false, if_true, Int.cast_ofNat_Int, decide_true, decide_false, reduceCtorEq, Nat.reduceEqDiff, Nat.reduceAdd, ne_eq, not_false_eq_true, Option.map_some, Option.bind_some, Option.map_none, Option.bind_none, true_and, and_true, Bool.not_true, Bool.not_false, Nat.reduceLeDiff, Nat.reduceMul, Nat.reduceSub, Nat.le_refl, Int.reduceToNat, Int.reduceLT, Int.reduceLE, Nat.one_mul, Nat.mul_one, load_w, load_a, store_b, idxS_b, set_blk, new_blk, set_next, new_next, len_s, ldW_c, ldA_c, stB_c, toArr_one, size_one, toList_toArr, size_toArr, List.length_cons, List.length_nil, List.getElem?_cons_zero, List.getElem?_cons_succ, Nat.zero_add, Nat.add_zero, hbx.at_]
    simp only [go_sem, Bool.false_and, new_set, Int.reduceBEq, Int.reduceBNe, Int.reduceNeg, not_true_eq_false, beq_self_eq_true, bne_self_eq_false, Bool.false_eq_true, if_false, if_true, Int.cast_ofNat_Int, decide_true, decide_false, reduceCtorEq, Nat.reduceEqDiff, Nat.reduceAdd, ne_eq, not_false_eq_true, Option.map_some, Option.bind_some, Option.map_none, Option.bind_none, true_and, and_true, Bool.not_true, Bool.not_false, Nat.reduceLeDiff, Nat.reduceMul, Nat.reduceSub, Nat.le_refl, Int.reduceToNat, Int.reduceLT, Int.reduceLE, Nat.one_mul, Nat.mul_one, c1, c2, s1]
    refine ⟨r.length - (i + 1), by omega, i + 1, by omega, rfl, ?_, hx2.trans hxx⟩
    rw [tk]; rfl
  · have : i = r.length := by omega
    subst this
    simp only [go_sem, Bool.false_and, new_set, Int.reduceBEq, Int.reduceBNe, Int.reduceNeg, not_true_eq_false, beq_self_eq_true, bne_self_eq_false, Bool.false_eq_true, if_false, if_true, Int.cast_ofNat_Int, decide_true, decide_false, reduceCtorEq, Nat.reduceEqDiff, Nat.reduceAdd, ne_eq, not_false_eq_true, Option.map_some, Option.bind_some, Option.map_none, Option.bind_none, true_and, and_true, Bool.not_true, Bool.not_false, Nat.reduceLeDiff, Nat.reduceMul, Nat.reduceSub, Nat.le_refl, Int.reduceToNat, Int.reduceLT, Int.reduceLE, Nat.one_mul, Nat.mul_one, g1']
    refine ⟨⟨r, hN, ?_⟩, hx.trans hx2⟩
    rw [List.take_length, foldB]; simp

theorem refTotal {l : List Sp} {v : Value} (hs : Sl m 2 l.length (l.flatMap spV) v) (hb : SlLt m v) (hl : l.length < 10000) :
    WC R F.ref05_Total [v] m fun rv m' => (∃ r, (Rt r ∧ ∀ x, InS r x ↔ InS l x) ∧ rv = u64 (sumB r)) ∧ Ext m m' := by
  refine WC.of R.ref05_Total rfl ?_
  simp only [RC.ref05_Total, go_sem, Bool.false_and, new_set, Int.reduceBEq, Int.reduceBNe, Int.reduceNeg, not_true_eq_false, beq_self_eq_true, bne_self_eq_false, Bool.false_eq_true, if_false, if_true, Int.cast_ofNat_Int, decide_true, decide_false, reduceCtorEq, Nat.reduceEqDiff, Nat.reduceAdd, ne_eq, not_false_eq_true, Option.map_some, Option.bind_some, Option.map_none, Option.bind_none, true_and, and_true, Bool.not_true, Bool.not_false, Nat.reduceLeDiff, Nat.reduceMul, Nat.reduceSub, Nat.le_refl, Int.reduceToNat, Int.reduceLT, Int.reduceLE, Nat.one_mul, Nat.mul_one]
  refine gC.of (refOp (k := 0) (b := []) hs hb (.nil rfl rfl) trivial hl (by simp)) ?_
  rintro nv m1 ⟨r, ⟨hR, hM⟩, hrl, ho, hx⟩
  have hs1 := ho.sl
  simp only [go_sem, Bool.false_and, new_set, Int.reduceBEq, Int.reduceBNe, Int.reduceNeg, not_true_eq_false, beq_self_eq_true, bne_self_eq_false, Bool.false_eq_true, if_false, if_true, Int.cast_ofNat_Int, decide_true, decide_false, reduceCtorEq, Nat.reduceEqDiff, Nat.reduceAdd, ne_eq, not_false_eq_true, Option.map_some, Option.bind_some, Option.map_none, Option.bind_none, true_and, and_true, Bool.not_true, Bool.not_false, Nat.reduceLeDiff, Nat.reduceMul, Nat.reduceSub, Nat.le_refl, Int.reduceToNat, Int.reduceLT, Int.reduceLE, Nat.one_mul, Nat.mul_one]
  refine WL.of (fun n e m' => ∃ i : Nat, i ≤ r.length ∧ n = r.length - i ∧ m' = m1 ∧ e = [(3, u64 ((r.take i).foldl stepB 0)), (4, nv), (5, .int .i64 i)]) r.length
    ⟨0, by omega, by omega, rfl, by simp only [go_sem, Bool.false_and, new_set, Int.reduceBEq, Int.reduceBNe, Int.reduceNeg, not_true_eq_false, beq_self_eq_true, bne_self_eq_false, Bool.false_eq_true, if_false, if_true, Int.cast_ofNat_Int, decide_true, decide_false, reduceCtorEq, Nat.reduceEqDiff, Nat.reduceAdd, ne_eq, not_false_eq_true, Option.map_some, Option.bind_some, Option.map_none, Option.bind_none, true_and, and_true, Bool.not_true, Bool.not_false, Nat.reduceLeDiff, Nat.reduceMul, Nat.reduceSub, Nat.le_refl, Int.reduceToNat, Int.reduceLT, Int.reduceLE, Nat.one_mul, Nat.mul_one] <;> rfl⟩ ?_
  rintro _ _ _ ⟨i, hi, rfl, rfl, rfl⟩
  simp only [RB.ref05_Total_1, go_sem, Bool.false_and, new_set, Int.reduceBEq, Int.reduceBNe, Int.reduceNeg, not_true_eq_false, beq_self_eq_true, bne_self_eq_false, Bool.false_eq_true, if_false, if_true, Int.cast_ofNat_Int, decide_true, decide_false, reduceCtorEq, Nat.reduceEqDiff, Nat.reduceAdd, ne_eq, not_false_eq_true, Option.map_some, Option.bind_some, Option.map_none, Option.bind_none, true_and, and_true, Bool.not_true, Bool.not_false, Nat.reduceLeDiff, Nat.reduceMul, Nat.reduceSub, Nat.le_refl, Int.reduceToNat, Int.reduceLT, Int.reduceLE, Nat.one_mul, Nat.mul_one, hs1.len]
  refine gT.of (fun g1' => ?_) (fun g1' => ?_) <;> (have g1 := g1'; try simp only [decide_eq_true_eq, decide_eq_false_iff_not, beq_iff_eq, bne_iff_ne, beq_eq_false_iff_ne, ne_eq, Bool.not_eq_true', Bool.not_eq_false', bne_eq_false_iff_eq, Int.not_lt, Int.not_le] at g1)
  · have hil : i < r.length := by omega
    have s1 := step1 (show i < 1000000 by omega)
    obtain ⟨p, o, a1, -, a3, -⟩ := hs1.elem spV_len (k := .i64) hil
    have tk : (r.take (i + 1)).foldl stepB 0 = stepB ((r.take i).foldl stepB 0) r[i] := by
      rw [List.take_succ_eq_append_getElem hil, List.foldl_append]; rfl
    have c1 : aLoad false 1 _ (.pointer (some ⟨p, o + 0, none⟩)) = some (.int .i64 r[i].1) := a3 0 (by omega)
    have c2 : aLoad false 1 _ (.pointer (some ⟨p, o + 1, none⟩)) = some (.int .i64 r[i].2) := a3 1 (by omega)
    simp only [go_sem, Bool.false_and, new_set, Int.reduceBEq, Int.reduceBNe, Int.reduceNeg, not_true_eq_false, beq_self_eq_true, bne_self_eq_false, Bool.false_eq_true, if_false, if_true, Int.cast_ofNat_Int, decide_true, decide_false, reduceCtorEq, Nat.reduceEqDiff, Nat.reduceAdd, ne_eq, not_false_eq_true, Option.map_some, Option.bind_some, Option.map_none, Option.bind_none, true_and, and_true, Bool.not_true, Bool.not_false, Nat.reduceLeDiff, Nat.reduceMul, Nat.reduceSub, Nat.le_refl, Int.reduceToNat, Int.reduceLT, Int.reduceLE, Nat.one_mul, Nat.mul_one, g1', a1, c1, c2, s1]
    refine ⟨r.length - (i + 1), by omega, i + 1, by omega, rfl, ?_⟩
    rw [tk]; rfl
  · have : i = r.length := by omega
    subst this
    simp only [go_sem, Bool.false_and, new_set, Int.reduceBEq, Int.reduceBNe, Int.reduceNeg, not_true_eq_false, beq_self_eq_true, bne_self_eq_false, Bool.false_eq_true, if_false, if_true, Int.cast_ofNat_Int, decide_true, decide_false, reduceCtorEq, Nat.reduceEqDiff, Nat.reduceAdd, ne_eq, not_false_eq_true, Option.map_some, Option.bind_some, Option.map_none, Option.bind_none, true_and, and_true, Bool.not_true, Bool.not_false, Nat.reduceLeDiff, Nat.reduceMul, Nat.reduceSub, Nat.le_refl, Int.reduceToNat, Int.reduceLT, Int.reduceLE, Nat.one_mul, Nat.mul_one, g1']
    refine ⟨⟨r, ⟨hR, fun x => ?_⟩, ?_⟩, hx⟩
    · rw [hM]
      unfold KIn kindOf
      simp [hasS_iff.symm, hasS]
    · rw [List.take_length, foldB]; simp
end Go.Am


/- SpansNorm. -/
set_option linter.unusedVariables false
set_option linter.unusedSimpArgs false
namespace Go.Am
variable {m : Mem}

theorem kin0 {a b : List Sp} {x : Int} : KIn 0 a b x ↔ InS a x ∨ InS b x := by
  unfold KIn kindOf
  rw [← hasS_iff, ← hasS_iff]; simp
theorem kin0n {a : List Sp} {x : Int} : KIn 0 a [] x ↔ InS a x := by
  rw [kin0]; exact ⟨fun h => h.elim id fun h => absurd h InS.nil, .inl⟩
theorem kin1 {a b : List Sp} {x : Int} : KIn 1 a b x ↔ InS a x ∧ InS b x := by
  unfold KIn kindOf
  rw [← hasS_iff, ← hasS_iff]; simp
theorem kin2 {a b : List Sp} {x : Int} : KIn 2 a b x ↔ InS a x ∧ ¬ InS b x := by
  unfold KIn kindOf
  rw [← hasS_iff, ← hasS_iff]; simp

def spSh : List Sh := [.int .i64, .int .i64]
theorem sp_read {m : Mem} {v : Value} (h : Rd m (.sl [.int .i64, .int .i64]) v) : ∃ l : List Sp, Sl m 2 l.length (l.flatMap spV) v ∧ SlLt m v ∧ Cut 2 m v := by
  obtain ⟨l, h1, h2, -⟩ := Rd.slice (f := spV) (fun cs hc => by
    obtain ⟨c, r, rfl, h1, h2⟩ := hc.one
    obtain ⟨d, r2, rfl, h3, h4⟩ := h2.one
    cases h4.none
    obtain ⟨a, rfl, -⟩ := h1.i64
    obtain ⟨b, rfl, -⟩ := h3.i64
    exact ⟨(a, b), rfl⟩) h
  exact ⟨l, h1, h2, h.free.cut⟩

theorem take30 {l : List Sp} : (l.take 30).length ≤ 30 := by rw [List.length_take]; omega

set_option maxHeartbeats 4000000 in
theorem SpansNorm_spec {l : List Sp} {v : Value} {x : Int} (hs : Sl m 2 l.length (l.flatMap spV) v) (hb : SlLt m v) (hc : Cut 2 m v) : WC R F.law05_SpansNorm [v, .int .i64 x] m fun r _ => r = .bool true := by
  refine WC.of R.law05_SpansNorm rfl ?_
  simp only [RC.law05_SpansNorm, go_sem, Bool.false_and, new_set, Int.reduceBEq, Int.reduceBNe, Int.reduceNeg, not_true_eq_false, beq_self_eq_true, bne_self_eq_false, Bool.false_eq_true, if_false, if_true, Int.cast_ofNat_Int, decide_true, decide_false, reduceCtorEq, Nat.reduceEqDiff, Nat.reduceAdd, ne_eq, not_false_eq_true, Option.map_some, Option.bind_some, Option.map_none, Option.bind_none, true_and, and_true, Bool.not_true, Bool.not_false, Nat.reduceLeDiff, Nat.reduceMul, Nat.reduceSub, Nat.le_refl, Int.reduceToNat, Int.reduceLT, Int.reduceLE, Nat.one_mul, Nat.mul_one]
  refine gC.of (spFew hs hb hc) ?_
  rintro v0 _ ⟨⟨hs0, hb0, hc0⟩, hm⟩
  subst hm
  have h30 : (l.take 30).length ≤ 30 := take30
  generalize l.take 30 = L at hs0 h30
  clear hs hb hc
  simp only [go_sem, Bool.false_and, new_set, Int.reduceBEq, Int.reduceBNe, Int.reduceNeg, not_true_eq_false, beq_self_eq_true, bne_self_eq_false, Bool.false_eq_true, if_false, if_true, Int.cast_ofNat_Int, decide_true, decide_false, reduceCtorEq, Nat.reduceEqDiff, Nat.reduceAdd, ne_eq, not_false_eq_true, Option.map_some, Option.bind_some, Option.map_none, Option.bind_none, true_and, and_true, Bool.not_true, Bool.not_false, Nat.reduceLeDiff, Nat.reduceMul, Nat.reduceSub, Nat.le_refl, Int.reduceToNat, Int.reduceLT, Int.reduceLE, Nat.one_mul, Nat.mul_one]
  refine gC.of (spOf hs0 hb0 (by omega)) ?_
  rintro v1 m1 ⟨ho1, hx1⟩
  simp only [go_sem, Bool.false_and, new_set, Int.reduceBEq, Int.reduceBNe, Int.reduceNeg, not_true_eq_false, beq_self_eq_true, bne_self_eq_false, Bool.false_eq_true, if_false, if_true, Int.cast_ofNat_Int, decide_true, decide_false, reduceCtorEq, Nat.reduceEqDiff, Nat.reduceAdd, ne_eq, not_false_eq_true, Option.map_some, Option.bind_some, Option.map_none, Option.bind_none, true_and, and_true, Bool.not_true, Bool.not_false, Nat.reduceLeDiff, Nat.reduceMul, Nat.reduceSub, Nat.le_refl, Int.reduceToNat, Int.reduceLT, Int.reduceLE, Nat.one_mul, Nat.mul_one]
  refine gC.of (spNorm ho1.sl ho1.lt (by omega)) ?_
  rintro nv m2 ⟨r, hN, hon, hx2⟩
  simp only [go_sem, Bool.false_and, new_set, Int.reduceBEq, Int.reduceBNe, Int.reduceNeg, not_true_eq_false, beq_self_eq_true, bne_self_eq_false, Bool.false_eq_true, if_false, if_true, Int.cast_ofNat_Int, decide_true, decide_false, reduceCtorEq, Nat.reduceEqDiff, Nat.reduceAdd, ne_eq, not_false_eq_true, Option.map_some, Option.bind_some, Option.map_none, Option.bind_none, true_and, and_true, Bool.not_true, Bool.not_false, Nat.reduceLeDiff, Nat.reduceMul, Nat.reduceSub, Nat.le_refl, Int.reduceToNat, Int.reduceLT, Int.reduceLE, Nat.one_mul, Nat.mul_one]
  have hx02 := hx1.trans hx2
  refine gC.of (spOf (hs0.keep hb0 hx02) (hb0.keep hx02) (by omega)) ?_
  rintro v3 m3 ⟨ho3, hx3⟩
  simp only [go_sem, Bool.false_and, new_set, Int.reduceBEq, Int.reduceBNe, Int.reduceNeg, not_true_eq_false, beq_self_eq_true, bne_self_eq_false, Bool.false_eq_true, if_false, if_true, Int.cast_ofNat_Int, decide_true, decide_false, reduceCtorEq, Nat.reduceEqDiff, Nat.reduceAdd, ne_eq, not_false_eq_true, Option.map_some, Option.bind_some, Option.map_none, Option.bind_none, true_and, and_true, Bool.not_true, Bool.not_false, Nat.reduceLeDiff, Nat.reduceMul, Nat.reduceSub, Nat.le_refl, Int.reduceToNat, Int.reduceLT, Int.reduceLE, Nat.one_mul, Nat.mul_one]
  refine gC.of (spCheck ho3.sl ho3.lt (by omega)) ?_
  rintro ev m4 ⟨hck, hx4⟩
  have hx24 := hx3.trans hx4
  have hx04 := hx02.trans hx24
  simp only [go_sem, Bool.false_and, new_set, Int.reduceBEq, Int.reduceBNe, Int.reduceNeg, not_true_eq_false, beq_self_eq_true, bne_self_eq_false, Bool.false_eq_true, if_false, if_true, Int.cast_ofNat_Int, decide_true, decide_false, reduceCtorEq, Nat.reduceEqDiff, Nat.reduceAdd, ne_eq, not_false_eq_true, Option.map_some, Option.bind_some, Option.map_none, Option.bind_none, true_and, and_true, Bool.not_true, Bool.not_false, Nat.reduceLeDiff, Nat.reduceMul, Nat.reduceSub, Nat.le_refl, Int.reduceToNat, Int.reduceLT, Int.reduceLE, Nat.one_mul, Nat.mul_one]
  refine gC.of (refOp (k := 0) (b := []) (hs0.keep hb0 hx04) (hb0.keep hx04) (.nil rfl rfl) trivial (by omega) (by simp)) ?_
  rintro ov m5 ⟨r', ⟨hR', hM'⟩, hrl', hoo, hx5⟩
  have hnr := hon.keep (hx24.trans hx5)
  have hrr : r' = r := hR'.eq hN.1 fun y => by rw [hM', kin0n, hN.2.1]
  subst hrr
  simp only [go_sem, Bool.false_and, new_set, Int.reduceBEq, Int.reduceBNe, Int.reduceNeg, not_true_eq_false, beq_self_eq_true, bne_self_eq_false, Bool.false_eq_true, if_false, if_true, Int.cast_ofNat_Int, decide_true, decide_false, reduceCtorEq, Nat.reduceEqDiff, Nat.reduceAdd, ne_eq, not_false_eq_true, Option.map_some, Option.bind_some, Option.map_none, Option.bind_none, true_and, and_true, Bool.not_true, Bool.not_false, Nat.reduceLeDiff, Nat.reduceMul, Nat.reduceSub, Nat.le_refl, Int.reduceToNat, Int.reduceLT, Int.reduceLE, Nat.one_mul, Nat.mul_one]
  refine gC.of (spSame hnr.sl hoo.sl (by have := hN.2.2; omega)) ?_
  rintro _ _ ⟨rfl, hm⟩
  subst hm
  have e1 : decide (r' = r') = true := decide_eq_true rfl
  have hx05 := hx04.trans hx5
  simp only [go_sem, Bool.false_and, new_set, Int.reduceBEq, Int.reduceBNe, Int.reduceNeg, not_true_eq_false, beq_self_eq_true, bne_self_eq_false, Bool.false_eq_true, if_false, if_true, Int.cast_ofNat_Int, decide_true, decide_false, reduceCtorEq, Nat.reduceEqDiff, Nat.reduceAdd, ne_eq, not_false_eq_true, Option.map_some, Option.bind_some, Option.map_none, Option.bind_none, true_and, and_true, Bool.not_true, Bool.not_false, Nat.reduceLeDiff, Nat.reduceMul, Nat.reduceSub, Nat.le_refl, Int.reduceToNat, Int.reduceLT, Int.reduceLE, Nat.one_mul, Nat.mul_one, e1]
  have hs5 := hs0.keep hb0 hx05
  have hb5 := hb0.keep hx05
  have hRn : ((r' : List Sp) = r') := rfl
  have hlr := hN.2.2
  obtain ⟨E, hE, hE2, hE3⟩ : ∃ E : Int, ev = .int .i64 E ∧ (E == 0 ↔ Rt L) ∧ (E = 0 ∨ E = 1) := by
    rcases hck with ⟨h, rfl⟩ | ⟨h, rfl⟩
    · exact ⟨0, rfl, by simp [h], .inl rfl⟩
    · exact ⟨1, rfl, by simp [h], .inr rfl⟩
  subst hE
  simp only [go_sem, Bool.false_and, new_set, Int.reduceBEq, Int.reduceBNe, Int.reduceNeg, not_true_eq_false, beq_self_eq_true, bne_self_eq_false, Bool.false_eq_true, if_false, if_true, Int.cast_ofNat_Int, decide_true, decide_false, reduceCtorEq, Nat.reduceEqDiff, Nat.reduceAdd, ne_eq, not_false_eq_true, Option.map_some, Option.bind_some, Option.map_none, Option.bind_none, true_and, and_true, Bool.not_true, Bool.not_false, Nat.reduceLeDiff, Nat.reduceMul, Nat.reduceSub, Nat.le_refl, Int.reduceToNat, Int.reduceLT, Int.reduceLE, Nat.one_mul, Nat.mul_one]
  refine gC.of (refRight hs5 (by omega)) ?_
  rintro _ _ ⟨⟨bR, rfl, hbR⟩, hm⟩
  subst hm
  have e2 : ((E == 0) == bR) = true := by
    rw [beq_iff_eq, Bool.eq_iff_iff, hbR]; exact hE2
  simp only [go_sem, Bool.false_and, new_set, Int.reduceBEq, Int.reduceBNe, Int.reduceNeg, not_true_eq_false, beq_self_eq_true, bne_self_eq_false, Bool.false_eq_true, if_false, if_true, Int.cast_ofNat_Int, decide_true, decide_false, reduceCtorEq, Nat.reduceEqDiff, Nat.reduceAdd, ne_eq, not_false_eq_true, Option.map_some, Option.bind_some, Option.map_none, Option.bind_none, true_and, and_true, Bool.not_true, Bool.not_false, Nat.reduceLeDiff, Nat.reduceMul, Nat.reduceSub, Nat.le_refl, Int.reduceToNat, Int.reduceLT, Int.reduceLE, Nat.one_mul, Nat.mul_one, e2]
  rcases hE3 with rfl | rfl
  all_goals
    simp only [go_sem, Bool.false_and, new_set, Int.reduceBEq, Int.reduceBNe, Int.reduceNeg, not_true_eq_false, beq_self_eq_true, bne_self_eq_false, Bool.false_eq_true, if_false, if_true, Int.cast_ofNat_Int, decide_true, decide_false, reduceCtorEq, Nat.reduceEqDiff, Nat.reduceAdd, ne_eq, not_false_eq_true, Option.map_some, Option.bind_some, Option.map_none, Option.bind_none, true_and, and_true, Bool.not_true, Bool.not_false, Nat.reduceLeDiff, Nat.reduceMul, Nat.reduceSub, Nat.le_refl, Int.reduceToNat, Int.reduceLT, Int.reduceLE, Nat.one_mul, Nat.mul_one]
    refine gC.of (spCheck hnr.sl hnr.lt (by omega)) ?_
    rintro _ m6 ⟨hck2, hx6⟩
    rcases hck2 with ⟨-, rfl⟩ | ⟨h, -⟩
    case inr => exact absurd hN.1 h
    simp only [go_sem, Bool.false_and, new_set, Int.reduceBEq, Int.reduceBNe, Int.reduceNeg, not_true_eq_false, beq_self_eq_true, bne_self_eq_false, Bool.false_eq_true, if_false, if_true, Int.cast_ofNat_Int, decide_true, decide_false, reduceCtorEq, Nat.reduceEqDiff, Nat.reduceAdd, ne_eq, not_false_eq_true, Option.map_some, Option.bind_some, Option.map_none, Option.bind_none, true_and, and_true, Bool.not_true, Bool.not_false, Nat.reduceLeDiff, Nat.reduceMul, Nat.reduceSub, Nat.le_refl, Int.reduceToNat, Int.reduceLT, Int.reduceLE, Nat.one_mul, Nat.mul_one]
    refine gC.of (spOf (hs5.keep hb5 hx6) (hb5.keep hx6) (by omega)) ?_
    rintro v7 m7 ⟨ho7, hx7⟩
    simp only [go_sem, Bool.false_and, new_set, Int.reduceBEq, Int.reduceBNe, Int.reduceNeg, not_true_eq_false, beq_self_eq_true, bne_self_eq_false, Bool.false_eq_true, if_false, if_true, Int.cast_ofNat_Int, decide_true, decide_false, reduceCtorEq, Nat.reduceEqDiff, Nat.reduceAdd, ne_eq, not_false_eq_true, Option.map_some, Option.bind_some, Option.map_none, Option.bind_none, true_and, and_true, Bool.not_true, Bool.not_false, Nat.reduceLeDiff, Nat.reduceMul, Nat.reduceSub, Nat.le_refl, Int.reduceToNat, Int.reduceLT, Int.reduceLE, Nat.one_mul, Nat.mul_one]
    refine gC.of (spHas ho7.sl ho7.lt (by omega)) ?_
    rintro _ m8 ⟨rfl, hx8⟩
    have hx58 := hx6.trans (hx7.trans hx8)
    simp only [go_sem, Bool.false_and, new_set, Int.reduceBEq, Int.reduceBNe, Int.reduceNeg, not_true_eq_false, beq_self_eq_true, bne_self_eq_false, Bool.false_eq_true, if_false, if_true, Int.cast_ofNat_Int, decide_true, decide_false, reduceCtorEq, Nat.reduceEqDiff, Nat.reduceAdd, ne_eq, not_false_eq_true, Option.map_some, Option.bind_some, Option.map_none, Option.bind_none, true_and, and_true, Bool.not_true, Bool.not_false, Nat.reduceLeDiff, Nat.reduceMul, Nat.reduceSub, Nat.le_refl, Int.reduceToNat, Int.reduceLT, Int.reduceLE, Nat.one_mul, Nat.mul_one]
    refine gC.of (refHas (hs5.keep hb5 hx58) (by omega)) ?_
    rintro _ _ ⟨rfl, hm⟩
    subst hm
    have e3 : (hasS L x == hasS L x) = true := beq_self_eq_true _
    simp only [go_sem, Bool.false_and, new_set, Int.reduceBEq, Int.reduceBNe, Int.reduceNeg, not_true_eq_false, beq_self_eq_true, bne_self_eq_false, Bool.false_eq_true, if_false, if_true, Int.cast_ofNat_Int, decide_true, decide_false, reduceCtorEq, Nat.reduceEqDiff, Nat.reduceAdd, ne_eq, not_false_eq_true, Option.map_some, Option.bind_some, Option.map_none, Option.bind_none, true_and, and_true, Bool.not_true, Bool.not_false, Nat.reduceLeDiff, Nat.reduceMul, Nat.reduceSub, Nat.le_refl, Int.reduceToNat, Int.reduceLT, Int.reduceLE, Nat.one_mul, Nat.mul_one, e3]
    refine gC.of (spHas (hnr.keep hx58).sl (hnr.keep hx58).lt (by omega)) ?_
    rintro _ m9 ⟨rfl, hx9⟩
    simp only [go_sem, Bool.false_and, new_set, Int.reduceBEq, Int.reduceBNe, Int.reduceNeg, not_true_eq_false, beq_self_eq_true, bne_self_eq_false, Bool.false_eq_true, if_false, if_true, Int.cast_ofNat_Int, decide_true, decide_false, reduceCtorEq, Nat.reduceEqDiff, Nat.reduceAdd, ne_eq, not_false_eq_true, Option.map_some, Option.bind_some, Option.map_none, Option.bind_none, true_and, and_true, Bool.not_true, Bool.not_false, Nat.reduceLeDiff, Nat.reduceMul, Nat.reduceSub, Nat.le_refl, Int.reduceToNat, Int.reduceLT, Int.reduceLE, Nat.one_mul, Nat.mul_one]
    have hx59 := hx58.trans hx9
    refine gC.of (refHas (hs5.keep hb5 hx59) (by omega)) ?_
    rintro _ _ ⟨rfl, hm⟩
    subst hm
    have e4 : (hasS r' x == hasS L x) = true := by rw [beq_iff_eq]; exact hasS_eq (hN.2.1 x)
    simp only [go_sem, Bool.false_and, new_set, Int.reduceBEq, Int.reduceBNe, Int.reduceNeg, not_true_eq_false, beq_self_eq_true, bne_self_eq_false, Bool.false_eq_true, if_false, if_true, Int.cast_ofNat_Int, decide_true, decide_false, reduceCtorEq, Nat.reduceEqDiff, Nat.reduceAdd, ne_eq, not_false_eq_true, Option.map_some, Option.bind_some, Option.map_none, Option.bind_none, true_and, and_true, Bool.not_true, Bool.not_false, Nat.reduceLeDiff, Nat.reduceMul, Nat.reduceSub, Nat.le_refl, Int.reduceToNat, Int.reduceLT, Int.reduceLE, Nat.one_mul, Nat.mul_one, e4]
    refine gC.of (spOf (hs5.keep hb5 hx59) (hb5.keep hx59) (by omega)) ?_
    rintro v10 m10 ⟨ho10, hx10⟩
    simp only [go_sem, Bool.false_and, new_set, Int.reduceBEq, Int.reduceBNe, Int.reduceNeg, not_true_eq_false, beq_self_eq_true, bne_self_eq_false, Bool.false_eq_true, if_false, if_true, Int.cast_ofNat_Int, decide_true, decide_false, reduceCtorEq, Nat.reduceEqDiff, Nat.reduceAdd, ne_eq, not_false_eq_true, Option.map_some, Option.bind_some, Option.map_none, Option.bind_none, true_and, and_true, Bool.not_true, Bool.not_false, Nat.reduceLeDiff, Nat.reduceMul, Nat.reduceSub, Nat.le_refl, Int.reduceToNat, Int.reduceLT, Int.reduceLE, Nat.one_mul, Nat.mul_one]
    refine gC.of (spTotal ho10.sl ho10.lt (by omega)) ?_
    rintro _ m11 ⟨⟨r2, hN2, rfl⟩, hx11⟩
    simp only [go_sem, Bool.false_and, new_set, Int.reduceBEq, Int.reduceBNe, Int.reduceNeg, not_true_eq_false, beq_self_eq_true, bne_self_eq_false, Bool.false_eq_true, if_false, if_true, Int.cast_ofNat_Int, decide_true, decide_false, reduceCtorEq, Nat.reduceEqDiff, Nat.reduceAdd, ne_eq, not_false_eq_true, Option.map_some, Option.bind_some, Option.map_none, Option.bind_none, true_and, and_true, Bool.not_true, Bool.not_false, Nat.reduceLeDiff, Nat.reduceMul, Nat.reduceSub, Nat.le_refl, Int.reduceToNat, Int.reduceLT, Int.reduceLE, Nat.one_mul, Nat.mul_one]
    have hx511 := hx59.trans (hx10.trans hx11)
    refine gC.of (refTotal (hs5.keep hb5 hx511) (hb5.keep hx511) (by omega)) ?_
    rintro _ m12 ⟨⟨r3, ⟨hR3, hM3⟩, rfl⟩, hx12⟩
    have hr23 : r2 = r3 := hN2.1.eq hR3 fun y => by rw [hM3, hN2.2.1]
    subst hr23
    have e5 : (sumB r2 == sumB r2) = true := beq_self_eq_true _
    simp only [go_sem, Bool.false_and, new_set, Int.reduceBEq, Int.reduceBNe, Int.reduceNeg, not_true_eq_false, beq_self_eq_true, bne_self_eq_false, Bool.false_eq_true, if_false, if_true, Int.cast_ofNat_Int, decide_true, decide_false, reduceCtorEq, Nat.reduceEqDiff, Nat.reduceAdd, ne_eq, not_false_eq_true, Option.map_some, Option.bind_some, Option.map_none, Option.bind_none, true_and, and_true, Bool.not_true, Bool.not_false, Nat.reduceLeDiff, Nat.reduceMul, Nat.reduceSub, Nat.le_refl, Int.reduceToNat, Int.reduceLT, Int.reduceLE, Nat.one_mul, Nat.mul_one, e5]
    refine gC.of (ok_spec R.law05_awake) ?_
    rintro _ m_ ⟨rfl, hm_⟩
    replace hm_ := hm_.symm
    subst hm_
    simp only [go_sem, Bool.false_and, new_set, Int.reduceBEq, Int.reduceBNe, Int.reduceNeg, not_true_eq_false, beq_self_eq_true, bne_self_eq_false, Bool.false_eq_true, if_false, if_true, Int.cast_ofNat_Int, decide_true, decide_false, reduceCtorEq, Nat.reduceEqDiff, Nat.reduceAdd, ne_eq, not_false_eq_true, Option.map_some, Option.bind_some, Option.map_none, Option.bind_none, true_and, and_true, Bool.not_true, Bool.not_false, Nat.reduceLeDiff, Nat.reduceMul, Nat.reduceSub, Nat.le_refl, Int.reduceToNat, Int.reduceLT, Int.reduceLE, Nat.one_mul, Nat.mul_one]
end Go.Am


/- What both have; what the first has alone: in plain Lean. -/
set_option linter.unusedVariables false
set_option linter.unusedSimpArgs false
namespace Go.Am

structure MeetI (X Y xs ys r : List Sp) : Prop where
  rx : Rt xs
  ry : Rt ys
  rt : Rt r
  mem : ∀ z, (InS r z ∨ (InS xs z ∧ InS ys z)) ↔ (InS X z ∧ InS Y z)
  gap : ∀ t ∈ r, (∀ u ∈ xs, t.2 < u.1) ∨ (∀ u ∈ ys, t.2 < u.1)
  len : r.length + xs.length + ys.length ≤ X.length + Y.length

theorem MeetI.start {X Y : List Sp} (hx : Rt X) (hy : Rt Y) : MeetI X Y X Y [] :=
  ⟨hx, hy, Rt.nil, fun z => ⟨fun h => h.elim (fun h => absurd h InS.nil) id, .inr⟩, by simp, by simp⟩

theorem MeetI.stop {X Y xs ys r : List Sp} (h : MeetI X Y xs ys r) (he : xs = [] ∨ ys = []) : Rt r ∧ (∀ z, InS r z ↔ InS X z ∧ InS Y z) ∧ r.length ≤ X.length + Y.length := by
  refine ⟨h.rt, fun z => ?_, by have := h.len; omega⟩
  rw [← h.mem]
  refine ⟨.inl, fun h => h.elim id fun ⟨h1, h2⟩ => ?_⟩
  rcases he with e | e
  · rw [e] at h1; exact absurd h1 InS.nil
  · rw [e] at h2; exact absurd h2 InS.nil

/-- What the heads have together is put. -/
theorem MeetI.put {X Y xs ys r : List Sp} {x y s : Sp} (h : MeetI X Y (x :: xs) (y :: ys) r) (h1 : s.1 = max x.1 y.1) (h2 : s.2 = min x.2 y.2) :
    (x.2 < y.2 → (s.1 < s.2 → MeetI X Y xs (y :: ys) (r ++ [s])) ∧ (¬ s.1 < s.2 → MeetI X Y xs (y :: ys) r)) ∧
    (¬ x.2 < y.2 → (s.1 < s.2 → MeetI X Y (x :: xs) ys (r ++ [s])) ∧ (¬ s.1 < s.2 → MeetI X Y (x :: xs) ys r)) := by
  obtain ⟨x1, x2, x3⟩ := Rt.cons.1 h.rx
  obtain ⟨y1, y2, y3⟩ := Rt.cons.1 h.ry
  have hl := h.len
  simp only [List.length_cons] at hl
  have gx : ∀ z, InS xs z → x.2 < z := by rintro z ⟨u, hu, h1, _⟩; have := x2 u hu; omega
  have gy : ∀ z, InS ys z → y.2 < z := by rintro z ⟨u, hu, h1, _⟩; have := y2 u hu; omega
  have hput : ∀ t ∈ r, t.2 < s.1 := fun t ht => by
    rcases h.gap t ht with g | g
    · have := g x (by simp); omega
    · have := g y (by simp); omega
  have m0 := h.mem
  constructor
  · intro hlt
    constructor
    · intro hs
      refine ⟨x3, h.ry, h.rt.put hs hput, fun z => ?_, fun t ht => ?_, by simp; omega⟩
      · rw [← m0 z, InS.snoc, InS.cons, InS.cons (s := x)]
        constructor
        · rintro ((h | h) | ⟨h, h'⟩)
          · exact .inl h
          · exact .inr ⟨.inl (by omega), .inl (by omega)⟩
          · exact .inr ⟨.inr h, h'⟩
        · rintro (h | ⟨h | h, h'⟩)
          · exact .inl (.inl h)
          · rcases h' with h' | h'
            · exact .inl (.inr (by omega))
            · have := gy z h'; omega
          · exact .inr ⟨h, h'⟩
      · rcases List.mem_append.1 ht with h' | h'
        · rcases h.gap t h' with g | g
          · exact .inl fun u hu => g u (by simp [hu])
          · exact .inr g
        · rw [List.mem_singleton.1 h']
          exact .inl fun u hu => by have := x2 u hu; omega
    · intro hs
      refine ⟨x3, h.ry, h.rt, fun z => ?_, fun t ht => ?_, by simp; omega⟩
      · rw [← m0 z, InS.cons, InS.cons (s := x)]
        constructor
        · rintro (h | ⟨h, h'⟩)
          · exact .inl h
          · exact .inr ⟨.inr h, h'⟩
        · rintro (h | ⟨h | h, h'⟩)
          · exact .inl h
          · rcases h' with h' | h'
            · omega
            · have := gy z h'; omega
          · exact .inr ⟨h, h'⟩
      · rcases h.gap t ht with g | g
        · exact .inl fun u hu => g u (by simp [hu])
        · exact .inr g
  · intro hlt
    constructor
    · intro hs
      refine ⟨h.rx, y3, h.rt.put hs hput, fun z => ?_, fun t ht => ?_, by simp; omega⟩
      · rw [← m0 z, InS.snoc, InS.cons, InS.cons (s := y)]
        constructor
        · rintro ((h | h) | ⟨h, h'⟩)
          · exact .inl h
          · exact .inr ⟨.inl (by omega), .inl (by omega)⟩
          · exact .inr ⟨h, .inr h'⟩
        · rintro (h | ⟨h', h | h⟩)
          · exact .inl (.inl h)
          · rcases h' with h' | h'
            · exact .inl (.inr (by omega))
            · have := gx z h'; omega
          · exact .inr ⟨h', h⟩
      · rcases List.mem_append.1 ht with h' | h'
        · rcases h.gap t h' with g | g
          · exact .inl g
          · exact .inr fun u hu => g u (by simp [hu])
        · rw [List.mem_singleton.1 h']
          exact .inr fun u hu => by have := y2 u hu; omega
    · intro hs
      refine ⟨h.rx, y3, h.rt, fun z => ?_, fun t ht => ?_, by simp; omega⟩
      · rw [← m0 z, InS.cons, InS.cons (s := y)]
        constructor
        · rintro (h | ⟨h, h'⟩)
          · exact .inl h
          · exact .inr ⟨h, .inr h'⟩
        · rintro (h | ⟨h', h | h⟩)
          · exact .inl h
          · rcases h' with h' | h'
            · omega
            · have := gx z h'; omega
          · exact .inr ⟨h', h⟩
      · rcases h.gap t ht with g | g
        · exact .inl g
        · exact .inr fun u hu => g u (by simp [hu])

/-! ### What the first has alone -/
/-- One span (from 'f' on now) against the first ones of the others. -/
structure LessI (Y C D : List Sp) (s : Sp) (f : Int) (r0 r : List Sp) (after : List Sp) : Prop where
  eq : Y = C ++ D
  ry : Rt Y
  rt : Rt r
  mem : ∀ z, InS r z ↔ InS r0 z ∨ (s.1 ≤ z ∧ z < s.2 ∧ z < f ∧ ¬ InS Y z)
  off : ∀ c ∈ C, c.2 ≤ f ∨ s.2 ≤ c.1
  le : s.1 ≤ f
  gap : ∀ t ∈ r, t.2 < f
  far : ∀ t ∈ r, ∀ u ∈ after, t.2 < u.1
  ne : ∀ u ∈ after, s.2 < u.1
  len : r.length ≤ r0.length + C.length

theorem LessI.start {Y r0 after : List Sp} {s : Sp} (hy : Rt Y) (hr : Rt r0) (hg : ∀ t ∈ r0, t.2 < s.1) (hf : ∀ t ∈ r0, ∀ u ∈ after, t.2 < u.1) (hn : ∀ u ∈ after, s.2 < u.1) : LessI Y [] Y s s.1 r0 r0 after :=
  ⟨rfl, hy, hr, fun z => ⟨.inl, fun h => h.elim id fun h => by omega⟩, by simp, Int.le_refl _, hg, hf, hn, by simp⟩

theorem LessI.skip {Y C D r0 r after : List Sp} {s c : Sp} {f : Int} (h : LessI Y C (c :: D) s f r0 r after) (hc : c.2 ≤ f ∨ s.2 ≤ c.1) : LessI Y (C ++ [c]) D s f r0 r after :=
  ⟨by rw [h.eq, List.append_assoc]; rfl, h.ry, h.rt, h.mem, fun u hu => by
    rcases List.mem_append.1 hu with h' | h'
    · exact h.off u h'
    · rw [List.mem_singleton.1 h']; exact hc, h.le, h.gap, h.far, h.ne, by have := h.len; simp; omega⟩

theorem LessI.inY {Y C D r0 r after : List Sp} {s c : Sp} {f : Int} (h : LessI Y C (c :: D) s f r0 r after) {z : Int} (h1 : f ≤ z) (h2 : z < s.2) (h3 : z < c.2) : InS Y z ↔ c.1 ≤ z := by
  have hy := h.ry
  rw [h.eq] at hy
  have hp := (List.pairwise_append.1 hy.2).2.1
  have hD := (List.pairwise_cons.1 hp).1
  rw [h.eq, InS.append, InS.cons]
  constructor
  · rintro (⟨u, hu, h4, h5⟩ | h4 | ⟨u, hu, h4, h5⟩)
    · rcases h.off u hu with h6 | h6 <;> omega
    · exact h4.1
    · have := hD u hu; omega
  · intro h4; exact .inr (.inl ⟨h4, h3⟩)

/-- It meets the next one. -/
theorem LessI.meet {Y C D r0 r after : List Sp} {s c : Sp} {f f' : Int} (h : LessI Y C (c :: D) s f r0 r after) (h1 : f < c.2) (h2 : c.1 < s.2) (hf : f' = c.2) :
    (f < c.1 → LessI Y (C ++ [c]) D s f' r0 (r ++ [(f, c.1)]) after) ∧ (¬ f < c.1 → LessI Y (C ++ [c]) D s f' r0 r after) := by
  have hy := h.ry
  rw [h.eq] at hy
  have hc1 : c.1 < c.2 := hy.1 c (by simp)
  have hle := h.le
  have eq' : Y = (C ++ [c]) ++ D := by rw [h.eq, List.append_assoc]; rfl
  have off' : ∀ u ∈ C ++ [c], u.2 ≤ f' ∨ s.2 ≤ u.1 := fun u hu => by
    rcases List.mem_append.1 hu with h' | h'
    · rcases h.off u h' with k | k
      · exact .inl (by omega)
      · exact .inr k
    · rw [List.mem_singleton.1 h']; exact .inl (by omega)
  have gap' : ∀ t ∈ r, t.2 < f' := fun t ht => by have := h.gap t ht; omega
  have hm := h.mem
  have hl := h.len
  constructor
  · intro h3
    refine ⟨eq', h.ry, h.rt.put h3 h.gap, fun z => ?_, off', by omega, fun t ht => ?_, fun t ht u hu => ?_, h.ne, by simp; omega⟩
    · rw [InS.snoc, hm]
      constructor
      · rintro ((h4 | h4) | ⟨h4, h5⟩)
        · exact .inl h4
        · exact .inr ⟨h4.1, h4.2.1, by omega, h4.2.2.2⟩
        · have h4 : f ≤ z := h4
          have h5 : z < c.1 := h5
          exact .inr ⟨by omega, by omega, by omega, fun h6 => by have := (h.inY h4 (by omega) (by omega)).1 h6; omega⟩
      · rintro (h4 | ⟨h4, h5, h6, h7⟩)
        · exact .inl (.inl h4)
        · by_cases h8 : z < f
          · exact .inl (.inr ⟨h4, h5, h8, h7⟩)
          · refine .inr ⟨by show f ≤ z; omega, ?_⟩
            show z < c.1
            by_cases h9 : z < c.1
            · exact h9
            · exact absurd ((h.inY (by omega) h5 (by omega)).2 (by omega)) h7
    · rcases List.mem_append.1 ht with h' | h'
      · exact gap' t h'
      · rw [List.mem_singleton.1 h']; show c.1 < f'; omega
    · rcases List.mem_append.1 ht with h' | h'
      · exact h.far t h' u hu
      · rw [List.mem_singleton.1 h']; have := h.ne u hu; show c.1 < u.1; omega
  · intro h3
    refine ⟨eq', h.ry, h.rt, fun z => ?_, off', by omega, gap', h.far, h.ne, by simp; omega⟩
    rw [hm]
    constructor
    · rintro (h4 | h4)
      · exact .inl h4
      · exact .inr ⟨h4.1, h4.2.1, by omega, h4.2.2.2⟩
    · rintro (h4 | ⟨h4, h5, h6, h7⟩)
      · exact .inl h4
      · by_cases h8 : z < f
        · exact .inr ⟨h4, h5, h8, h7⟩
        · exact absurd ((h.inY (by omega) h5 (by omega)).2 (by omega)) h7

/-- What is left of it is put. -/
theorem LessI.fin {Y C r0 r after : List Sp} {s : Sp} {f : Int} (h : LessI Y C [] s f r0 r after) :
    (f < s.2 → Rt (r ++ [(f, s.2)]) ∧ (∀ z, InS (r ++ [(f, s.2)]) z ↔ InS r0 z ∨ ((s.1 ≤ z ∧ z < s.2) ∧ ¬ InS Y z)) ∧ (∀ t ∈ r ++ [(f, s.2)], ∀ u ∈ after, t.2 < u.1)) ∧
    (¬ f < s.2 → Rt r ∧ (∀ z, InS r z ↔ InS r0 z ∨ ((s.1 ≤ z ∧ z < s.2) ∧ ¬ InS Y z)) ∧ (∀ t ∈ r, ∀ u ∈ after, t.2 < u.1)) := by
  have hm := h.mem
  have hle := h.le
  have hno : ∀ z, f ≤ z → z < s.2 → ¬ InS Y z := by
    rintro z h1 h2 ⟨u, hu, h3, h4⟩
    have : u ∈ C := by rw [h.eq, List.append_nil] at hu; exact hu
    rcases h.off u this with k | k <;> omega
  constructor
  · intro hf
    refine ⟨h.rt.put hf h.gap, fun z => ?_, fun t ht u hu => ?_⟩
    · rw [InS.snoc, hm]
      constructor
      · rintro ((h4 | h4) | ⟨h4, h5⟩)
        · exact .inl h4
        · exact .inr ⟨⟨h4.1, h4.2.1⟩, h4.2.2.2⟩
        · have h4 : f ≤ z := h4
          have h5 : z < s.2 := h5
          exact .inr ⟨⟨by omega, h5⟩, hno z h4 h5⟩
      · rintro (h4 | ⟨⟨h4, h5⟩, h7⟩)
        · exact .inl (.inl h4)
        · by_cases h8 : z < f
          · exact .inl (.inr ⟨h4, h5, h8, h7⟩)
          · exact .inr ⟨by show f ≤ z; omega, h5⟩
    · rcases List.mem_append.1 ht with h' | h'
      · exact h.far t h' u hu
      · rw [List.mem_singleton.1 h']; exact h.ne u hu
  · intro hf
    refine ⟨h.rt, fun z => ?_, h.far⟩
    rw [hm]
    constructor
    · rintro (h4 | h4)
      · exact .inl h4
      · exact .inr ⟨⟨h4.1, h4.2.1⟩, h4.2.2.2⟩
    · rintro (h4 | ⟨⟨h4, h5⟩, h7⟩)
      · exact .inl h4
      · exact .inr ⟨h4, h5, by omega, h7⟩
end Go.Am


/- Spans: one of both, both, the first alone, what is not there. -/
set_option linter.unusedVariables false
set_option linter.unusedSimpArgs false
namespace Go.Am
variable {m : Mem}

theorem spUnion {a b : List Sp} {va vbv : Value} (ha : Sl m 2 a.length (a.flatMap spV) va) (hab : SlLt m va) (hb : Sl m 2 b.length (b.flatMap spV) vbv) (hbb : SlLt m vbv) (hl : a.length + b.length < 50000) :
    WC R F.spans_Union [va, vbv] m fun rv m' => ∃ r, (Rt r ∧ ∀ x, InS r x ↔ InS a x ∨ InS b x) ∧ r.length ≤ 50000 ∧ Own m m' 2 r.length (r.flatMap spV) rv ∧ Ext m m' := by
  refine WC.of R.spans_Union rfl ?_
  obtain ⟨p1, n1, c1, rfl⟩ : ∃ p n c, va = .slice p n c := by cases ha <;> exact ⟨_, _, _, rfl⟩
  obtain ⟨p2, n2, c2, rfl⟩ : ∃ p n c, vbv = .slice p n c := by cases hb <;> exact ⟨_, _, _, rfl⟩
  simp only [RC.spans_Union, go_sem, Bool.false_and, new_set, Int.reduceBEq, Int.reduceBNe, Int.reduceNeg, not_true_eq_false, beq_self_eq_true, bne_self_eq_false, Bool.false_eq_true, if_false, if_true, Int.cast_ofNat_Int, decide_true, decide_false, reduceCtorEq, Nat.reduceEqDiff, Nat.reduceAdd, ne_eq, not_false_eq_true, Option.map_some, Option.bind_some, Option.map_none, Option.bind_none, true_and, and_true, Bool.not_true, Bool.not_false, Nat.reduceLeDiff, Nat.reduceMul, Nat.reduceSub, Nat.le_refl, Int.reduceToNat, Int.reduceLT, Int.reduceLE, Nat.one_mul, Nat.mul_one]
  have hx1 : Ext m (m.new (.cells [.slice p1 n1 c1, .slice p2 n2 c2] (some 1))) := Ext.new
  have hb1 : Bk (m.new (.cells [.slice p1 n1 c1, .slice p2 n2 c2] (some 1))) m.next [.slice p1 n1 c1, .slice p2 n2 c2] 1 := Bk.new
  generalize m.new (.cells [.slice p1 n1 c1, .slice p2 n2 c2] (some 1)) = m1 at hx1 hb1 ⊢
  refine gC.of (sp_Concat spV_len spV_one (ha.keep hab hx1) (hab.keep hx1) (hb.keep hbb hx1) (hbb.keep hx1) hb1 (by omega)) ?_
  rintro v2 m2 ⟨ho2, hx2⟩
  simp only [go_sem, Bool.false_and, new_set, Int.reduceBEq, Int.reduceBNe, Int.reduceNeg, not_true_eq_false, beq_self_eq_true, bne_self_eq_false, Bool.false_eq_true, if_false, if_true, Int.cast_ofNat_Int, decide_true, decide_false, reduceCtorEq, Nat.reduceEqDiff, Nat.reduceAdd, ne_eq, not_false_eq_true, Option.map_some, Option.bind_some, Option.map_none, Option.bind_none, true_and, and_true, Bool.not_true, Bool.not_false, Nat.reduceLeDiff, Nat.reduceMul, Nat.reduceSub, Nat.le_refl, Int.reduceToNat, Int.reduceLT, Int.reduceLE, Nat.one_mul, Nat.mul_one]
  refine gC.of (spNorm ho2.sl ho2.lt (by rw [List.length_append]; omega)) ?_
  rintro rv m3 ⟨r, hN, ho3, hx3⟩
  simp only [go_sem, Bool.false_and, new_set, Int.reduceBEq, Int.reduceBNe, Int.reduceNeg, not_true_eq_false, beq_self_eq_true, bne_self_eq_false, Bool.false_eq_true, if_false, if_true, Int.cast_ofNat_Int, decide_true, decide_false, reduceCtorEq, Nat.reduceEqDiff, Nat.reduceAdd, ne_eq, not_false_eq_true, Option.map_some, Option.bind_some, Option.map_none, Option.bind_none, true_and, and_true, Bool.not_true, Bool.not_false, Nat.reduceLeDiff, Nat.reduceMul, Nat.reduceSub, Nat.le_refl, Int.reduceToNat, Int.reduceLT, Int.reduceLE, Nat.one_mul, Nat.mul_one]
  have hl3 := hN.2.2
  rw [List.length_append] at hl3
  exact ⟨r, ⟨hN.1, fun x => by rw [hN.2.1, InS.append]⟩, by omega, ho3.weak (hx1.trans hx2), (hx1.trans hx2).trans hx3⟩

structure SpS (m : Mem) (l : List Sp) (v : Value) : Prop where
  sl : Sl m 2 l.length (l.flatMap spV) v
  lt : SlLt m v
  cut : Cut 2 m v
theorem SpS.keep {m m' : Mem} {l : List Sp} {v : Value} (h : SpS m l v) (hx : Ext m m') : SpS m' l v := ⟨h.sl.keep h.lt hx, h.lt.keep hx, h.cut.keep h.lt hx⟩
theorem SpS.own {m0 m : Mem} {l : List Sp} {v : Value} (h : Own m0 m 2 l.length (l.flatMap spV) v) : SpS m l v := ⟨h.sl, h.lt, h.cut⟩
theorem set_set {M : Mem} {k : Nat} {a b : Option AObj} : (M.set k a).set k b = M.set k b := by
  simp only [Mem.set, Mem.mk.injEq, true_and]
  funext q
  split <;> rfl
theorem stNew {M : Mem} {k : Nat} {f t : Int} : aStore 2 (M.set k (some (.cells [.int .i64 0, .int .i64 0] (some 2)))) (.pointer (some ⟨k, 0, none⟩)) (.agg #[.int .i64 f, .int .i64 t]) = some (M.set k (some (.cells [.int .i64 f, .int .i64 t] (some 2)))) := by
  have e : (#[Value.int .i64 f, .int .i64 t] : Array Value) = [Value.int .i64 f, .int .i64 t].toArray := rfl
  rw [e]
  simp only [go_sem, Bool.false_and, new_set, Int.reduceBEq, Int.reduceBNe, Int.reduceNeg, not_true_eq_false, beq_self_eq_true, bne_self_eq_false, Bool.false_eq_true, if_false, if_true, Int.cast_ofNat_Int, decide_true, decide_false, reduceCtorEq, Nat.reduceEqDiff, Nat.reduceAdd, ne_eq, not_false_eq_true, Option.map_some, Option.bind_some, Option.map_none, Option.bind_none, true_and, and_true, Bool.not_true, Bool.not_false, Nat.reduceLeDiff, Nat.reduceMul, Nat.reduceSub, Nat.le_refl, Int.reduceToNat, Int.reduceLT, Int.reduceLE, Nat.one_mul, Nat.mul_one, load_w, load_a, store_b, idxS_b, set_blk, new_blk, set_next, new_next, len_s, ldW_c, ldA_c, stB_c, toArr_one, size_one, toList_toArr, size_toArr, List.length_cons, List.length_nil, List.getElem?_cons_zero, List.getElem?_cons_succ, Nat.zero_add, Nat.add_zero]
  rw [set_set]
/-- The first one, and what follows. -/
theorem SpS.head {m : Mem} {s : Sp} {l : List Sp} {v : Value} (h : SpS m (s :: l) v) :
    (∃ b o, aIdxS 2 v (.int .i64 0) = some (.pointer (some ⟨b, o, none⟩)) ∧ aLoad false 1 m (.pointer (some ⟨b, o + 0, none⟩)) = some (.int .i64 s.1) ∧ aLoad false 1 m (.pointer (some ⟨b, o + 1, none⟩)) = some (.int .i64 s.2)) ∧
    ∃ v', aSub 2 m v (some (.int .i64 1)) none none = some v' ∧ SpS m l v' := by
  constructor
  · obtain ⟨b, o, a1, -, a3, -⟩ := h.sl.elem spV_len (k := .i64) (i := 0) (by simp)
    exact ⟨b, o, a1, a3 0 (by omega), a3 1 (by omega)⟩
  · obtain ⟨v', a1, a2, a3, a4⟩ := h.sl.from h.cut (k := .i64) (i := 1) (by simp)
    refine ⟨v', a1, ?_, a3 h.lt, a4⟩
    have e1 : (s :: l).length - 1 = l.length := by simp
    have e2 : ((s :: l).flatMap spV).drop (1 * 2) = l.flatMap spV := by
      rw [List.flatMap_cons]; exact List.drop_left' rfl
    rw [e1, e2] at a2
    exact a2

theorem SpS.tail {m : Mem} {s : Sp} {l : List Sp} {v : Value} (h : SpS m (s :: l) v) : ∃ v', SpS m l v' ∧ ∀ m', Ext m m' → aSub 2 m' v (some (.int .i64 1)) none none = some v' := by
  obtain ⟨-, v', a1, a2⟩ := h.head
  refine ⟨v', a2, fun m' hx => ?_⟩
  have hlt := h.lt
  rw [← a1]
  unfold aSub
  split
  · rfl
  · rename_i b o n c
    have : unitOk 2 m' b = unitOk 2 m b := by unfold unitOk; rw [hx.same b hlt]
    rw [this]
  · rfl

set_option maxHeartbeats 4000000 in
theorem spMeet {a b : List Sp} {va vbv : Value} (ha : Sl m 2 a.length (a.flatMap spV) va) (hab : SlLt m va) (hb : Sl m 2 b.length (b.flatMap spV) vbv) (hbb : SlLt m vbv) (hl : a.length + b.length < 50000) :
    WC R F.spans_Meet [va, vbv] m fun rv m' => ∃ r, (Rt r ∧ ∀ x, InS r x ↔ InS a x ∧ InS b x) ∧ r.length ≤ a.length + b.length ∧ Own m m' 2 r.length (r.flatMap spV) rv ∧ Ext m m' := by
  refine WC.of R.spans_Meet rfl ?_
  simp only [RC.spans_Meet, go_sem, Bool.false_and, new_set, Int.reduceBEq, Int.reduceBNe, Int.reduceNeg, not_true_eq_false, beq_self_eq_true, bne_self_eq_false, Bool.false_eq_true, if_false, if_true, Int.cast_ofNat_Int, decide_true, decide_false, reduceCtorEq, Nat.reduceEqDiff, Nat.reduceAdd, ne_eq, not_false_eq_true, Option.map_some, Option.bind_some, Option.map_none, Option.bind_none, true_and, and_true, Bool.not_true, Bool.not_false, Nat.reduceLeDiff, Nat.reduceMul, Nat.reduceSub, Nat.le_refl, Int.reduceToNat, Int.reduceLT, Int.reduceLE, Nat.one_mul, Nat.mul_one]
  refine gC.of (spNorm ha hab (by omega)) ?_
  rintro xv m1 ⟨X, hX, hox, hx1⟩
  simp only [go_sem, Bool.false_and, new_set, Int.reduceBEq, Int.reduceBNe, Int.reduceNeg, not_true_eq_false, beq_self_eq_true, bne_self_eq_false, Bool.false_eq_true, if_false, if_true, Int.cast_ofNat_Int, decide_true, decide_false, reduceCtorEq, Nat.reduceEqDiff, Nat.reduceAdd, ne_eq, not_false_eq_true, Option.map_some, Option.bind_some, Option.map_none, Option.bind_none, true_and, and_true, Bool.not_true, Bool.not_false, Nat.reduceLeDiff, Nat.reduceMul, Nat.reduceSub, Nat.le_refl, Int.reduceToNat, Int.reduceLT, Int.reduceLE, Nat.one_mul, Nat.mul_one]
  refine gC.of (spNorm (hb.keep hbb hx1) (hbb.keep hx1) (by omega)) ?_
  rintro yv m2 ⟨Y, hY, hoy, hx2⟩
  simp only [go_sem, Bool.false_and, new_set, Int.reduceBEq, Int.reduceBNe, Int.reduceNeg, not_true_eq_false, beq_self_eq_true, bne_self_eq_false, Bool.false_eq_true, if_false, if_true, Int.cast_ofNat_Int, decide_true, decide_false, reduceCtorEq, Nat.reduceEqDiff, Nat.reduceAdd, ne_eq, not_false_eq_true, Option.map_some, Option.bind_some, Option.map_none, Option.bind_none, true_and, and_true, Bool.not_true, Bool.not_false, Nat.reduceLeDiff, Nat.reduceMul, Nat.reduceSub, Nat.le_refl, Int.reduceToNat, Int.reduceLT, Int.reduceLE, Nat.one_mul, Nat.mul_one]
  have hXs := SpS.own (hox.keep hx2)
  have hYs := SpS.own hoy
  have hXl := hX.2.2
  have hYl := hY.2.2
  refine WL.of (fun n e m' => ∃ (xs ys r : List Sp) (xv yv rv : Value), n = xs.length + ys.length ∧ e = [(5, xv), (6, yv), (7, rv)] ∧ SpS m2 xs xv ∧ SpS m2 ys yv ∧ MeetI X Y xs ys r ∧ Own m2 m' 2 r.length (r.flatMap spV) rv ∧ Ext m2 m') (X.length + Y.length)
    ⟨X, Y, [], xv, yv, _, rfl, by simp only [go_sem, Bool.false_and, new_set, Int.reduceBEq, Int.reduceBNe, Int.reduceNeg, not_true_eq_false, beq_self_eq_true, bne_self_eq_false, Bool.false_eq_true, if_false, if_true, Int.cast_ofNat_Int, decide_true, decide_false, reduceCtorEq, Nat.reduceEqDiff, Nat.reduceAdd, ne_eq, not_false_eq_true, Option.map_some, Option.bind_some, Option.map_none, Option.bind_none, true_and, and_true, Bool.not_true, Bool.not_false, Nat.reduceLeDiff, Nat.reduceMul, Nat.reduceSub, Nat.le_refl, Int.reduceToNat, Int.reduceLT, Int.reduceLE, Nat.one_mul, Nat.mul_one] <;> rfl, hXs, hYs, MeetI.start hX.1 hY.1, .nil rfl rfl, Ext.refl _⟩ ?_
  clear hXs hYs hox hoy
  rintro _ _ m3 ⟨xs, ys, r, xv, yv, rv, rfl, rfl, hxs, hys, hI, ho, hx3⟩
  have hxs3 := hxs.keep hx3
  have hys3 := hys.keep hx3
  have hIl := hI.len
  simp only [RB.spans_Meet_1, go_sem, Bool.false_and, new_set, Int.reduceBEq, Int.reduceBNe, Int.reduceNeg, not_true_eq_false, beq_self_eq_true, bne_self_eq_false, Bool.false_eq_true, if_false, if_true, Int.cast_ofNat_Int, decide_true, decide_false, reduceCtorEq, Nat.reduceEqDiff, Nat.reduceAdd, ne_eq, not_false_eq_true, Option.map_some, Option.bind_some, Option.map_none, Option.bind_none, true_and, and_true, Bool.not_true, Bool.not_false, Nat.reduceLeDiff, Nat.reduceMul, Nat.reduceSub, Nat.le_refl, Int.reduceToNat, Int.reduceLT, Int.reduceLE, Nat.one_mul, Nat.mul_one, hxs3.sl.len, hys3.sl.len]
  cases xs with
  | nil =>
    have e0 : decide (0 < (([] : List Sp).length : Int)) = false := rfl
    simp only [go_sem, Bool.false_and, new_set, Int.reduceBEq, Int.reduceBNe, Int.reduceNeg, not_true_eq_false, beq_self_eq_true, bne_self_eq_false, Bool.false_eq_true, if_false, if_true, Int.cast_ofNat_Int, decide_true, decide_false, reduceCtorEq, Nat.reduceEqDiff, Nat.reduceAdd, ne_eq, not_false_eq_true, Option.map_some, Option.bind_some, Option.map_none, Option.bind_none, true_and, and_true, Bool.not_true, Bool.not_false, Nat.reduceLeDiff, Nat.reduceMul, Nat.reduceSub, Nat.le_refl, Int.reduceToNat, Int.reduceLT, Int.reduceLE, Nat.one_mul, Nat.mul_one, e0]
    obtain ⟨h1, h2, h3⟩ := hI.stop (.inl rfl)
    exact ⟨r, ⟨h1, fun z => by rw [h2, hX.2.1, hY.2.1]⟩, by omega, ho.weak (hx1.trans hx2), (hx1.trans hx2).trans hx3⟩
  | cons x xs =>
    have e0 : decide (0 < ((xs.length + 1 : Nat) : Int)) = true := by rw [decide_eq_true_eq]; omega
    simp only [go_sem, Bool.false_and, new_set, Int.reduceBEq, Int.reduceBNe, Int.reduceNeg, not_true_eq_false, beq_self_eq_true, bne_self_eq_false, Bool.false_eq_true, if_false, if_true, Int.cast_ofNat_Int, decide_true, decide_false, reduceCtorEq, Nat.reduceEqDiff, Nat.reduceAdd, ne_eq, not_false_eq_true, Option.map_some, Option.bind_some, Option.map_none, Option.bind_none, true_and, and_true, Bool.not_true, Bool.not_false, Nat.reduceLeDiff, Nat.reduceMul, Nat.reduceSub, Nat.le_refl, Int.reduceToNat, Int.reduceLT, Int.reduceLE, Nat.one_mul, Nat.mul_one, e0, hys3.sl.len]
    cases ys with
    | nil =>
      have e1 : decide (0 < (([] : List Sp).length : Int)) = false := rfl
      simp only [go_sem, Bool.false_and, new_set, Int.reduceBEq, Int.reduceBNe, Int.reduceNeg, not_true_eq_false, beq_self_eq_true, bne_self_eq_false, Bool.false_eq_true, if_false, if_true, Int.cast_ofNat_Int, decide_true, decide_false, reduceCtorEq, Nat.reduceEqDiff, Nat.reduceAdd, ne_eq, not_false_eq_true, Option.map_some, Option.bind_some, Option.map_none, Option.bind_none, true_and, and_true, Bool.not_true, Bool.not_false, Nat.reduceLeDiff, Nat.reduceMul, Nat.reduceSub, Nat.le_refl, Int.reduceToNat, Int.reduceLT, Int.reduceLE, Nat.one_mul, Nat.mul_one, e1]
      obtain ⟨h1, h2, h3⟩ := hI.stop (.inr rfl)
      exact ⟨r, ⟨h1, fun z => by rw [h2, hX.2.1, hY.2.1]⟩, by omega, ho.weak (hx1.trans hx2), (hx1.trans hx2).trans hx3⟩
    | cons y ys =>
      have e1 : decide (0 < ((ys.length + 1 : Nat) : Int)) = true := by rw [decide_eq_true_eq]; omega
      obtain ⟨⟨b1, o1, p1, p2, p3⟩, xv', -, hxt⟩ := hxs3.head
      obtain ⟨⟨b2, o2, q1, q2, q3⟩, yv', -, hyt⟩ := hys3.head
      simp only [go_sem, Bool.false_and, new_set, Int.reduceBEq, Int.reduceBNe, Int.reduceNeg, not_true_eq_false, beq_self_eq_true, bne_self_eq_false, Bool.false_eq_true, if_false, if_true, Int.cast_ofNat_Int, decide_true, decide_false, reduceCtorEq, Nat.reduceEqDiff, Nat.reduceAdd, ne_eq, not_false_eq_true, Option.map_some, Option.bind_some, Option.map_none, Option.bind_none, true_and, and_true, Bool.not_true, Bool.not_false, Nat.reduceLeDiff, Nat.reduceMul, Nat.reduceSub, Nat.le_refl, Int.reduceToNat, Int.reduceLT, Int.reduceLE, Nat.one_mul, Nat.mul_one, e1, p1, p2, p3, q1, q2, q3]
      obtain ⟨xt, hxt0, xsub⟩ := hxs.tail
      obtain ⟨yt, hyt0, ysub⟩ := hys.tail
      obtain ⟨f, hf⟩ : ∃ f, f = (if x.1 < y.1 then y.1 else x.1) := ⟨_, rfl⟩
      obtain ⟨t, ht⟩ : ∃ t, t = (if y.2 < x.2 then y.2 else x.2) := ⟨_, rfl⟩
      have hf2 : f = max x.1 y.1 := by rw [hf]; split <;> omega
      have ht2 : t = min x.2 y.2 := by rw [ht]; split <;> omega
      obtain ⟨i1, i2⟩ := hI.put (s := (f, t)) hf2 ht2
      rw [← hf, ← ht]
      rw [stNew]
      have hx4 : Ext m3 ((m3.bump 21).set (m3.next + 19) (some (.cells [.int .i64 f, .int .i64 t] (some 2)))) := Ext.set ⟨by simp, fun b hb => rfl⟩ (by omega)
      have hb4 : Bk ((m3.bump 21).set (m3.next + 19) (some (.cells [.int .i64 f, .int .i64 t] (some 2)))) (m3.next + 19) [.int .i64 f, .int .i64 t] 2 := ⟨by simp [Mem.set], by simp [Mem.set]⟩
      generalize (m3.bump 21).set (m3.next + 19) (some (.cells [.int .i64 f, .int .i64 t] (some 2))) = m4 at hx4 hb4 ⊢
      have c3 : aLoad true 2 m4 (.pointer (some ⟨m3.next + 19, 0, none⟩)) = some (.agg (spV (f, t)).toArray) := by simp only [go_sem, Bool.false_and, new_set, Int.reduceBEq, Int.reduceBNe, Int.reduceNeg, not_true_eq_false, beq_self_eq_true, bne_self_eq_false, Bool.false_eq_true, if_false, if_true, Int.cast_ofNat_Int, decide_true, decide_false, reduceCtorEq, Nat.reduceEqDiff, Nat.reduceAdd, ne_eq, not_false_eq_true, Option.map_some, Option.bind_some, Option.map_none, Option.bind_none, true_and, and_true, Bool.not_true, Bool.not_false, Nat.reduceLeDiff, Nat.reduceMul, Nat.reduceSub, Nat.le_refl, Int.reduceToNat, Int.reduceLT, Int.reduceLE, Nat.one_mul, Nat.mul_one, load_w, load_a, store_b, idxS_b, set_blk, new_blk, set_next, new_next, len_s, ldW_c, ldA_c, stB_c, toArr_one, size_one, toList_toArr, size_toArr, List.length_cons, List.length_nil, List.getElem?_cons_zero, List.getElem?_cons_succ, Nat.zero_add, Nat.add_zero, hb4.at_]; rfl
      simp only [go_sem, Bool.false_and, new_set, Int.reduceBEq, Int.reduceBNe, Int.reduceNeg, not_true_eq_false, beq_self_eq_true, bne_self_eq_false, Bool.false_eq_true, if_false, if_true, Int.cast_ofNat_Int, decide_true, decide_false, reduceCtorEq, Nat.reduceEqDiff, Nat.reduceAdd, ne_eq, not_false_eq_true, Option.map_some, Option.bind_some, Option.map_none, Option.bind_none, true_and, and_true, Bool.not_true, Bool.not_false, Nat.reduceLeDiff, Nat.reduceMul, Nat.reduceSub, Nat.le_refl, Int.reduceToNat, Int.reduceLT, Int.reduceLE, Nat.one_mul, Nat.mul_one, c3]
      refine gC.of spEmpty ?_
      rintro _ m5 ⟨rfl, hx5⟩
      have hb5 := hb4.keep hx5
      have hx35 := hx4.trans hx5
      have hx25 := hx3.trans hx35
      have ho5 := ho.keep hx35
      have hxs5 := hxs.keep hx25
      have hys5 := hys.keep hx25
      obtain ⟨⟨b1, o1, p1, p2, p3⟩, -⟩ := hxs5.head
      obtain ⟨⟨b2, o2, q1, q2, q3⟩, -⟩ := hys5.head
      have c5 : aLoad true 2 m5 (.pointer (some ⟨m3.next + 19, 0, none⟩)) = some (.agg (spV (f, t)).toArray) := by simp only [go_sem, Bool.false_and, new_set, Int.reduceBEq, Int.reduceBNe, Int.reduceNeg, not_true_eq_false, beq_self_eq_true, bne_self_eq_false, Bool.false_eq_true, if_false, if_true, Int.cast_ofNat_Int, decide_true, decide_false, reduceCtorEq, Nat.reduceEqDiff, Nat.reduceAdd, ne_eq, not_false_eq_true, Option.map_some, Option.bind_some, Option.map_none, Option.bind_none, true_and, and_true, Bool.not_true, Bool.not_false, Nat.reduceLeDiff, Nat.reduceMul, Nat.reduceSub, Nat.le_refl, Int.reduceToNat, Int.reduceLT, Int.reduceLE, Nat.one_mul, Nat.mul_one, load_w, load_a, store_b, idxS_b, set_blk, new_blk, set_next, new_next, len_s, ldW_c, ldA_c, stB_c, toArr_one, size_one, toList_toArr, size_toArr, List.length_cons, List.length_nil, List.getElem?_cons_zero, List.getElem?_cons_succ, Nat.zero_add, Nat.add_zero, hb5.at_]; rfl
      simp only [go_sem, Bool.false_and, new_set, Int.reduceBEq, Int.reduceBNe, Int.reduceNeg, not_true_eq_false, beq_self_eq_true, bne_self_eq_false, Bool.false_eq_true, if_false, if_true, Int.cast_ofNat_Int, decide_true, decide_false, reduceCtorEq, Nat.reduceEqDiff, Nat.reduceAdd, ne_eq, not_false_eq_true, Option.map_some, Option.bind_some, Option.map_none, Option.bind_none, true_and, and_true, Bool.not_true, Bool.not_false, Nat.reduceLeDiff, Nat.reduceMul, Nat.reduceSub, Nat.le_refl, Int.reduceToNat, Int.reduceLT, Int.reduceLE, Nat.one_mul, Nat.mul_one]
      by_cases g1 : t ≤ f
      · have e1 : decide (t ≤ f) = true := decide_eq_true g1
        have hoF := ho5
        have hxF := hx25
        simp only [go_sem, Bool.false_and, new_set, Int.reduceBEq, Int.reduceBNe, Int.reduceNeg, not_true_eq_false, beq_self_eq_true, bne_self_eq_false, Bool.false_eq_true, if_false, if_true, Int.cast_ofNat_Int, decide_true, decide_false, reduceCtorEq, Nat.reduceEqDiff, Nat.reduceAdd, ne_eq, not_false_eq_true, Option.map_some, Option.bind_some, Option.map_none, Option.bind_none, true_and, and_true, Bool.not_true, Bool.not_false, Nat.reduceLeDiff, Nat.reduceMul, Nat.reduceSub, Nat.le_refl, Int.reduceToNat, Int.reduceLT, Int.reduceLE, Nat.one_mul, Nat.mul_one, e1]
        by_cases g2 : x.2 < y.2
        · have e2 : decide (x.2 < y.2) = true := decide_eq_true g2
          simp only [go_sem, Bool.false_and, new_set, Int.reduceBEq, Int.reduceBNe, Int.reduceNeg, not_true_eq_false, beq_self_eq_true, bne_self_eq_false, Bool.false_eq_true, if_false, if_true, Int.cast_ofNat_Int, decide_true, decide_false, reduceCtorEq, Nat.reduceEqDiff, Nat.reduceAdd, ne_eq, not_false_eq_true, Option.map_some, Option.bind_some, Option.map_none, Option.bind_none, true_and, and_true, Bool.not_true, Bool.not_false, Nat.reduceLeDiff, Nat.reduceMul, Nat.reduceSub, Nat.le_refl, Int.reduceToNat, Int.reduceLT, Int.reduceLE, Nat.one_mul, Nat.mul_one, e2, p1, p3, q1, q3, xsub _ hxF]
          exact ⟨xs.length + (ys.length + 1), by omega, xs, y :: ys, r, xt, yv, _, rfl, rfl, hxt0, hys, (i1 g2).2 (by show ¬ f < t; omega), hoF, hxF⟩
        · have e2 : decide (x.2 < y.2) = false := decide_eq_false g2
          simp only [go_sem, Bool.false_and, new_set, Int.reduceBEq, Int.reduceBNe, Int.reduceNeg, not_true_eq_false, beq_self_eq_true, bne_self_eq_false, Bool.false_eq_true, if_false, if_true, Int.cast_ofNat_Int, decide_true, decide_false, reduceCtorEq, Nat.reduceEqDiff, Nat.reduceAdd, ne_eq, not_false_eq_true, Option.map_some, Option.bind_some, Option.map_none, Option.bind_none, true_and, and_true, Bool.not_true, Bool.not_false, Nat.reduceLeDiff, Nat.reduceMul, Nat.reduceSub, Nat.le_refl, Int.reduceToNat, Int.reduceLT, Int.reduceLE, Nat.one_mul, Nat.mul_one, e2, p1, p3, q1, q3, ysub _ hxF]
          exact ⟨(xs.length + 1) + ys.length, by omega, x :: xs, ys, r, xv, yt, _, rfl, rfl, hxs, hyt0, (i2 g2).2 (by show ¬ f < t; omega), hoF, hxF⟩
      · have e1 : decide (t ≤ f) = false := decide_eq_false g1
        obtain ⟨v6, m6, f1, hoF, hxF⟩ := ho5.app (by_ := 16) (es := spV (f, t)) hx25 (by omega) rfl rfl (by omega) (by omega)
        rw [← spSnoc, show r.length + 1 = (r ++ [(f, t)]).length by simp] at hoF
        simp only [go_sem, Bool.false_and, new_set, Int.reduceBEq, Int.reduceBNe, Int.reduceNeg, not_true_eq_false, beq_self_eq_true, bne_self_eq_false, Bool.false_eq_true, if_false, if_true, Int.cast_ofNat_Int, decide_true, decide_false, reduceCtorEq, Nat.reduceEqDiff, Nat.reduceAdd, ne_eq, not_false_eq_true, Option.map_some, Option.bind_some, Option.map_none, Option.bind_none, true_and, and_true, Bool.not_true, Bool.not_false, Nat.reduceLeDiff, Nat.reduceMul, Nat.reduceSub, Nat.le_refl, Int.reduceToNat, Int.reduceLT, Int.reduceLE, Nat.one_mul, Nat.mul_one, e1, c5]
        refine ⟨rfl, rfl, ?_⟩
        rw [spPad, f1]
        have hxs6 := hxs.keep hxF
        have hys6 := hys.keep hxF
        obtain ⟨⟨b1, o1, p1, p2, p3⟩, -⟩ := hxs6.head
        obtain ⟨⟨b2, o2, q1, q2, q3⟩, -⟩ := hys6.head
        simp only [go_sem, Bool.false_and, new_set, Int.reduceBEq, Int.reduceBNe, Int.reduceNeg, not_true_eq_false, beq_self_eq_true, bne_self_eq_false, Bool.false_eq_true, if_false, if_true, Int.cast_ofNat_Int, decide_true, decide_false, reduceCtorEq, Nat.reduceEqDiff, Nat.reduceAdd, ne_eq, not_false_eq_true, Option.map_some, Option.bind_some, Option.map_none, Option.bind_none, true_and, and_true, Bool.not_true, Bool.not_false, Nat.reduceLeDiff, Nat.reduceMul, Nat.reduceSub, Nat.le_refl, Int.reduceToNat, Int.reduceLT, Int.reduceLE, Nat.one_mul, Nat.mul_one]
        by_cases g2 : x.2 < y.2
        · have e2 : decide (x.2 < y.2) = true := decide_eq_true g2
          simp only [go_sem, Bool.false_and, new_set, Int.reduceBEq, Int.reduceBNe, Int.reduceNeg, not_true_eq_false, beq_self_eq_true, bne_self_eq_false, Bool.false_eq_true, if_false, if_true, Int.cast_ofNat_Int, decide_true, decide_false, reduceCtorEq, Nat.reduceEqDiff, Nat.reduceAdd, ne_eq, not_false_eq_true, Option.map_some, Option.bind_some, Option.map_none, Option.bind_none, true_and, and_true, Bool.not_true, Bool.not_false, Nat.reduceLeDiff, Nat.reduceMul, Nat.reduceSub, Nat.le_refl, Int.reduceToNat, Int.reduceLT, Int.reduceLE, Nat.one_mul, Nat.mul_one, e2, p1, p3, q1, q3, xsub _ hxF]
          exact ⟨xs.length + (ys.length + 1), by omega, xs, y :: ys, r ++ [(f, t)], xt, yv, _, rfl, rfl, hxt0, hys, (i1 g2).1 (by show f < t; omega), hoF, hxF⟩
        · have e2 : decide (x.2 < y.2) = false := decide_eq_false g2
          simp only [go_sem, Bool.false_and, new_set, Int.reduceBEq, Int.reduceBNe, Int.reduceNeg, not_true_eq_false, beq_self_eq_true, bne_self_eq_false, Bool.false_eq_true, if_false, if_true, Int.cast_ofNat_Int, decide_true, decide_false, reduceCtorEq, Nat.reduceEqDiff, Nat.reduceAdd, ne_eq, not_false_eq_true, Option.map_some, Option.bind_some, Option.map_none, Option.bind_none, true_and, and_true, Bool.not_true, Bool.not_false, Nat.reduceLeDiff, Nat.reduceMul, Nat.reduceSub, Nat.le_refl, Int.reduceToNat, Int.reduceLT, Int.reduceLE, Nat.one_mul, Nat.mul_one, e2, p1, p3, q1, q3, ysub _ hxF]
          exact ⟨(xs.length + 1) + ys.length, by omega, x :: xs, ys, r ++ [(f, t)], xv, yt, _, rfl, rfl, hxs, hyt0, (i2 g2).1 (by show f < t; omega), hoF, hxF⟩

theorem stFrom {m : Mem} {b : Nat} {f t g : Int} (h : Bk m b [.int .i64 f, .int .i64 t] 2) : aStore 1 m (.pointer (some ⟨b, 0, none⟩)) (.int .i64 g) = some (m.set b (some (.cells [.int .i64 g, .int .i64 t] (some 2)))) := by
  simp only [go_sem, Bool.false_and, new_set, Int.reduceBEq, Int.reduceBNe, Int.reduceNeg, not_true_eq_false, beq_self_eq_true, bne_self_eq_false, Bool.false_eq_true, if_false, if_true, Int.cast_ofNat_Int, decide_true, decide_false, reduceCtorEq, Nat.reduceEqDiff, Nat.reduceAdd, ne_eq, not_false_eq_true, Option.map_some, Option.bind_some, Option.map_none, Option.bind_none, true_and, and_true, Bool.not_true, Bool.not_false, Nat.reduceLeDiff, Nat.reduceMul, Nat.reduceSub, Nat.le_refl, Int.reduceToNat, Int.reduceLT, Int.reduceLE, Nat.one_mul, Nat.mul_one, load_w, load_a, store_b, idxS_b, set_blk, new_blk, set_next, new_next, len_s, ldW_c, ldA_c, stB_c, toArr_one, size_one, toList_toArr, size_toArr, List.length_cons, List.length_nil, List.getElem?_cons_zero, List.getElem?_cons_succ, Nat.zero_add, Nat.add_zero, h.at_]
theorem Own.updq {m0 m m' : Mem} {u n : Nat} {cs : List Value} {v : Value} {fp : List Nat} (h : Own m0 m u n cs v) (hx : Upd m m' fp) (ho : ∀ b ∈ vb v, b ∉ fp) : Own m0 m' u n cs v := by
  cases h with
  | nil h hc => exact .nil h hc
  | @«at» b c all hb hb2 hn hm hl hcs h1 => exact .at hb (Nat.lt_of_lt_of_le hb2 hx.next) hn (by rw [hx.same b hb2 (ho b (by simp [vb]))]; exact hm) hl hcs h1

/-- One's own row beside a box of one's own. -/
structure BxS (m2 m : Mem) (q : Nat) (f t : Int) (r : List Sp) (rv : Value) : Prop where
  own : Own m2 m 2 r.length (r.flatMap spV) rv
  ext : Ext m2 m
  box : Bk m q [.int .i64 f, .int .i64 t] 2
  off : ∀ b ∈ vb rv, b ≠ q
  ge : m2.next ≤ q
theorem BxS.keep {m2 m m' : Mem} {q : Nat} {f t : Int} {r : List Sp} {rv : Value} (h : BxS m2 m q f t r rv) (hx : Ext m m') : BxS m2 m' q f t r rv :=
  ⟨h.own.keep hx, h.ext.trans hx, h.box.keep hx, h.off, h.ge⟩
theorem BxS.app {m2 m : Mem} {q : Nat} {f t : Int} {r : List Sp} {rv : Value} (h : BxS m2 m q f t r rv) {s : Sp} (hl : r.length < 100000) :
    ∃ v' m', aApp none 2 16 (m.new (.cells (spV s) (some 2))) rv (.slice (some ⟨m.next, 0, none⟩) 1 1) = some (v', m') ∧ BxS m2 m' q f t (r ++ [s]) v' := by
  obtain ⟨v', m', e1, e2, e3⟩ := h.own.app (by_ := 16) (es := spV s) h.ext (by omega) rfl rfl (by omega) (by omega)
  rw [← spSnoc, show r.length + 1 = (r ++ [s]).length by simp] at e2
  obtain ⟨u1, u2⟩ := app_upd e1
  have hk := h.keep (Ext.new (m := m) (o := .cells (spV s) (some 2)))
  refine ⟨v', m', e1, e2, e3, hk.box.upd u1 (fun hm => h.off q hm rfl), fun b hb => ?_, h.ge⟩
  rcases u2 with e | e
  · rw [e] at hb; exact h.off b hb
  · rw [e] at hb
    have hlt := hk.box.lt
    simp at hb; omega
theorem BxS.put {m2 m : Mem} {q : Nat} {f t g : Int} {r : List Sp} {rv : Value} (h : BxS m2 m q f t r rv) :
    BxS m2 (m.set q (some (.cells [.int .i64 g, .int .i64 t] (some 2)))) q g t r rv := by
  have hu : Upd m (m.set q (some (.cells [.int .i64 g, .int .i64 t] (some 2)))) [q] := Upd.set (by simp)
  refine ⟨h.own.updq hu fun b hb => by simpa using h.off b hb, hu.ext_of h.ext (by simpa using h.ge), ⟨by simp [Mem.set], h.box.lt⟩, h.off, h.ge⟩

set_option maxHeartbeats 4000000 in
theorem spLess_loop {m2 m4 : Mem} {q i xl : Nat} {X Y r : List Sp} {s : Sp} {xv yv rv : Value} (hYs : SpS m2 Y yv) (hYl : Y.length < 1000) (hrl : r.length < 50000)
    (hLI : LessI Y [] Y s s.1 r r (X.drop (i + 1))) (hB0 : BxS m2 m4 q s.1 s.2 r rv) :
    WL R [5, 6, 8, 14, 15, 16, 20, 21, 22] RB.spans_Less_1 [(5, rv), (6, yv), (8, .pointer (some ⟨q, 0, none⟩)), (14, xv), (15, .int .i64 xl), (16, .int .i64 i), (20, yv), (21, .int .i64 Y.length), (22, .int .i64 0)] m4 fun x e' m' =>
      x = .exit 2 ∧ ∃ (f : Int) (r' : List Sp) (rv' : Value), (∃ rest, e' = (5, rv') :: (6, yv) :: (8, .pointer (some ⟨q, 0, none⟩)) :: (14, xv) :: (15, .int .i64 xl) :: (16, .int .i64 i) :: rest) ∧ LessI Y Y [] s f r r' (X.drop (i + 1)) ∧ BxS m2 m' q f s.2 r' rv' := by
  refine WL.of (fun n e m' => ∃ (j : Nat) (f : Int) (r' : List Sp) (rv' : Value), j ≤ Y.length ∧ n = Y.length - j ∧ e = [(5, rv'), (6, yv), (8, .pointer (some ⟨q, 0, none⟩)), (14, xv), (15, .int .i64 xl), (16, .int .i64 i), (20, yv), (21, .int .i64 Y.length), (22, .int .i64 j)] ∧
        LessI Y (Y.take j) (Y.drop j) s f r r' (X.drop (i + 1)) ∧ BxS m2 m' q f s.2 r' rv') Y.length
      ⟨0, s.1, r, rv, by omega, by omega, by simp only [go_sem, Bool.false_and, new_set, Int.reduceBEq, Int.reduceBNe, Int.reduceNeg, not_true_eq_false, beq_self_eq_true, bne_self_eq_false, Bool.false_eq_true, if_false, if_true, Int.cast_ofNat_Int, decide_true, decide_false, reduceCtorEq, Nat.reduceEqDiff, Nat.reduceAdd, ne_eq, not_false_eq_true, Option.map_some, Option.bind_some, Option.map_none, Option.bind_none, true_and, and_true, Bool.not_true, Bool.not_false, Nat.reduceLeDiff, Nat.reduceMul, Nat.reduceSub, Nat.le_refl, Int.reduceToNat, Int.reduceLT, Int.reduceLE, Nat.one_mul, Nat.mul_one] <;> rfl, hLI, hB0⟩ ?_
  rintro _ _ m5 ⟨j, f, r', rv', hj, rfl, rfl, hI, hB⟩
  have hrl' := hI.len
  rw [List.length_take] at hrl'
  simp only [RB.spans_Less_1, go_sem, Bool.false_and, new_set, Int.reduceBEq, Int.reduceBNe, Int.reduceNeg, not_true_eq_false, beq_self_eq_true, bne_self_eq_false, Bool.false_eq_true, if_false, if_true, Int.cast_ofNat_Int, decide_true, decide_false, reduceCtorEq, Nat.reduceEqDiff, Nat.reduceAdd, ne_eq, not_false_eq_true, Option.map_some, Option.bind_some, Option.map_none, Option.bind_none, true_and, and_true, Bool.not_true, Bool.not_false, Nat.reduceLeDiff, Nat.reduceMul, Nat.reduceSub, Nat.le_refl, Int.reduceToNat, Int.reduceLT, Int.reduceLE, Nat.one_mul, Nat.mul_one]
  refine gT.of (fun g2' => ?_) (fun g2' => ?_) <;> (have g2 := g2'; try simp only [decide_eq_true_eq, decide_eq_false_iff_not, beq_iff_eq, bne_iff_ne, beq_eq_false_iff_ne, ne_eq, Bool.not_eq_true', Bool.not_eq_false', bne_eq_false_iff_eq, Int.not_lt, Int.not_le] at g2)
  · have hjl : j < Y.length := by omega
    have s2 := step1 (show j < 1000000 by omega)
    obtain ⟨pc, oc, d1, d2, -, -⟩ := (hYs.keep (hB.ext)).sl.elem spV_len (k := .i64) hjl
    have hdj : Y.drop j = Y[j] :: Y.drop (j + 1) := List.drop_eq_getElem_cons hjl
    have htj : Y.take (j + 1) = Y.take j ++ [Y[j]] := List.take_succ_eq_append_getElem hjl
    rw [hdj] at hI
    obtain ⟨c, hc⟩ : ∃ c, c = Y[j] := ⟨_, rfl⟩
    rw [← hc] at d2 hI htj
    clear hc hdj
    simp only [go_sem, Bool.false_and, new_set, Int.reduceBEq, Int.reduceBNe, Int.reduceNeg, not_true_eq_false, beq_self_eq_true, bne_self_eq_false, Bool.false_eq_true, if_false, if_true, Int.cast_ofNat_Int, decide_true, decide_false, reduceCtorEq, Nat.reduceEqDiff, Nat.reduceAdd, ne_eq, not_false_eq_true, Option.map_some, Option.bind_some, Option.map_none, Option.bind_none, true_and, and_true, Bool.not_true, Bool.not_false, Nat.reduceLeDiff, Nat.reduceMul, Nat.reduceSub, Nat.le_refl, Int.reduceToNat, Int.reduceLT, Int.reduceLE, Nat.one_mul, Nat.mul_one, g2', d1, d2]
    have hst : aStore 2 (m5.new (.cells [(.int .i64 0), (.int .i64 0)] (some 2))) (.pointer (some ⟨m5.next, 0, none⟩)) (.agg (spV c).toArray) = some (m5.new (.cells [.int .i64 c.1, .int .i64 c.2] (some 2))) := by
      simp only [spV]
      simp only [go_sem, Bool.false_and, new_set, Int.reduceBEq, Int.reduceBNe, Int.reduceNeg, not_true_eq_false, beq_self_eq_true, bne_self_eq_false, Bool.false_eq_true, if_false, if_true, Int.cast_ofNat_Int, decide_true, decide_false, reduceCtorEq, Nat.reduceEqDiff, Nat.reduceAdd, ne_eq, not_false_eq_true, Option.map_some, Option.bind_some, Option.map_none, Option.bind_none, true_and, and_true, Bool.not_true, Bool.not_false, Nat.reduceLeDiff, Nat.reduceMul, Nat.reduceSub, Nat.le_refl, Int.reduceToNat, Int.reduceLT, Int.reduceLE, Nat.one_mul, Nat.mul_one, load_w, load_a, store_b, idxS_b, set_blk, new_blk, set_next, new_next, len_s, ldW_c, ldA_c, stB_c, toArr_one, size_one, toList_toArr, size_toArr, List.length_cons, List.length_nil, List.getElem?_cons_zero, List.getElem?_cons_succ, Nat.zero_add, Nat.add_zero]
    simp only [go_sem, Bool.false_and, new_set, Int.reduceBEq, Int.reduceBNe, Int.reduceNeg, not_true_eq_false, beq_self_eq_true, bne_self_eq_false, Bool.false_eq_true, if_false, if_true, Int.cast_ofNat_Int, decide_true, decide_false, reduceCtorEq, Nat.reduceEqDiff, Nat.reduceAdd, ne_eq, not_false_eq_true, Option.map_some, Option.bind_some, Option.map_none, Option.bind_none, true_and, and_true, Bool.not_true, Bool.not_false, Nat.reduceLeDiff, Nat.reduceMul, Nat.reduceSub, Nat.le_refl, Int.reduceToNat, Int.reduceLT, Int.reduceLE, Nat.one_mul, Nat.mul_one, hst]
    have hbc : Bk (m5.new (.cells [.int .i64 c.1, .int .i64 c.2] (some 2))) m5.next [.int .i64 c.1, .int .i64 c.2] 2 := Bk.new
    have hB6 := hB.keep (Ext.new (m := m5) (o := .cells [.int .i64 c.1, .int .i64 c.2] (some 2)))
    have hcq : m5.next ≠ q := by have := hB.box.lt; omega
    clear hst
    generalize m5.new (.cells [.int .i64 c.1, .int .i64 c.2] (some 2)) = m6 at hbc hB6 ⊢
    have c1 : aLoad false 1 m6 (.pointer (some ⟨m5.next, 0, none⟩)) = some (.int .i64 c.1) := by simp only [go_sem, Bool.false_and, new_set, Int.reduceBEq, Int.reduceBNe, Int.reduceNeg, not_true_eq_false, beq_self_eq_true, bne_self_eq_false, Bool.false_eq_true, if_false, if_true, Int.cast_ofNat_Int, decide_true, decide_false, reduceCtorEq, Nat.reduceEqDiff, Nat.reduceAdd, ne_eq, not_false_eq_true, Option.map_some, Option.bind_some, Option.map_none, Option.bind_none, true_and, and_true, Bool.not_true, Bool.not_false, Nat.reduceLeDiff, Nat.reduceMul, Nat.reduceSub, Nat.le_refl, Int.reduceToNat, Int.reduceLT, Int.reduceLE, Nat.one_mul, Nat.mul_one, load_w, load_a, store_b, idxS_b, set_blk, new_blk, set_next, new_next, len_s, ldW_c, ldA_c, stB_c, toArr_one, size_one, toList_toArr, size_toArr, List.length_cons, List.length_nil, List.getElem?_cons_zero, List.getElem?_cons_succ, Nat.zero_add, Nat.add_zero, hbc.at_]
    have c2 : aLoad false 1 m6 (.pointer (some ⟨m5.next, 1, none⟩)) = some (.int .i64 c.2) := by simp only [go_sem, Bool.false_and, new_set, Int.reduceBEq, Int.reduceBNe, Int.reduceNeg, not_true_eq_false, beq_self_eq_true, bne_self_eq_false, Bool.false_eq_true, if_false, if_true, Int.cast_ofNat_Int, decide_true, decide_false, reduceCtorEq, Nat.reduceEqDiff, Nat.reduceAdd, ne_eq, not_false_eq_true, Option.map_some, Option.bind_some, Option.map_none, Option.bind_none, true_and, and_true, Bool.not_true, Bool.not_false, Nat.reduceLeDiff, Nat.reduceMul, Nat.reduceSub, Nat.le_refl, Int.reduceToNat, Int.reduceLT, Int.reduceLE, Nat.one_mul, Nat.mul_one, load_w, load_a, store_b, idxS_b, set_blk, new_blk, set_next, new_next, len_s, ldW_c, ldA_c, stB_c, toArr_one, size_one, toList_toArr, size_toArr, List.length_cons, List.length_nil, List.getElem?_cons_zero, List.getElem?_cons_succ, Nat.zero_add, Nat.add_zero, hbc.at_]
    have b1 : aLoad false 1 m6 (.pointer (some ⟨q, 0, none⟩)) = some (.int .i64 f) := by simp only [go_sem, Bool.false_and, new_set, Int.reduceBEq, Int.reduceBNe, Int.reduceNeg, not_true_eq_false, beq_self_eq_true, bne_self_eq_false, Bool.false_eq_true, if_false, if_true, Int.cast_ofNat_Int, decide_true, decide_false, reduceCtorEq, Nat.reduceEqDiff, Nat.reduceAdd, ne_eq, not_false_eq_true, Option.map_some, Option.bind_some, Option.map_none, Option.bind_none, true_and, and_true, Bool.not_true, Bool.not_false, Nat.reduceLeDiff, Nat.reduceMul, Nat.reduceSub, Nat.le_refl, Int.reduceToNat, Int.reduceLT, Int.reduceLE, Nat.one_mul, Nat.mul_one, load_w, load_a, store_b, idxS_b, set_blk, new_blk, set_next, new_next, len_s, ldW_c, ldA_c, stB_c, toArr_one, size_one, toList_toArr, size_toArr, List.length_cons, List.length_nil, List.getElem?_cons_zero, List.getElem?_cons_succ, Nat.zero_add, Nat.add_zero, hB6.box.at_]
    have b2 : aLoad false 1 m6 (.pointer (some ⟨q, 1, none⟩)) = some (.int .i64 s.2) := by simp only [go_sem, Bool.false_and, new_set, Int.reduceBEq, Int.reduceBNe, Int.reduceNeg, not_true_eq_false, beq_self_eq_true, bne_self_eq_false, Bool.false_eq_true, if_false, if_true, Int.cast_ofNat_Int, decide_true, decide_false, reduceCtorEq, Nat.reduceEqDiff, Nat.reduceAdd, ne_eq, not_false_eq_true, Option.map_some, Option.bind_some, Option.map_none, Option.bind_none, true_and, and_true, Bool.not_true, Bool.not_false, Nat.reduceLeDiff, Nat.reduceMul, Nat.reduceSub, Nat.le_refl, Int.reduceToNat, Int.reduceLT, Int.reduceLE, Nat.one_mul, Nat.mul_one, load_w, load_a, store_b, idxS_b, set_blk, new_blk, set_next, new_next, len_s, ldW_c, ldA_c, stB_c, toArr_one, size_one, toList_toArr, size_toArr, List.length_cons, List.length_nil, List.getElem?_cons_zero, List.getElem?_cons_succ, Nat.zero_add, Nat.add_zero, hB6.box.at_]
    by_cases g3 : c.2 ≤ f
    · have e3 : decide (c.2 ≤ f) = true := decide_eq_true g3
      simp only [go_sem, Bool.false_and, new_set, Int.reduceBEq, Int.reduceBNe, Int.reduceNeg, not_true_eq_false, beq_self_eq_true, bne_self_eq_false, Bool.false_eq_true, if_false, if_true, Int.cast_ofNat_Int, decide_true, decide_false, reduceCtorEq, Nat.reduceEqDiff, Nat.reduceAdd, ne_eq, not_false_eq_true, Option.map_some, Option.bind_some, Option.map_none, Option.bind_none, true_and, and_true, Bool.not_true, Bool.not_false, Nat.reduceLeDiff, Nat.reduceMul, Nat.reduceSub, Nat.le_refl, Int.reduceToNat, Int.reduceLT, Int.reduceLE, Nat.one_mul, Nat.mul_one, c1, c2, b1, b2, e3, s2]
      exact ⟨Y.length - (j + 1), by omega, j + 1, f, r', rv', by omega, rfl, rfl, by rw [htj]; exact hI.skip (.inl g3), hB6⟩
    · have e3 : decide (c.2 ≤ f) = false := decide_eq_false g3
      by_cases g4 : s.2 ≤ c.1
      · have e4 : decide (s.2 ≤ c.1) = true := decide_eq_true g4
        simp only [go_sem, Bool.false_and, new_set, Int.reduceBEq, Int.reduceBNe, Int.reduceNeg, not_true_eq_false, beq_self_eq_true, bne_self_eq_false, Bool.false_eq_true, if_false, if_true, Int.cast_ofNat_Int, decide_true, decide_false, reduceCtorEq, Nat.reduceEqDiff, Nat.reduceAdd, ne_eq, not_false_eq_true, Option.map_some, Option.bind_some, Option.map_none, Option.bind_none, true_and, and_true, Bool.not_true, Bool.not_false, Nat.reduceLeDiff, Nat.reduceMul, Nat.reduceSub, Nat.le_refl, Int.reduceToNat, Int.reduceLT, Int.reduceLE, Nat.one_mul, Nat.mul_one, c1, c2, b1, b2, e3, e4, s2]
        exact ⟨Y.length - (j + 1), by omega, j + 1, f, r', rv', by omega, rfl, rfl, by rw [htj]; exact hI.skip (.inr g4), hB6⟩
      · have e4 : decide (s.2 ≤ c.1) = false := decide_eq_false g4
        obtain ⟨k1, k2⟩ := hI.meet (f' := c.2) (by omega) (by omega) rfl
        have hmx : (if f < c.2 then c.2 else f) = c.2 := if_pos (by omega)
        simp only [go_sem, Bool.false_and, new_set, Int.reduceBEq, Int.reduceBNe, Int.reduceNeg, not_true_eq_false, beq_self_eq_true, bne_self_eq_false, Bool.false_eq_true, if_false, if_true, Int.cast_ofNat_Int, decide_true, decide_false, reduceCtorEq, Nat.reduceEqDiff, Nat.reduceAdd, ne_eq, not_false_eq_true, Option.map_some, Option.bind_some, Option.map_none, Option.bind_none, true_and, and_true, Bool.not_true, Bool.not_false, Nat.reduceLeDiff, Nat.reduceMul, Nat.reduceSub, Nat.le_refl, Int.reduceToNat, Int.reduceLT, Int.reduceLE, Nat.one_mul, Nat.mul_one, c1, c2, b1, b2, e3, e4, s2]
        by_cases g5 : f < c.1
        · have e5 : decide (f < c.1) = true := decide_eq_true g5
          obtain ⟨v7, m7, f1, hB7⟩ := hB6.app (s := (f, c.1)) (by omega)
          have u7 := (app_upd f1).1
          have hc7 := (hbc.keep (Ext.new (m := m6) (o := .cells (spV (f, c.1)) (some 2)))).upd u7 (fun hm => by
            have := (SlLt.vb_iff.1 hB.own.lt) _ hm; omega)
          simp only [spV] at f1
          simp only [go_sem, Bool.false_and, new_set, Int.reduceBEq, Int.reduceBNe, Int.reduceNeg, not_true_eq_false, beq_self_eq_true, bne_self_eq_false, Bool.false_eq_true, if_false, if_true, Int.cast_ofNat_Int, decide_true, decide_false, reduceCtorEq, Nat.reduceEqDiff, Nat.reduceAdd, ne_eq, not_false_eq_true, Option.map_some, Option.bind_some, Option.map_none, Option.bind_none, true_and, and_true, Bool.not_true, Bool.not_false, Nat.reduceLeDiff, Nat.reduceMul, Nat.reduceSub, Nat.le_refl, Int.reduceToNat, Int.reduceLT, Int.reduceLE, Nat.one_mul, Nat.mul_one, e5, c1, b1]
          rw [f1]
          have c2' : aLoad false 1 m7 (.pointer (some ⟨m5.next, 1, none⟩)) = some (.int .i64 c.2) := by simp only [go_sem, Bool.false_and, new_set, Int.reduceBEq, Int.reduceBNe, Int.reduceNeg, not_true_eq_false, beq_self_eq_true, bne_self_eq_false, Bool.false_eq_true, if_false, if_true, Int.cast_ofNat_Int, decide_true, decide_false, reduceCtorEq, Nat.reduceEqDiff, Nat.reduceAdd, ne_eq, not_false_eq_true, Option.map_some, Option.bind_some, Option.map_none, Option.bind_none, true_and, and_true, Bool.not_true, Bool.not_false, Nat.reduceLeDiff, Nat.reduceMul, Nat.reduceSub, Nat.le_refl, Int.reduceToNat, Int.reduceLT, Int.reduceLE, Nat.one_mul, Nat.mul_one, load_w, load_a, store_b, idxS_b, set_blk, new_blk, set_next, new_next, len_s, ldW_c, ldA_c, stB_c, toArr_one, size_one, toList_toArr, size_toArr, List.length_cons, List.length_nil, List.getElem?_cons_zero, List.getElem?_cons_succ, Nat.zero_add, Nat.add_zero, hc7.at_]
          have b1' : aLoad false 1 m7 (.pointer (some ⟨q, 0, none⟩)) = some (.int .i64 f) := by simp only [go_sem, Bool.false_and, new_set, Int.reduceBEq, Int.reduceBNe, Int.reduceNeg, not_true_eq_false, beq_self_eq_true, bne_self_eq_false, Bool.false_eq_true, if_false, if_true, Int.cast_ofNat_Int, decide_true, decide_false, reduceCtorEq, Nat.reduceEqDiff, Nat.reduceAdd, ne_eq, not_false_eq_true, Option.map_some, Option.bind_some, Option.map_none, Option.bind_none, true_and, and_true, Bool.not_true, Bool.not_false, Nat.reduceLeDiff, Nat.reduceMul, Nat.reduceSub, Nat.le_refl, Int.reduceToNat, Int.reduceLT, Int.reduceLE, Nat.one_mul, Nat.mul_one, load_w, load_a, store_b, idxS_b, set_blk, new_blk, set_next, new_next, len_s, ldW_c, ldA_c, stB_c, toArr_one, size_one, toList_toArr, size_toArr, List.length_cons, List.length_nil, List.getElem?_cons_zero, List.getElem?_cons_succ, Nat.zero_add, Nat.add_zero, hB7.box.at_]
          have st := stFrom (g := c.2) hB7.box
          simp only [go_sem, Bool.false_and, new_set, Int.reduceBEq, Int.reduceBNe, Int.reduceNeg, not_true_eq_false, beq_self_eq_true, bne_self_eq_false, Bool.false_eq_true, if_false, if_true, Int.cast_ofNat_Int, decide_true, decide_false, reduceCtorEq, Nat.reduceEqDiff, Nat.reduceAdd, ne_eq, not_false_eq_true, Option.map_some, Option.bind_some, Option.map_none, Option.bind_none, true_and, and_true, Bool.not_true, Bool.not_false, Nat.reduceLeDiff, Nat.reduceMul, Nat.reduceSub, Nat.le_refl, Int.reduceToNat, Int.reduceLT, Int.reduceLE, Nat.one_mul, Nat.mul_one, b1', c2', hmx, st, s2]
          exact ⟨Y.length - (j + 1), by omega, j + 1, c.2, r' ++ [(f, c.1)], v7, by omega, rfl, rfl, by rw [htj]; exact k1 g5, hB7.put⟩
        · have e5 : decide (f < c.1) = false := decide_eq_false g5
          have st := stFrom (g := c.2) hB6.box
          simp only [go_sem, Bool.false_and, new_set, Int.reduceBEq, Int.reduceBNe, Int.reduceNeg, not_true_eq_false, beq_self_eq_true, bne_self_eq_false, Bool.false_eq_true, if_false, if_true, Int.cast_ofNat_Int, decide_true, decide_false, reduceCtorEq, Nat.reduceEqDiff, Nat.reduceAdd, ne_eq, not_false_eq_true, Option.map_some, Option.bind_some, Option.map_none, Option.bind_none, true_and, and_true, Bool.not_true, Bool.not_false, Nat.reduceLeDiff, Nat.reduceMul, Nat.reduceSub, Nat.le_refl, Int.reduceToNat, Int.reduceLT, Int.reduceLE, Nat.one_mul, Nat.mul_one, e5, b1, c2, hmx, st, s2]
          exact ⟨Y.length - (j + 1), by omega, j + 1, c.2, r', rv', by omega, rfl, rfl, by rw [htj]; exact k2 g5, hB6.put⟩
  · have : j = Y.length := by omega
    subst this
    rw [List.take_length, List.drop_length] at hI
    simp only [go_sem, Bool.false_and, new_set, Int.reduceBEq, Int.reduceBNe, Int.reduceNeg, not_true_eq_false, beq_self_eq_true, bne_self_eq_false, Bool.false_eq_true, if_false, if_true, Int.cast_ofNat_Int, decide_true, decide_false, reduceCtorEq, Nat.reduceEqDiff, Nat.reduceAdd, ne_eq, not_false_eq_true, Option.map_some, Option.bind_some, Option.map_none, Option.bind_none, true_and, and_true, Bool.not_true, Bool.not_false, Nat.reduceLeDiff, Nat.reduceMul, Nat.reduceSub, Nat.le_refl, Int.reduceToNat, Int.reduceLT, Int.reduceLE, Nat.one_mul, Nat.mul_one, g2']
    exact ⟨f, r', rv', ⟨_, rfl⟩, hI, hB⟩

set_option maxHeartbeats 4000000 in
theorem spLess {a b : List Sp} {va vbv : Value} (ha : Sl m 2 a.length (a.flatMap spV) va) (hab : SlLt m va) (hb : Sl m 2 b.length (b.flatMap spV) vbv) (hbb : SlLt m vbv) (hl : a.length + b.length < 100) :
    WC R F.spans_Less [va, vbv] m fun rv m' => ∃ r, (Rt r ∧ ∀ x, InS r x ↔ InS a x ∧ ¬ InS b x) ∧ r.length ≤ 10000 ∧ Own m m' 2 r.length (r.flatMap spV) rv ∧ Ext m m' := by
  refine WC.of R.spans_Less rfl ?_
  simp only [RC.spans_Less, go_sem, Bool.false_and, new_set, Int.reduceBEq, Int.reduceBNe, Int.reduceNeg, not_true_eq_false, beq_self_eq_true, bne_self_eq_false, Bool.false_eq_true, if_false, if_true, Int.cast_ofNat_Int, decide_true, decide_false, reduceCtorEq, Nat.reduceEqDiff, Nat.reduceAdd, ne_eq, not_false_eq_true, Option.map_some, Option.bind_some, Option.map_none, Option.bind_none, true_and, and_true, Bool.not_true, Bool.not_false, Nat.reduceLeDiff, Nat.reduceMul, Nat.reduceSub, Nat.le_refl, Int.reduceToNat, Int.reduceLT, Int.reduceLE, Nat.one_mul, Nat.mul_one]
  refine gC.of (spNorm hb hbb (by omega)) ?_
  rintro yv m1 ⟨Y, hY, hoy, hx1⟩
  simp only [go_sem, Bool.false_and, new_set, Int.reduceBEq, Int.reduceBNe, Int.reduceNeg, not_true_eq_false, beq_self_eq_true, bne_self_eq_false, Bool.false_eq_true, if_false, if_true, Int.cast_ofNat_Int, decide_true, decide_false, reduceCtorEq, Nat.reduceEqDiff, Nat.reduceAdd, ne_eq, not_false_eq_true, Option.map_some, Option.bind_some, Option.map_none, Option.bind_none, true_and, and_true, Bool.not_true, Bool.not_false, Nat.reduceLeDiff, Nat.reduceMul, Nat.reduceSub, Nat.le_refl, Int.reduceToNat, Int.reduceLT, Int.reduceLE, Nat.one_mul, Nat.mul_one]
  refine gC.of (spNorm (ha.keep hab hx1) (hab.keep hx1) (by omega)) ?_
  rintro xv m2 ⟨X, hX, hox, hx2⟩
  have hXs := SpS.own hox
  have hYs := (SpS.own hoy).keep hx2
  have hXl := hX.2.2
  have hYl := hY.2.2
  simp only [go_sem, Bool.false_and, new_set, Int.reduceBEq, Int.reduceBNe, Int.reduceNeg, not_true_eq_false, beq_self_eq_true, bne_self_eq_false, Bool.false_eq_true, if_false, if_true, Int.cast_ofNat_Int, decide_true, decide_false, reduceCtorEq, Nat.reduceEqDiff, Nat.reduceAdd, ne_eq, not_false_eq_true, Option.map_some, Option.bind_some, Option.map_none, Option.bind_none, true_and, and_true, Bool.not_true, Bool.not_false, Nat.reduceLeDiff, Nat.reduceMul, Nat.reduceSub, Nat.le_refl, Int.reduceToNat, Int.reduceLT, Int.reduceLE, Nat.one_mul, Nat.mul_one, hXs.sl.len]
  refine WL.of (fun n e m' => ∃ (i : Nat) (r : List Sp) (rv : Value), i ≤ X.length ∧ n = X.length - i ∧ e = [(5, rv), (6, yv), (14, xv), (15, .int .i64 X.length), (16, .int .i64 i)] ∧
      Rt r ∧ (∀ z, InS r z ↔ InS (X.take i) z ∧ ¬ InS Y z) ∧ (∀ t ∈ r, ∀ u ∈ X.drop i, t.2 < u.1) ∧ r.length ≤ i * (Y.length + 1) ∧ Own m2 m' 2 r.length (r.flatMap spV) rv ∧ Ext m2 m') X.length
    ⟨0, [], .slice none 0 0, by omega, by omega, by simp only [go_sem, Bool.false_and, new_set, Int.reduceBEq, Int.reduceBNe, Int.reduceNeg, not_true_eq_false, beq_self_eq_true, bne_self_eq_false, Bool.false_eq_true, if_false, if_true, Int.cast_ofNat_Int, decide_true, decide_false, reduceCtorEq, Nat.reduceEqDiff, Nat.reduceAdd, ne_eq, not_false_eq_true, Option.map_some, Option.bind_some, Option.map_none, Option.bind_none, true_and, and_true, Bool.not_true, Bool.not_false, Nat.reduceLeDiff, Nat.reduceMul, Nat.reduceSub, Nat.le_refl, Int.reduceToNat, Int.reduceLT, Int.reduceLE, Nat.one_mul, Nat.mul_one] <;> rfl, Rt.nil, fun z => ⟨fun h => absurd h InS.nil, fun h => by simp [InS] at h⟩, by simp, by simp, .nil rfl rfl, Ext.refl _⟩ ?_
  rintro _ _ m3 ⟨i, r, rv, hi, rfl, rfl, hR, hM, hF, hrl, ho, hx3⟩
  have hXY : X.length * (Y.length + 1) ≤ 100 * 100 := Nat.mul_le_mul (by omega) (by omega)
  simp only [RB.spans_Less_2, go_sem, Bool.false_and, new_set, Int.reduceBEq, Int.reduceBNe, Int.reduceNeg, not_true_eq_false, beq_self_eq_true, bne_self_eq_false, Bool.false_eq_true, if_false, if_true, Int.cast_ofNat_Int, decide_true, decide_false, reduceCtorEq, Nat.reduceEqDiff, Nat.reduceAdd, ne_eq, not_false_eq_true, Option.map_some, Option.bind_some, Option.map_none, Option.bind_none, true_and, and_true, Bool.not_true, Bool.not_false, Nat.reduceLeDiff, Nat.reduceMul, Nat.reduceSub, Nat.le_refl, Int.reduceToNat, Int.reduceLT, Int.reduceLE, Nat.one_mul, Nat.mul_one]
  refine gT.of (fun g1' => ?_) (fun g1' => ?_) <;> (have g1 := g1'; try simp only [decide_eq_true_eq, decide_eq_false_iff_not, beq_iff_eq, bne_iff_ne, beq_eq_false_iff_ne, ne_eq, Bool.not_eq_true', Bool.not_eq_false', bne_eq_false_iff_eq, Int.not_lt, Int.not_le] at g1)
  · have hil : i < X.length := by omega
    have s1 := step1 (show i < 1000000 by omega)
    have hiY : (i + 1) * (Y.length + 1) ≤ X.length * (Y.length + 1) := Nat.mul_le_mul_right _ hil
    have hiY2 : (i + 1) * (Y.length + 1) = i * (Y.length + 1) + (Y.length + 1) := Nat.succ_mul _ _
    obtain ⟨p, o, a1, a2, -, -⟩ := (hXs.keep hx3).sl.elem spV_len (k := .i64) hil
    have hdr : X.drop i = X[i] :: X.drop (i + 1) := List.drop_eq_getElem_cons hil
    have htk : X.take (i + 1) = X.take i ++ [X[i]] := List.take_succ_eq_append_getElem hil
    have hXr := hX.1
    have hpw : (X.drop i).Pairwise (fun s t => s.2 < t.1) := hXr.2.sublist (List.drop_sublist _ _)
    rw [hdr] at hpw hF
    have hn1 := (List.pairwise_cons.1 hpw).1
    have hsne : X[i].1 < X[i].2 := hXr.1 _ (List.getElem_mem hil)
    simp only [go_sem, Bool.false_and, new_set, Int.reduceBEq, Int.reduceBNe, Int.reduceNeg, not_true_eq_false, beq_self_eq_true, bne_self_eq_false, Bool.false_eq_true, if_false, if_true, Int.cast_ofNat_Int, decide_true, decide_false, reduceCtorEq, Nat.reduceEqDiff, Nat.reduceAdd, ne_eq, not_false_eq_true, Option.map_some, Option.bind_some, Option.map_none, Option.bind_none, true_and, and_true, Bool.not_true, Bool.not_false, Nat.reduceLeDiff, Nat.reduceMul, Nat.reduceSub, Nat.le_refl, Int.reduceToNat, Int.reduceLT, Int.reduceLE, Nat.one_mul, Nat.mul_one, g1', a1, a2]
    generalize X[i] = s at *
    have hst : aStore 2 (m3.new (.cells [(.int .i64 0), (.int .i64 0)] (some 2))) (.pointer (some ⟨m3.next, 0, none⟩)) (.agg (spV s).toArray) = some (m3.new (.cells [.int .i64 s.1, .int .i64 s.2] (some 2))) := by
      simp only [spV]
      simp only [go_sem, Bool.false_and, new_set, Int.reduceBEq, Int.reduceBNe, Int.reduceNeg, not_true_eq_false, beq_self_eq_true, bne_self_eq_false, Bool.false_eq_true, if_false, if_true, Int.cast_ofNat_Int, decide_true, decide_false, reduceCtorEq, Nat.reduceEqDiff, Nat.reduceAdd, ne_eq, not_false_eq_true, Option.map_some, Option.bind_some, Option.map_none, Option.bind_none, true_and, and_true, Bool.not_true, Bool.not_false, Nat.reduceLeDiff, Nat.reduceMul, Nat.reduceSub, Nat.le_refl, Int.reduceToNat, Int.reduceLT, Int.reduceLE, Nat.one_mul, Nat.mul_one, load_w, load_a, store_b, idxS_b, set_blk, new_blk, set_next, new_next, len_s, ldW_c, ldA_c, stB_c, toArr_one, size_one, toList_toArr, size_toArr, List.length_cons, List.length_nil, List.getElem?_cons_zero, List.getElem?_cons_succ, Nat.zero_add, Nat.add_zero]
    simp only [go_sem, Bool.false_and, new_set, Int.reduceBEq, Int.reduceBNe, Int.reduceNeg, not_true_eq_false, beq_self_eq_true, bne_self_eq_false, Bool.false_eq_true, if_false, if_true, Int.cast_ofNat_Int, decide_true, decide_false, reduceCtorEq, Nat.reduceEqDiff, Nat.reduceAdd, ne_eq, not_false_eq_true, Option.map_some, Option.bind_some, Option.map_none, Option.bind_none, true_and, and_true, Bool.not_true, Bool.not_false, Nat.reduceLeDiff, Nat.reduceMul, Nat.reduceSub, Nat.le_refl, Int.reduceToNat, Int.reduceLT, Int.reduceLE, Nat.one_mul, Nat.mul_one, hst]
    have hxx : Ext m3 (m3.new (.cells [.int .i64 s.1, .int .i64 s.2] (some 2))) := Ext.new
    have hbx : Bk (m3.new (.cells [.int .i64 s.1, .int .i64 s.2] (some 2))) m3.next [.int .i64 s.1, .int .i64 s.2] 2 := Bk.new
    have hnx : (m3.new (.cells [.int .i64 s.1, .int .i64 s.2] (some 2))).next = m3.next + 1 := rfl
    generalize m3.new (.cells [.int .i64 s.1, .int .i64 s.2] (some 2)) = m4 at hbx hxx hnx ⊢
    have hYs4 := hYs.keep (hx3.trans hxx)
    simp only [go_sem, Bool.false_and, new_set, Int.reduceBEq, Int.reduceBNe, Int.reduceNeg, not_true_eq_false, beq_self_eq_true, bne_self_eq_false, Bool.false_eq_true, if_false, if_true, Int.cast_ofNat_Int, decide_true, decide_false, reduceCtorEq, Nat.reduceEqDiff, Nat.reduceAdd, ne_eq, not_false_eq_true, Option.map_some, Option.bind_some, Option.map_none, Option.bind_none, true_and, and_true, Bool.not_true, Bool.not_false, Nat.reduceLeDiff, Nat.reduceMul, Nat.reduceSub, Nat.le_refl, Int.reduceToNat, Int.reduceLT, Int.reduceLE, Nat.one_mul, Nat.mul_one, hYs4.sl.len]
    have hLI := LessI.start (Y := Y) (after := X.drop (i + 1)) (s := s) hY.1 hR (fun t ht => hF t ht s (by simp)) (fun t ht u hu => hF t ht u (by simp [hu])) hn1
    have hB0 : BxS m2 m4 m3.next s.1 s.2 r rv := ⟨ho.keep hxx, hx3.trans hxx, hbx, fun b hb => by have := SlLt.vb_iff.1 ho.lt b hb; omega, hx3.next⟩
    refine WL.mono (spLess_loop (xl := X.length) hYs (by omega) (by omega) hLI hB0) ?_
    clear hLI hB0 hYs4 hbx hnx hst a2
    rintro _ _ m5 ⟨rfl, f, r', rv', ⟨rest, rfl⟩, hI, hB⟩
    have hrl' := hI.len
    obtain ⟨k1, k2⟩ := hI.fin
    have hbl : aLoad true 2 m5 (.pointer (some ⟨m3.next, 0, none⟩)) = some (.agg (spV (f, s.2)).toArray) := by simp only [go_sem, Bool.false_and, new_set, Int.reduceBEq, Int.reduceBNe, Int.reduceNeg, not_true_eq_false, beq_self_eq_true, bne_self_eq_false, Bool.false_eq_true, if_false, if_true, Int.cast_ofNat_Int, decide_true, decide_false, reduceCtorEq, Nat.reduceEqDiff, Nat.reduceAdd, ne_eq, not_false_eq_true, Option.map_some, Option.bind_some, Option.map_none, Option.bind_none, true_and, and_true, Bool.not_true, Bool.not_false, Nat.reduceLeDiff, Nat.reduceMul, Nat.reduceSub, Nat.le_refl, Int.reduceToNat, Int.reduceLT, Int.reduceLE, Nat.one_mul, Nat.mul_one, load_w, load_a, store_b, idxS_b, set_blk, new_blk, set_next, new_next, len_s, ldW_c, ldA_c, stB_c, toArr_one, size_one, toList_toArr, size_toArr, List.length_cons, List.length_nil, List.getElem?_cons_zero, List.getElem?_cons_succ, Nat.zero_add, Nat.add_zero, hB.box.at_]; rfl
    simp only [go_sem, Bool.false_and, new_set, Int.reduceBEq, Int.reduceBNe, Int.reduceNeg, not_true_eq_false, beq_self_eq_true, bne_self_eq_false, Bool.false_eq_true, if_false, if_true, Int.cast_ofNat_Int, decide_true, decide_false, reduceCtorEq, Nat.reduceEqDiff, Nat.reduceAdd, ne_eq, not_false_eq_true, Option.map_some, Option.bind_some, Option.map_none, Option.bind_none, true_and, and_true, Bool.not_true, Bool.not_false, Nat.reduceLeDiff, Nat.reduceMul, Nat.reduceSub, Nat.le_refl, Int.reduceToNat, Int.reduceLT, Int.reduceLE, Nat.one_mul, Nat.mul_one, hbl]
    refine gC.of spEmpty ?_
    rintro _ m6 ⟨rfl, hx6⟩
    have hB6 := hB.keep hx6
    have hbl6 : aLoad true 2 m6 (.pointer (some ⟨m3.next, 0, none⟩)) = some (.agg (spV (f, s.2)).toArray) := by simp only [go_sem, Bool.false_and, new_set, Int.reduceBEq, Int.reduceBNe, Int.reduceNeg, not_true_eq_false, beq_self_eq_true, bne_self_eq_false, Bool.false_eq_true, if_false, if_true, Int.cast_ofNat_Int, decide_true, decide_false, reduceCtorEq, Nat.reduceEqDiff, Nat.reduceAdd, ne_eq, not_false_eq_true, Option.map_some, Option.bind_some, Option.map_none, Option.bind_none, true_and, and_true, Bool.not_true, Bool.not_false, Nat.reduceLeDiff, Nat.reduceMul, Nat.reduceSub, Nat.le_refl, Int.reduceToNat, Int.reduceLT, Int.reduceLE, Nat.one_mul, Nat.mul_one, load_w, load_a, store_b, idxS_b, set_blk, new_blk, set_next, new_next, len_s, ldW_c, ldA_c, stB_c, toArr_one, size_one, toList_toArr, size_toArr, List.length_cons, List.length_nil, List.getElem?_cons_zero, List.getElem?_cons_succ, Nat.zero_add, Nat.add_zero, hB6.box.at_]; rfl
    have hMM : ∀ z, (InS r z ∨ ((s.1 ≤ z ∧ z < s.2) ∧ ¬ InS Y z)) ↔ (InS (X.take (i + 1)) z ∧ ¬ InS Y z) := fun z => by
      rw [hM, htk, InS.snoc]
      constructor
      · rintro (h | h)
        · exact ⟨.inl h.1, h.2⟩
        · exact ⟨.inr h.1, h.2⟩
      · rintro ⟨h | h, h'⟩
        · exact .inl ⟨h, h'⟩
        · exact .inr ⟨h, h'⟩
    by_cases g5 : s.2 ≤ f
    · have e5 : decide (s.2 ≤ f) = true := decide_eq_true g5
      obtain ⟨n1, n2, n3⟩ := k2 (by omega)
      simp only [go_sem, Bool.false_and, new_set, Int.reduceBEq, Int.reduceBNe, Int.reduceNeg, not_true_eq_false, beq_self_eq_true, bne_self_eq_false, Bool.false_eq_true, if_false, if_true, Int.cast_ofNat_Int, decide_true, decide_false, reduceCtorEq, Nat.reduceEqDiff, Nat.reduceAdd, ne_eq, not_false_eq_true, Option.map_some, Option.bind_some, Option.map_none, Option.bind_none, true_and, and_true, Bool.not_true, Bool.not_false, Nat.reduceLeDiff, Nat.reduceMul, Nat.reduceSub, Nat.le_refl, Int.reduceToNat, Int.reduceLT, Int.reduceLE, Nat.one_mul, Nat.mul_one, e5, s1]
      exact ⟨X.length - (i + 1), by omega, i + 1, r', rv', by omega, rfl, rfl, n1, fun z => (n2 z).trans (hMM z), n3, by omega, hB6.own, hB6.ext⟩
    · have e5 : decide (s.2 ≤ f) = false := decide_eq_false g5
      obtain ⟨n1, n2, n3⟩ := k1 (by omega)
      obtain ⟨v7, m7, f1, hB7⟩ := hB6.app (s := (f, s.2)) (by omega)
      simp only [go_sem, Bool.false_and, new_set, Int.reduceBEq, Int.reduceBNe, Int.reduceNeg, not_true_eq_false, beq_self_eq_true, bne_self_eq_false, Bool.false_eq_true, if_false, if_true, Int.cast_ofNat_Int, decide_true, decide_false, reduceCtorEq, Nat.reduceEqDiff, Nat.reduceAdd, ne_eq, not_false_eq_true, Option.map_some, Option.bind_some, Option.map_none, Option.bind_none, true_and, and_true, Bool.not_true, Bool.not_false, Nat.reduceLeDiff, Nat.reduceMul, Nat.reduceSub, Nat.le_refl, Int.reduceToNat, Int.reduceLT, Int.reduceLE, Nat.one_mul, Nat.mul_one, e5, hbl6]
      refine ⟨rfl, rfl, ?_⟩
      rw [spPad, f1]
      simp only [go_sem, Bool.false_and, new_set, Int.reduceBEq, Int.reduceBNe, Int.reduceNeg, not_true_eq_false, beq_self_eq_true, bne_self_eq_false, Bool.false_eq_true, if_false, if_true, Int.cast_ofNat_Int, decide_true, decide_false, reduceCtorEq, Nat.reduceEqDiff, Nat.reduceAdd, ne_eq, not_false_eq_true, Option.map_some, Option.bind_some, Option.map_none, Option.bind_none, true_and, and_true, Bool.not_true, Bool.not_false, Nat.reduceLeDiff, Nat.reduceMul, Nat.reduceSub, Nat.le_refl, Int.reduceToNat, Int.reduceLT, Int.reduceLE, Nat.one_mul, Nat.mul_one, s1]
      exact ⟨X.length - (i + 1), by omega, i + 1, r' ++ [(f, s.2)], v7, by omega, rfl, rfl, n1, fun z => (n2 z).trans (hMM z), n3, by simp; omega, hB7.own, hB7.ext⟩
  · have : i = X.length := by omega
    subst this
    rw [List.take_length] at hM
    simp only [go_sem, Bool.false_and, new_set, Int.reduceBEq, Int.reduceBNe, Int.reduceNeg, not_true_eq_false, beq_self_eq_true, bne_self_eq_false, Bool.false_eq_true, if_false, if_true, Int.cast_ofNat_Int, decide_true, decide_false, reduceCtorEq, Nat.reduceEqDiff, Nat.reduceAdd, ne_eq, not_false_eq_true, Option.map_some, Option.bind_some, Option.map_none, Option.bind_none, true_and, and_true, Bool.not_true, Bool.not_false, Nat.reduceLeDiff, Nat.reduceMul, Nat.reduceSub, Nat.le_refl, Int.reduceToNat, Int.reduceLT, Int.reduceLE, Nat.one_mul, Nat.mul_one, g1']
    exact ⟨r, ⟨hR, fun z => by rw [hM, hX.2.1, hY.2.1]⟩, by omega, ho.weak (hx1.trans hx2), (hx1.trans hx2).trans hx3⟩
end Go.Am


/- SpansBoth, SpansGaps, SpansParts. -/
set_option linter.unusedVariables false
set_option linter.unusedSimpArgs false
namespace Go.Am
variable {m : Mem}

theorem sl_one {m : Mem} {b : Nat} {s : Sp} (h : Bk m b [.int .i64 s.1, .int .i64 s.2] 2) : Sl m 2 [s].length ([s].flatMap spV) (.slice (some ⟨b, 0, none⟩) 1 1) := by
  refine .at (Nat.le_refl _) ?_
  unfold aCells
  rw [h.at_]; rfl

theorem spGaps {l : List Sp} {v : Value} {f t : Int} (hs : Sl m 2 l.length (l.flatMap spV) v) (hb : SlLt m v) (hl : l.length < 90) :
    WC R F.spans_Gaps [v, .int .i64 f, .int .i64 t] m fun rv m' => ∃ r, (Rt r ∧ ∀ x, InS r x ↔ InS [(f, t)] x ∧ ¬ InS l x) ∧ r.length ≤ 10000 ∧ Own m m' 2 r.length (r.flatMap spV) rv ∧ Ext m m' := by
  refine WC.of R.spans_Gaps rfl ?_
  simp only [RC.spans_Gaps, go_sem, Bool.false_and, new_set, Int.reduceBEq, Int.reduceBNe, Int.reduceNeg, not_true_eq_false, beq_self_eq_true, bne_self_eq_false, Bool.false_eq_true, if_false, if_true, Int.cast_ofNat_Int, decide_true, decide_false, reduceCtorEq, Nat.reduceEqDiff, Nat.reduceAdd, ne_eq, not_false_eq_true, Option.map_some, Option.bind_some, Option.map_none, Option.bind_none, true_and, and_true, Bool.not_true, Bool.not_false, Nat.reduceLeDiff, Nat.reduceMul, Nat.reduceSub, Nat.le_refl, Int.reduceToNat, Int.reduceLT, Int.reduceLE, Nat.one_mul, Nat.mul_one]
  have hx1 : Ext m (m.new (.cells [.int .i64 f, .int .i64 t] (some 2))) := Ext.new
  have hb1 : Bk (m.new (.cells [.int .i64 f, .int .i64 t] (some 2))) m.next [.int .i64 f, .int .i64 t] 2 := Bk.new
  generalize m.new (.cells [.int .i64 f, .int .i64 t] (some 2)) = m1 at hx1 hb1 ⊢
  refine gC.of (spLess (sl_one (s := (f, t)) hb1) hb1.lt (hs.keep hb hx1) (hb.keep hx1) (by simp; omega)) ?_
  rintro rv m2 ⟨r, hr, hrl, ho, hx2⟩
  simp only [go_sem, Bool.false_and, new_set, Int.reduceBEq, Int.reduceBNe, Int.reduceNeg, not_true_eq_false, beq_self_eq_true, bne_self_eq_false, Bool.false_eq_true, if_false, if_true, Int.cast_ofNat_Int, decide_true, decide_false, reduceCtorEq, Nat.reduceEqDiff, Nat.reduceAdd, ne_eq, not_false_eq_true, Option.map_some, Option.bind_some, Option.map_none, Option.bind_none, true_and, and_true, Bool.not_true, Bool.not_false, Nat.reduceLeDiff, Nat.reduceMul, Nat.reduceSub, Nat.le_refl, Int.reduceToNat, Int.reduceLT, Int.reduceLE, Nat.one_mul, Nat.mul_one]
  exact ⟨r, hr, hrl, ho.weak hx1, hx1.trans hx2⟩

theorem SpansGaps_spec {l : List Sp} {v : Value} {f t : Int} (hs : Sl m 2 l.length (l.flatMap spV) v) (hb : SlLt m v) (hc : Cut 2 m v) : WC R F.law05_SpansGaps [v, .int .i64 f, .int .i64 t] m fun r _ => r = .bool true := by
  refine WC.of R.law05_SpansGaps rfl ?_
  simp only [RC.law05_SpansGaps, go_sem, Bool.false_and, new_set, Int.reduceBEq, Int.reduceBNe, Int.reduceNeg, not_true_eq_false, beq_self_eq_true, bne_self_eq_false, Bool.false_eq_true, if_false, if_true, Int.cast_ofNat_Int, decide_true, decide_false, reduceCtorEq, Nat.reduceEqDiff, Nat.reduceAdd, ne_eq, not_false_eq_true, Option.map_some, Option.bind_some, Option.map_none, Option.bind_none, true_and, and_true, Bool.not_true, Bool.not_false, Nat.reduceLeDiff, Nat.reduceMul, Nat.reduceSub, Nat.le_refl, Int.reduceToNat, Int.reduceLT, Int.reduceLE, Nat.one_mul, Nat.mul_one]
  refine gC.of (spFew hs hb hc) ?_
  rintro v0 _ ⟨⟨hs0, hb0, hc0⟩, hm⟩
  subst hm
  have h30 : (l.take 30).length ≤ 30 := take30
  generalize l.take 30 = L at hs0 h30
  clear hs hb hc
  simp only [go_sem, Bool.false_and, new_set, Int.reduceBEq, Int.reduceBNe, Int.reduceNeg, not_true_eq_false, beq_self_eq_true, bne_self_eq_false, Bool.false_eq_true, if_false, if_true, Int.cast_ofNat_Int, decide_true, decide_false, reduceCtorEq, Nat.reduceEqDiff, Nat.reduceAdd, ne_eq, not_false_eq_true, Option.map_some, Option.bind_some, Option.map_none, Option.bind_none, true_and, and_true, Bool.not_true, Bool.not_false, Nat.reduceLeDiff, Nat.reduceMul, Nat.reduceSub, Nat.le_refl, Int.reduceToNat, Int.reduceLT, Int.reduceLE, Nat.one_mul, Nat.mul_one]
  refine gC.of (spOf hs0 hb0 (by omega)) ?_
  rintro v1 m1 ⟨ho1, hx1⟩
  simp only [go_sem, Bool.false_and, new_set, Int.reduceBEq, Int.reduceBNe, Int.reduceNeg, not_true_eq_false, beq_self_eq_true, bne_self_eq_false, Bool.false_eq_true, if_false, if_true, Int.cast_ofNat_Int, decide_true, decide_false, reduceCtorEq, Nat.reduceEqDiff, Nat.reduceAdd, ne_eq, not_false_eq_true, Option.map_some, Option.bind_some, Option.map_none, Option.bind_none, true_and, and_true, Bool.not_true, Bool.not_false, Nat.reduceLeDiff, Nat.reduceMul, Nat.reduceSub, Nat.le_refl, Int.reduceToNat, Int.reduceLT, Int.reduceLE, Nat.one_mul, Nat.mul_one]
  refine gC.of (spGaps ho1.sl ho1.lt (by omega)) ?_
  rintro gv m2 ⟨r, ⟨hR, hM⟩, hrl, hor, hx2⟩
  simp only [go_sem, Bool.false_and, new_set, Int.reduceBEq, Int.reduceBNe, Int.reduceNeg, not_true_eq_false, beq_self_eq_true, bne_self_eq_false, Bool.false_eq_true, if_false, if_true, Int.cast_ofNat_Int, decide_true, decide_false, reduceCtorEq, Nat.reduceEqDiff, Nat.reduceAdd, ne_eq, not_false_eq_true, Option.map_some, Option.bind_some, Option.map_none, Option.bind_none, true_and, and_true, Bool.not_true, Bool.not_false, Nat.reduceLeDiff, Nat.reduceMul, Nat.reduceSub, Nat.le_refl, Int.reduceToNat, Int.reduceLT, Int.reduceLE, Nat.one_mul, Nat.mul_one]
  have hx3 : Ext m2 (m2.new (.cells [.int .i64 f, .int .i64 t] (some 2))) := Ext.new
  have hb3 : Bk (m2.new (.cells [.int .i64 f, .int .i64 t] (some 2))) m2.next [.int .i64 f, .int .i64 t] 2 := Bk.new
  generalize m2.new (.cells [.int .i64 f, .int .i64 t] (some 2)) = m3 at hx3 hb3 ⊢
  have hx03 := (hx1.trans hx2).trans hx3
  refine gC.of (refOp (k := 2) (sl_one (s := (f, t)) hb3) hb3.lt (hs0.keep hb0 hx03) (hb0.keep hx03) (by simp) (by omega)) ?_
  rintro ov m4 ⟨r', ⟨hR', hM'⟩, hrl', hoo, hx4⟩
  have hrr : r' = r := hR'.eq hR fun y => by rw [hM', kin2, hM]
  subst hrr
  simp only [go_sem, Bool.false_and, new_set, Int.reduceBEq, Int.reduceBNe, Int.reduceNeg, not_true_eq_false, beq_self_eq_true, bne_self_eq_false, Bool.false_eq_true, if_false, if_true, Int.cast_ofNat_Int, decide_true, decide_false, reduceCtorEq, Nat.reduceEqDiff, Nat.reduceAdd, ne_eq, not_false_eq_true, Option.map_some, Option.bind_some, Option.map_none, Option.bind_none, true_and, and_true, Bool.not_true, Bool.not_false, Nat.reduceLeDiff, Nat.reduceMul, Nat.reduceSub, Nat.le_refl, Int.reduceToNat, Int.reduceLT, Int.reduceLE, Nat.one_mul, Nat.mul_one]
  refine gC.of (spSame (hor.keep (hx3.trans hx4)).sl hoo.sl (by omega)) ?_
  rintro _ _ ⟨rfl, hm⟩
  subst hm
  have e1 : decide (r' = r') = true := decide_eq_true rfl
  simp only [go_sem, Bool.false_and, new_set, Int.reduceBEq, Int.reduceBNe, Int.reduceNeg, not_true_eq_false, beq_self_eq_true, bne_self_eq_false, Bool.false_eq_true, if_false, if_true, Int.cast_ofNat_Int, decide_true, decide_false, reduceCtorEq, Nat.reduceEqDiff, Nat.reduceAdd, ne_eq, not_false_eq_true, Option.map_some, Option.bind_some, Option.map_none, Option.bind_none, true_and, and_true, Bool.not_true, Bool.not_false, Nat.reduceLeDiff, Nat.reduceMul, Nat.reduceSub, Nat.le_refl, Int.reduceToNat, Int.reduceLT, Int.reduceLE, Nat.one_mul, Nat.mul_one, e1]
  refine gC.of (ok_spec R.law05_awake) ?_
  rintro _ m_ ⟨rfl, hm_⟩
  replace hm_ := hm_.symm
  subst hm_
  simp only [go_sem, Bool.false_and, new_set, Int.reduceBEq, Int.reduceBNe, Int.reduceNeg, not_true_eq_false, beq_self_eq_true, bne_self_eq_false, Bool.false_eq_true, if_false, if_true, Int.cast_ofNat_Int, decide_true, decide_false, reduceCtorEq, Nat.reduceEqDiff, Nat.reduceAdd, ne_eq, not_false_eq_true, Option.map_some, Option.bind_some, Option.map_none, Option.bind_none, true_and, and_true, Bool.not_true, Bool.not_false, Nat.reduceLeDiff, Nat.reduceMul, Nat.reduceSub, Nat.le_refl, Int.reduceToNat, Int.reduceLT, Int.reduceLE, Nat.one_mul, Nat.mul_one]

set_option maxHeartbeats 4000000 in
theorem SpansBoth_spec {a b : List Sp} {va vbv : Value} (ha : Sl m 2 a.length (a.flatMap spV) va) (hab : SlLt m va) (hac : Cut 2 m va) (hb : Sl m 2 b.length (b.flatMap spV) vbv) (hbb : SlLt m vbv) (hbc : Cut 2 m vbv) : WC R F.law05_SpansBoth [va, vbv] m fun r _ => r = .bool true := by
  refine WC.of R.law05_SpansBoth rfl ?_
  simp only [RC.law05_SpansBoth, go_sem, Bool.false_and, new_set, Int.reduceBEq, Int.reduceBNe, Int.reduceNeg, not_true_eq_false, beq_self_eq_true, bne_self_eq_false, Bool.false_eq_true, if_false, if_true, Int.cast_ofNat_Int, decide_true, decide_false, reduceCtorEq, Nat.reduceEqDiff, Nat.reduceAdd, ne_eq, not_false_eq_true, Option.map_some, Option.bind_some, Option.map_none, Option.bind_none, true_and, and_true, Bool.not_true, Bool.not_false, Nat.reduceLeDiff, Nat.reduceMul, Nat.reduceSub, Nat.le_refl, Int.reduceToNat, Int.reduceLT, Int.reduceLE, Nat.one_mul, Nat.mul_one]
  refine gC.of (spFew ha hab hac) ?_
  rintro v0 _ ⟨⟨hs0, hb0, hc0⟩, hm⟩
  subst hm
  have h30 : (a.take 30).length ≤ 30 := take30
  generalize a.take 30 = A at hs0 h30
  clear ha hab hac
  simp only [go_sem, Bool.false_and, new_set, Int.reduceBEq, Int.reduceBNe, Int.reduceNeg, not_true_eq_false, beq_self_eq_true, bne_self_eq_false, Bool.false_eq_true, if_false, if_true, Int.cast_ofNat_Int, decide_true, decide_false, reduceCtorEq, Nat.reduceEqDiff, Nat.reduceAdd, ne_eq, not_false_eq_true, Option.map_some, Option.bind_some, Option.map_none, Option.bind_none, true_and, and_true, Bool.not_true, Bool.not_false, Nat.reduceLeDiff, Nat.reduceMul, Nat.reduceSub, Nat.le_refl, Int.reduceToNat, Int.reduceLT, Int.reduceLE, Nat.one_mul, Nat.mul_one]
  refine gC.of (spFew hb hbb hbc) ?_
  rintro w0 _ ⟨⟨ht0, hd0, he0⟩, hm⟩
  subst hm
  have h30b : (b.take 30).length ≤ 30 := take30
  generalize b.take 30 = B at ht0 h30b
  clear hb hbb hbc
  simp only [go_sem, Bool.false_and, new_set, Int.reduceBEq, Int.reduceBNe, Int.reduceNeg, not_true_eq_false, beq_self_eq_true, bne_self_eq_false, Bool.false_eq_true, if_false, if_true, Int.cast_ofNat_Int, decide_true, decide_false, reduceCtorEq, Nat.reduceEqDiff, Nat.reduceAdd, ne_eq, not_false_eq_true, Option.map_some, Option.bind_some, Option.map_none, Option.bind_none, true_and, and_true, Bool.not_true, Bool.not_false, Nat.reduceLeDiff, Nat.reduceMul, Nat.reduceSub, Nat.le_refl, Int.reduceToNat, Int.reduceLT, Int.reduceLE, Nat.one_mul, Nat.mul_one]
  refine gC.of (spOf hs0 hb0 (by omega)) ?_
  rintro v1 m1 ⟨ho1, hx1⟩
  simp only [go_sem, Bool.false_and, new_set, Int.reduceBEq, Int.reduceBNe, Int.reduceNeg, not_true_eq_false, beq_self_eq_true, bne_self_eq_false, Bool.false_eq_true, if_false, if_true, Int.cast_ofNat_Int, decide_true, decide_false, reduceCtorEq, Nat.reduceEqDiff, Nat.reduceAdd, ne_eq, not_false_eq_true, Option.map_some, Option.bind_some, Option.map_none, Option.bind_none, true_and, and_true, Bool.not_true, Bool.not_false, Nat.reduceLeDiff, Nat.reduceMul, Nat.reduceSub, Nat.le_refl, Int.reduceToNat, Int.reduceLT, Int.reduceLE, Nat.one_mul, Nat.mul_one]
  refine gC.of (spOf (ht0.keep hd0 hx1) (hd0.keep hx1) (by omega)) ?_
  rintro v2 m2 ⟨ho2, hx2⟩
  simp only [go_sem, Bool.false_and, new_set, Int.reduceBEq, Int.reduceBNe, Int.reduceNeg, not_true_eq_false, beq_self_eq_true, bne_self_eq_false, Bool.false_eq_true, if_false, if_true, Int.cast_ofNat_Int, decide_true, decide_false, reduceCtorEq, Nat.reduceEqDiff, Nat.reduceAdd, ne_eq, not_false_eq_true, Option.map_some, Option.bind_some, Option.map_none, Option.bind_none, true_and, and_true, Bool.not_true, Bool.not_false, Nat.reduceLeDiff, Nat.reduceMul, Nat.reduceSub, Nat.le_refl, Int.reduceToNat, Int.reduceLT, Int.reduceLE, Nat.one_mul, Nat.mul_one]
  refine gC.of (spUnion (ho1.keep hx2).sl (ho1.keep hx2).lt ho2.sl ho2.lt (by omega)) ?_
  rintro v3 m3 ⟨r, ⟨hR, hM⟩, hrl, hor, hx3⟩
  simp only [go_sem, Bool.false_and, new_set, Int.reduceBEq, Int.reduceBNe, Int.reduceNeg, not_true_eq_false, beq_self_eq_true, bne_self_eq_false, Bool.false_eq_true, if_false, if_true, Int.cast_ofNat_Int, decide_true, decide_false, reduceCtorEq, Nat.reduceEqDiff, Nat.reduceAdd, ne_eq, not_false_eq_true, Option.map_some, Option.bind_some, Option.map_none, Option.bind_none, true_and, and_true, Bool.not_true, Bool.not_false, Nat.reduceLeDiff, Nat.reduceMul, Nat.reduceSub, Nat.le_refl, Int.reduceToNat, Int.reduceLT, Int.reduceLE, Nat.one_mul, Nat.mul_one]
  have hx03 := (hx1.trans hx2).trans hx3
  refine gC.of (refOp (k := 0) (hs0.keep hb0 hx03) (hb0.keep hx03) (ht0.keep hd0 hx03) (hd0.keep hx03) (by omega) (by omega)) ?_
  rintro ov m4 ⟨r', ⟨hR', hM'⟩, hrl', hoo, hx4⟩
  have hrr : r' = r := hR'.eq hR fun y => by rw [hM', kin0, hM]
  subst hrr
  simp only [go_sem, Bool.false_and, new_set, Int.reduceBEq, Int.reduceBNe, Int.reduceNeg, not_true_eq_false, beq_self_eq_true, bne_self_eq_false, Bool.false_eq_true, if_false, if_true, Int.cast_ofNat_Int, decide_true, decide_false, reduceCtorEq, Nat.reduceEqDiff, Nat.reduceAdd, ne_eq, not_false_eq_true, Option.map_some, Option.bind_some, Option.map_none, Option.bind_none, true_and, and_true, Bool.not_true, Bool.not_false, Nat.reduceLeDiff, Nat.reduceMul, Nat.reduceSub, Nat.le_refl, Int.reduceToNat, Int.reduceLT, Int.reduceLE, Nat.one_mul, Nat.mul_one]
  refine gC.of (spSame (hor.keep hx4).sl hoo.sl (by omega)) ?_
  rintro _ _ ⟨rfl, hm⟩
  subst hm
  have e1 : decide (r' = r') = true := decide_eq_true rfl
  have hx04 := hx03.trans hx4
  simp only [go_sem, Bool.false_and, new_set, Int.reduceBEq, Int.reduceBNe, Int.reduceNeg, not_true_eq_false, beq_self_eq_true, bne_self_eq_false, Bool.false_eq_true, if_false, if_true, Int.cast_ofNat_Int, decide_true, decide_false, reduceCtorEq, Nat.reduceEqDiff, Nat.reduceAdd, ne_eq, not_false_eq_true, Option.map_some, Option.bind_some, Option.map_none, Option.bind_none, true_and, and_true, Bool.not_true, Bool.not_false, Nat.reduceLeDiff, Nat.reduceMul, Nat.reduceSub, Nat.le_refl, Int.reduceToNat, Int.reduceLT, Int.reduceLE, Nat.one_mul, Nat.mul_one, e1]
  clear hx1 hx2 hx3 hx4 hx03 ho1 ho2 hor hoo hR hM hR' hM' e1 hrl hrl'
  refine gC.of (spOf (hs0.keep hb0 hx04) (hb0.keep hx04) (by omega)) ?_
  rintro v1 m5 ⟨ho1, hx1⟩
  simp only [go_sem, Bool.false_and, new_set, Int.reduceBEq, Int.reduceBNe, Int.reduceNeg, not_true_eq_false, beq_self_eq_true, bne_self_eq_false, Bool.false_eq_true, if_false, if_true, Int.cast_ofNat_Int, decide_true, decide_false, reduceCtorEq, Nat.reduceEqDiff, Nat.reduceAdd, ne_eq, not_false_eq_true, Option.map_some, Option.bind_some, Option.map_none, Option.bind_none, true_and, and_true, Bool.not_true, Bool.not_false, Nat.reduceLeDiff, Nat.reduceMul, Nat.reduceSub, Nat.le_refl, Int.reduceToNat, Int.reduceLT, Int.reduceLE, Nat.one_mul, Nat.mul_one]
  refine gC.of (spOf (ht0.keep hd0 (hx04.trans hx1)) (hd0.keep (hx04.trans hx1)) (by omega)) ?_
  rintro v2 m6 ⟨ho2, hx2⟩
  simp only [go_sem, Bool.false_and, new_set, Int.reduceBEq, Int.reduceBNe, Int.reduceNeg, not_true_eq_false, beq_self_eq_true, bne_self_eq_false, Bool.false_eq_true, if_false, if_true, Int.cast_ofNat_Int, decide_true, decide_false, reduceCtorEq, Nat.reduceEqDiff, Nat.reduceAdd, ne_eq, not_false_eq_true, Option.map_some, Option.bind_some, Option.map_none, Option.bind_none, true_and, and_true, Bool.not_true, Bool.not_false, Nat.reduceLeDiff, Nat.reduceMul, Nat.reduceSub, Nat.le_refl, Int.reduceToNat, Int.reduceLT, Int.reduceLE, Nat.one_mul, Nat.mul_one]
  refine gC.of (spMeet (ho1.keep hx2).sl (ho1.keep hx2).lt ho2.sl ho2.lt (by omega)) ?_
  rintro v3 m7 ⟨r, ⟨hR, hM⟩, hrl, hor, hx3⟩
  simp only [go_sem, Bool.false_and, new_set, Int.reduceBEq, Int.reduceBNe, Int.reduceNeg, not_true_eq_false, beq_self_eq_true, bne_self_eq_false, Bool.false_eq_true, if_false, if_true, Int.cast_ofNat_Int, decide_true, decide_false, reduceCtorEq, Nat.reduceEqDiff, Nat.reduceAdd, ne_eq, not_false_eq_true, Option.map_some, Option.bind_some, Option.map_none, Option.bind_none, true_and, and_true, Bool.not_true, Bool.not_false, Nat.reduceLeDiff, Nat.reduceMul, Nat.reduceSub, Nat.le_refl, Int.reduceToNat, Int.reduceLT, Int.reduceLE, Nat.one_mul, Nat.mul_one]
  have hx07 := ((hx04.trans hx1).trans hx2).trans hx3
  refine gC.of (refOp (k := 1) (hs0.keep hb0 hx07) (hb0.keep hx07) (ht0.keep hd0 hx07) (hd0.keep hx07) (by omega) (by omega)) ?_
  rintro ov m8 ⟨r', ⟨hR', hM'⟩, hrl', hoo, hx4⟩
  have hrr : r' = r := hR'.eq hR fun y => by rw [hM', kin1, hM]
  subst hrr
  simp only [go_sem, Bool.false_and, new_set, Int.reduceBEq, Int.reduceBNe, Int.reduceNeg, not_true_eq_false, beq_self_eq_true, bne_self_eq_false, Bool.false_eq_true, if_false, if_true, Int.cast_ofNat_Int, decide_true, decide_false, reduceCtorEq, Nat.reduceEqDiff, Nat.reduceAdd, ne_eq, not_false_eq_true, Option.map_some, Option.bind_some, Option.map_none, Option.bind_none, true_and, and_true, Bool.not_true, Bool.not_false, Nat.reduceLeDiff, Nat.reduceMul, Nat.reduceSub, Nat.le_refl, Int.reduceToNat, Int.reduceLT, Int.reduceLE, Nat.one_mul, Nat.mul_one]
  refine gC.of (spSame (hor.keep hx4).sl hoo.sl (by omega)) ?_
  rintro _ _ ⟨rfl, hm⟩
  subst hm
  have e1 : decide (r' = r') = true := decide_eq_true rfl
  have hx08 := hx07.trans hx4
  simp only [go_sem, Bool.false_and, new_set, Int.reduceBEq, Int.reduceBNe, Int.reduceNeg, not_true_eq_false, beq_self_eq_true, bne_self_eq_false, Bool.false_eq_true, if_false, if_true, Int.cast_ofNat_Int, decide_true, decide_false, reduceCtorEq, Nat.reduceEqDiff, Nat.reduceAdd, ne_eq, not_false_eq_true, Option.map_some, Option.bind_some, Option.map_none, Option.bind_none, true_and, and_true, Bool.not_true, Bool.not_false, Nat.reduceLeDiff, Nat.reduceMul, Nat.reduceSub, Nat.le_refl, Int.reduceToNat, Int.reduceLT, Int.reduceLE, Nat.one_mul, Nat.mul_one, e1]
  clear hx1 hx2 hx3 hx4 hx07 hx04 ho1 ho2 hor hoo hR hM hR' hM' e1 hrl hrl'
  refine gC.of (spOf (hs0.keep hb0 hx08) (hb0.keep hx08) (by omega)) ?_
  rintro v1 m9 ⟨ho1, hx1⟩
  simp only [go_sem, Bool.false_and, new_set, Int.reduceBEq, Int.reduceBNe, Int.reduceNeg, not_true_eq_false, beq_self_eq_true, bne_self_eq_false, Bool.false_eq_true, if_false, if_true, Int.cast_ofNat_Int, decide_true, decide_false, reduceCtorEq, Nat.reduceEqDiff, Nat.reduceAdd, ne_eq, not_false_eq_true, Option.map_some, Option.bind_some, Option.map_none, Option.bind_none, true_and, and_true, Bool.not_true, Bool.not_false, Nat.reduceLeDiff, Nat.reduceMul, Nat.reduceSub, Nat.le_refl, Int.reduceToNat, Int.reduceLT, Int.reduceLE, Nat.one_mul, Nat.mul_one]
  refine gC.of (spOf (ht0.keep hd0 (hx08.trans hx1)) (hd0.keep (hx08.trans hx1)) (by omega)) ?_
  rintro v2 m10 ⟨ho2, hx2⟩
  simp only [go_sem, Bool.false_and, new_set, Int.reduceBEq, Int.reduceBNe, Int.reduceNeg, not_true_eq_false, beq_self_eq_true, bne_self_eq_false, Bool.false_eq_true, if_false, if_true, Int.cast_ofNat_Int, decide_true, decide_false, reduceCtorEq, Nat.reduceEqDiff, Nat.reduceAdd, ne_eq, not_false_eq_true, Option.map_some, Option.bind_some, Option.map_none, Option.bind_none, true_and, and_true, Bool.not_true, Bool.not_false, Nat.reduceLeDiff, Nat.reduceMul, Nat.reduceSub, Nat.le_refl, Int.reduceToNat, Int.reduceLT, Int.reduceLE, Nat.one_mul, Nat.mul_one]
  refine gC.of (spLess (ho1.keep hx2).sl (ho1.keep hx2).lt ho2.sl ho2.lt (by omega)) ?_
  rintro v3 m11 ⟨r, ⟨hR, hM⟩, hrl, hor, hx3⟩
  simp only [go_sem, Bool.false_and, new_set, Int.reduceBEq, Int.reduceBNe, Int.reduceNeg, not_true_eq_false, beq_self_eq_true, bne_self_eq_false, Bool.false_eq_true, if_false, if_true, Int.cast_ofNat_Int, decide_true, decide_false, reduceCtorEq, Nat.reduceEqDiff, Nat.reduceAdd, ne_eq, not_false_eq_true, Option.map_some, Option.bind_some, Option.map_none, Option.bind_none, true_and, and_true, Bool.not_true, Bool.not_false, Nat.reduceLeDiff, Nat.reduceMul, Nat.reduceSub, Nat.le_refl, Int.reduceToNat, Int.reduceLT, Int.reduceLE, Nat.one_mul, Nat.mul_one]
  have hx011 := ((hx08.trans hx1).trans hx2).trans hx3
  refine gC.of (refOp (k := 2) (hs0.keep hb0 hx011) (hb0.keep hx011) (ht0.keep hd0 hx011) (hd0.keep hx011) (by omega) (by omega)) ?_
  rintro ov m12 ⟨r', ⟨hR', hM'⟩, hrl', hoo, hx4⟩
  have hrr : r' = r := hR'.eq hR fun y => by rw [hM', kin2, hM]
  subst hrr
  simp only [go_sem, Bool.false_and, new_set, Int.reduceBEq, Int.reduceBNe, Int.reduceNeg, not_true_eq_false, beq_self_eq_true, bne_self_eq_false, Bool.false_eq_true, if_false, if_true, Int.cast_ofNat_Int, decide_true, decide_false, reduceCtorEq, Nat.reduceEqDiff, Nat.reduceAdd, ne_eq, not_false_eq_true, Option.map_some, Option.bind_some, Option.map_none, Option.bind_none, true_and, and_true, Bool.not_true, Bool.not_false, Nat.reduceLeDiff, Nat.reduceMul, Nat.reduceSub, Nat.le_refl, Int.reduceToNat, Int.reduceLT, Int.reduceLE, Nat.one_mul, Nat.mul_one]
  refine gC.of (spSame (hor.keep hx4).sl hoo.sl (by omega)) ?_
  rintro _ _ ⟨rfl, hm⟩
  subst hm
  have e1 : decide (r' = r') = true := decide_eq_true rfl
  simp only [go_sem, Bool.false_and, new_set, Int.reduceBEq, Int.reduceBNe, Int.reduceNeg, not_true_eq_false, beq_self_eq_true, bne_self_eq_false, Bool.false_eq_true, if_false, if_true, Int.cast_ofNat_Int, decide_true, decide_false, reduceCtorEq, Nat.reduceEqDiff, Nat.reduceAdd, ne_eq, not_false_eq_true, Option.map_some, Option.bind_some, Option.map_none, Option.bind_none, true_and, and_true, Bool.not_true, Bool.not_false, Nat.reduceLeDiff, Nat.reduceMul, Nat.reduceSub, Nat.le_refl, Int.reduceToNat, Int.reduceLT, Int.reduceLE, Nat.one_mul, Nat.mul_one, e1]
  refine gC.of (ok_spec R.law05_awake) ?_
  rintro _ m_ ⟨rfl, hm_⟩
  replace hm_ := hm_.symm
  subst hm_
  simp only [go_sem, Bool.false_and, new_set, Int.reduceBEq, Int.reduceBNe, Int.reduceNeg, not_true_eq_false, beq_self_eq_true, bne_self_eq_false, Bool.false_eq_true, if_false, if_true, Int.cast_ofNat_Int, decide_true, decide_false, reduceCtorEq, Nat.reduceEqDiff, Nat.reduceAdd, ne_eq, not_false_eq_true, Option.map_some, Option.bind_some, Option.map_none, Option.bind_none, true_and, and_true, Bool.not_true, Bool.not_false, Nat.reduceLeDiff, Nat.reduceMul, Nat.reduceSub, Nat.le_refl, Int.reduceToNat, Int.reduceLT, Int.reduceLE, Nat.one_mul, Nat.mul_one]

set_option maxHeartbeats 4000000 in
theorem SpansParts_spec {a b : List Sp} {va vbv : Value} (ha : Sl m 2 a.length (a.flatMap spV) va) (hab : SlLt m va) (hac : Cut 2 m va) (hb : Sl m 2 b.length (b.flatMap spV) vbv) (hbb : SlLt m vbv) (hbc : Cut 2 m vbv) : WC R F.law05_SpansParts [va, vbv] m fun r _ => r = .bool true := by
  refine WC.of R.law05_SpansParts rfl ?_
  simp only [RC.law05_SpansParts, go_sem, Bool.false_and, new_set, Int.reduceBEq, Int.reduceBNe, Int.reduceNeg, not_true_eq_false, beq_self_eq_true, bne_self_eq_false, Bool.false_eq_true, if_false, if_true, Int.cast_ofNat_Int, decide_true, decide_false, reduceCtorEq, Nat.reduceEqDiff, Nat.reduceAdd, ne_eq, not_false_eq_true, Option.map_some, Option.bind_some, Option.map_none, Option.bind_none, true_and, and_true, Bool.not_true, Bool.not_false, Nat.reduceLeDiff, Nat.reduceMul, Nat.reduceSub, Nat.le_refl, Int.reduceToNat, Int.reduceLT, Int.reduceLE, Nat.one_mul, Nat.mul_one]
  refine gC.of (spFew ha hab hac) ?_
  rintro v0 _ ⟨⟨hs0, hb0, hc0⟩, hm⟩
  subst hm
  have h30 : (a.take 30).length ≤ 30 := take30
  simp only [go_sem, Bool.false_and, new_set, Int.reduceBEq, Int.reduceBNe, Int.reduceNeg, not_true_eq_false, beq_self_eq_true, bne_self_eq_false, Bool.false_eq_true, if_false, if_true, Int.cast_ofNat_Int, decide_true, decide_false, reduceCtorEq, Nat.reduceEqDiff, Nat.reduceAdd, ne_eq, not_false_eq_true, Option.map_some, Option.bind_some, Option.map_none, Option.bind_none, true_and, and_true, Bool.not_true, Bool.not_false, Nat.reduceLeDiff, Nat.reduceMul, Nat.reduceSub, Nat.le_refl, Int.reduceToNat, Int.reduceLT, Int.reduceLE, Nat.one_mul, Nat.mul_one]
  refine gC.of (spOf hs0 hb0 (by omega)) ?_
  rintro x m1 ⟨hox, hx1⟩
  simp only [go_sem, Bool.false_and, new_set, Int.reduceBEq, Int.reduceBNe, Int.reduceNeg, not_true_eq_false, beq_self_eq_true, bne_self_eq_false, Bool.false_eq_true, if_false, if_true, Int.cast_ofNat_Int, decide_true, decide_false, reduceCtorEq, Nat.reduceEqDiff, Nat.reduceAdd, ne_eq, not_false_eq_true, Option.map_some, Option.bind_some, Option.map_none, Option.bind_none, true_and, and_true, Bool.not_true, Bool.not_false, Nat.reduceLeDiff, Nat.reduceMul, Nat.reduceSub, Nat.le_refl, Int.reduceToNat, Int.reduceLT, Int.reduceLE, Nat.one_mul, Nat.mul_one]
  refine gC.of (spFew (hb.keep hbb hx1) (hbb.keep hx1) (hbc.keep hbb hx1)) ?_
  rintro w0 _ ⟨⟨ht0, hd0, he0⟩, hm⟩
  subst hm
  have h30b : (b.take 30).length ≤ 30 := take30
  generalize b.take 30 = B at ht0 h30b
  simp only [go_sem, Bool.false_and, new_set, Int.reduceBEq, Int.reduceBNe, Int.reduceNeg, not_true_eq_false, beq_self_eq_true, bne_self_eq_false, Bool.false_eq_true, if_false, if_true, Int.cast_ofNat_Int, decide_true, decide_false, reduceCtorEq, Nat.reduceEqDiff, Nat.reduceAdd, ne_eq, not_false_eq_true, Option.map_some, Option.bind_some, Option.map_none, Option.bind_none, true_and, and_true, Bool.not_true, Bool.not_false, Nat.reduceLeDiff, Nat.reduceMul, Nat.reduceSub, Nat.le_refl, Int.reduceToNat, Int.reduceLT, Int.reduceLE, Nat.one_mul, Nat.mul_one]
  refine gC.of (spOf ht0 hd0 (by omega)) ?_
  rintro y m2 ⟨hoy, hx2⟩
  simp only [go_sem, Bool.false_and, new_set, Int.reduceBEq, Int.reduceBNe, Int.reduceNeg, not_true_eq_false, beq_self_eq_true, bne_self_eq_false, Bool.false_eq_true, if_false, if_true, Int.cast_ofNat_Int, decide_true, decide_false, reduceCtorEq, Nat.reduceEqDiff, Nat.reduceAdd, ne_eq, not_false_eq_true, Option.map_some, Option.bind_some, Option.map_none, Option.bind_none, true_and, and_true, Bool.not_true, Bool.not_false, Nat.reduceLeDiff, Nat.reduceMul, Nat.reduceSub, Nat.le_refl, Int.reduceToNat, Int.reduceLT, Int.reduceLE, Nat.one_mul, Nat.mul_one]
  have hox2 := hox.keep hx2
  have hx02 := hx1.trans hx2
  refine gC.of (spMeet hox2.sl hox2.lt hoy.sl hoy.lt (by omega)) ?_
  rintro bv m3 ⟨both, ⟨hRb, hMb⟩, hlb, hob, hx3⟩
  simp only [go_sem, Bool.false_and, new_set, Int.reduceBEq, Int.reduceBNe, Int.reduceNeg, not_true_eq_false, beq_self_eq_true, bne_self_eq_false, Bool.false_eq_true, if_false, if_true, Int.cast_ofNat_Int, decide_true, decide_false, reduceCtorEq, Nat.reduceEqDiff, Nat.reduceAdd, ne_eq, not_false_eq_true, Option.map_some, Option.bind_some, Option.map_none, Option.bind_none, true_and, and_true, Bool.not_true, Bool.not_false, Nat.reduceLeDiff, Nat.reduceMul, Nat.reduceSub, Nat.le_refl, Int.reduceToNat, Int.reduceLT, Int.reduceLE, Nat.one_mul, Nat.mul_one]
  have hox3 := hox2.keep hx3
  have hoy3 := hoy.keep hx3
  refine gC.of (spLess hox3.sl hox3.lt hoy3.sl hoy3.lt (by omega)) ?_
  rintro rv m4 ⟨rest, ⟨hRr, hMr⟩, hlr, hor, hx4⟩
  simp only [go_sem, Bool.false_and, new_set, Int.reduceBEq, Int.reduceBNe, Int.reduceNeg, not_true_eq_false, beq_self_eq_true, bne_self_eq_false, Bool.false_eq_true, if_false, if_true, Int.cast_ofNat_Int, decide_true, decide_false, reduceCtorEq, Nat.reduceEqDiff, Nat.reduceAdd, ne_eq, not_false_eq_true, Option.map_some, Option.bind_some, Option.map_none, Option.bind_none, true_and, and_true, Bool.not_true, Bool.not_false, Nat.reduceLeDiff, Nat.reduceMul, Nat.reduceSub, Nat.le_refl, Int.reduceToNat, Int.reduceLT, Int.reduceLE, Nat.one_mul, Nat.mul_one]
  have hob4 := hob.keep hx4
  refine gC.of (spUnion hob4.sl hob4.lt hor.sl hor.lt (by omega)) ?_
  rintro uv m5 ⟨un, ⟨hRu, hMu⟩, hlu, hou, hx5⟩
  simp only [go_sem, Bool.false_and, new_set, Int.reduceBEq, Int.reduceBNe, Int.reduceNeg, not_true_eq_false, beq_self_eq_true, bne_self_eq_false, Bool.false_eq_true, if_false, if_true, Int.cast_ofNat_Int, decide_true, decide_false, reduceCtorEq, Nat.reduceEqDiff, Nat.reduceAdd, ne_eq, not_false_eq_true, Option.map_some, Option.bind_some, Option.map_none, Option.bind_none, true_and, and_true, Bool.not_true, Bool.not_false, Nat.reduceLeDiff, Nat.reduceMul, Nat.reduceSub, Nat.le_refl, Int.reduceToNat, Int.reduceLT, Int.reduceLE, Nat.one_mul, Nat.mul_one]
  have hx25 := (hx3.trans hx4).trans hx5
  have hx05 := hx02.trans hx25
  refine gC.of (spFew (ha.keep hab hx05) (hab.keep hx05) (hac.keep hab hx05)) ?_
  rintro v6 _ ⟨⟨hs6, hb6, hc6⟩, hm⟩
  subst hm
  generalize a.take 30 = A at *
  simp only [go_sem, Bool.false_and, new_set, Int.reduceBEq, Int.reduceBNe, Int.reduceNeg, not_true_eq_false, beq_self_eq_true, bne_self_eq_false, Bool.false_eq_true, if_false, if_true, Int.cast_ofNat_Int, decide_true, decide_false, reduceCtorEq, Nat.reduceEqDiff, Nat.reduceAdd, ne_eq, not_false_eq_true, Option.map_some, Option.bind_some, Option.map_none, Option.bind_none, true_and, and_true, Bool.not_true, Bool.not_false, Nat.reduceLeDiff, Nat.reduceMul, Nat.reduceSub, Nat.le_refl, Int.reduceToNat, Int.reduceLT, Int.reduceLE, Nat.one_mul, Nat.mul_one]
  refine gC.of (refOp (k := 0) (b := []) hs6 hb6 (.nil rfl rfl) trivial (by omega) (by simp)) ?_
  rintro ov m6 ⟨r', ⟨hR', hM'⟩, hrl', hoo, hx6⟩
  have hrr : r' = un := hR'.eq hRu fun z => by
    rw [hM', kin0n, hMu, hMb, hMr]
    by_cases h : InS B z
    · simp [h]
    · simp [h]
  subst hrr
  simp only [go_sem, Bool.false_and, new_set, Int.reduceBEq, Int.reduceBNe, Int.reduceNeg, not_true_eq_false, beq_self_eq_true, bne_self_eq_false, Bool.false_eq_true, if_false, if_true, Int.cast_ofNat_Int, decide_true, decide_false, reduceCtorEq, Nat.reduceEqDiff, Nat.reduceAdd, ne_eq, not_false_eq_true, Option.map_some, Option.bind_some, Option.map_none, Option.bind_none, true_and, and_true, Bool.not_true, Bool.not_false, Nat.reduceLeDiff, Nat.reduceMul, Nat.reduceSub, Nat.le_refl, Int.reduceToNat, Int.reduceLT, Int.reduceLE, Nat.one_mul, Nat.mul_one]
  refine gC.of (spSame (hou.keep hx6).sl hoo.sl (by omega)) ?_
  rintro _ _ ⟨rfl, hm⟩
  subst hm
  have e1 : decide (r' = r') = true := decide_eq_true rfl
  simp only [go_sem, Bool.false_and, new_set, Int.reduceBEq, Int.reduceBNe, Int.reduceNeg, not_true_eq_false, beq_self_eq_true, bne_self_eq_false, Bool.false_eq_true, if_false, if_true, Int.cast_ofNat_Int, decide_true, decide_false, reduceCtorEq, Nat.reduceEqDiff, Nat.reduceAdd, ne_eq, not_false_eq_true, Option.map_some, Option.bind_some, Option.map_none, Option.bind_none, true_and, and_true, Bool.not_true, Bool.not_false, Nat.reduceLeDiff, Nat.reduceMul, Nat.reduceSub, Nat.le_refl, Int.reduceToNat, Int.reduceLT, Int.reduceLE, Nat.one_mul, Nat.mul_one, e1]
  have hob6 := hob4.keep (hx5.trans hx6)
  have hor6 := hor.keep (hx5.trans hx6)
  have hox6 := (hox3.keep hx4).keep (hx5.trans hx6)
  refine gC.of (spMeet hob6.sl hob6.lt hor6.sl hor6.lt (by omega)) ?_
  rintro mv m7 ⟨mt, ⟨hRm, hMm⟩, hlm, hom, hx7⟩
  have hmt : mt = [] := hRm.none fun z => by rw [hMm, hMb, hMr]; rintro ⟨⟨-, h⟩, -, h'⟩; exact h' h
  subst hmt
  have e2 : ((([] : List Sp).length : Int) == 0) = true := rfl
  simp only [go_sem, Bool.false_and, new_set, Int.reduceBEq, Int.reduceBNe, Int.reduceNeg, not_true_eq_false, beq_self_eq_true, bne_self_eq_false, Bool.false_eq_true, if_false, if_true, Int.cast_ofNat_Int, decide_true, decide_false, reduceCtorEq, Nat.reduceEqDiff, Nat.reduceAdd, ne_eq, not_false_eq_true, Option.map_some, Option.bind_some, Option.map_none, Option.bind_none, true_and, and_true, Bool.not_true, Bool.not_false, Nat.reduceLeDiff, Nat.reduceMul, Nat.reduceSub, Nat.le_refl, Int.reduceToNat, Int.reduceLT, Int.reduceLE, Nat.one_mul, Nat.mul_one, hom.sl.len, e2]
  have hob7 := hob6.keep hx7
  refine gC.of (spTotal hob7.sl hob7.lt (by omega)) ?_
  rintro _ m8 ⟨⟨r1, hN1, rfl⟩, hx8⟩
  simp only [go_sem, Bool.false_and, new_set, Int.reduceBEq, Int.reduceBNe, Int.reduceNeg, not_true_eq_false, beq_self_eq_true, bne_self_eq_false, Bool.false_eq_true, if_false, if_true, Int.cast_ofNat_Int, decide_true, decide_false, reduceCtorEq, Nat.reduceEqDiff, Nat.reduceAdd, ne_eq, not_false_eq_true, Option.map_some, Option.bind_some, Option.map_none, Option.bind_none, true_and, and_true, Bool.not_true, Bool.not_false, Nat.reduceLeDiff, Nat.reduceMul, Nat.reduceSub, Nat.le_refl, Int.reduceToNat, Int.reduceLT, Int.reduceLE, Nat.one_mul, Nat.mul_one]
  have hor8 := (hor6.keep hx7).keep hx8
  refine gC.of (spTotal hor8.sl hor8.lt (by omega)) ?_
  rintro _ m9 ⟨⟨r2, hN2, rfl⟩, hx9⟩
  simp only [go_sem, Bool.false_and, new_set, Int.reduceBEq, Int.reduceBNe, Int.reduceNeg, not_true_eq_false, beq_self_eq_true, bne_self_eq_false, Bool.false_eq_true, if_false, if_true, Int.cast_ofNat_Int, decide_true, decide_false, reduceCtorEq, Nat.reduceEqDiff, Nat.reduceAdd, ne_eq, not_false_eq_true, Option.map_some, Option.bind_some, Option.map_none, Option.bind_none, true_and, and_true, Bool.not_true, Bool.not_false, Nat.reduceLeDiff, Nat.reduceMul, Nat.reduceSub, Nat.le_refl, Int.reduceToNat, Int.reduceLT, Int.reduceLE, Nat.one_mul, Nat.mul_one]
  have hox9 := ((hox6.keep hx7).keep hx8).keep hx9
  refine gC.of (spTotal hox9.sl hox9.lt (by omega)) ?_
  rintro _ m10 ⟨⟨r3, hN3, rfl⟩, hx10⟩
  have hsum : sumS r1 + sumS r2 = sumS r3 := Rt.sum hN1.1 hN2.1 hN3.1 (fun z => by
    rw [hN1.2.1, hN2.2.1, hN3.2.1, hMb, hMr]
    by_cases h : InS B z
    · simp [h]
    · simp [h]) (fun z => by rw [hN1.2.1, hN2.2.1, hMb, hMr]; rintro ⟨⟨-, h⟩, -, h'⟩; exact h' h)
  have e3 : decide (sumB r1 + sumB r2 = sumB r3) = true := by
    rw [decide_eq_true_eq]; unfold sumB; rw [← BitVec.ofInt_add, hsum]
  simp only [go_sem, Bool.false_and, new_set, Int.reduceBEq, Int.reduceBNe, Int.reduceNeg, not_true_eq_false, beq_self_eq_true, bne_self_eq_false, Bool.false_eq_true, if_false, if_true, Int.cast_ofNat_Int, decide_true, decide_false, reduceCtorEq, Nat.reduceEqDiff, Nat.reduceAdd, ne_eq, not_false_eq_true, Option.map_some, Option.bind_some, Option.map_none, Option.bind_none, true_and, and_true, Bool.not_true, Bool.not_false, Nat.reduceLeDiff, Nat.reduceMul, Nat.reduceSub, Nat.le_refl, Int.reduceToNat, Int.reduceLT, Int.reduceLE, Nat.one_mul, Nat.mul_one, e3]
  refine gC.of (ok_spec R.law05_awake) ?_
  rintro _ m_ ⟨rfl, hm_⟩
  replace hm_ := hm_.symm
  subst hm_
  simp only [go_sem, Bool.false_and, new_set, Int.reduceBEq, Int.reduceBNe, Int.reduceNeg, not_true_eq_false, beq_self_eq_true, bne_self_eq_false, Bool.false_eq_true, if_false, if_true, Int.cast_ofNat_Int, decide_true, decide_false, reduceCtorEq, Nat.reduceEqDiff, Nat.reduceAdd, ne_eq, not_false_eq_true, Option.map_some, Option.bind_some, Option.map_none, Option.bind_none, true_and, and_true, Bool.not_true, Bool.not_false, Nat.reduceLeDiff, Nat.reduceMul, Nat.reduceSub, Nat.le_refl, Int.reduceToNat, Int.reduceLT, Int.reduceLE, Nat.one_mul, Nat.mul_one]
end Go.Am


/- SpansGaps, of arguments as they are read. -/
set_option linter.unusedVariables false
namespace Go.Am
theorem law05_SpansGaps_walk (m : Mem) (us : List Value) (h : RdAs m [(false, [.sl [.int .i64, .int .i64]]), (false, [.int .i64]), (false, [.int .i64])] us) : WC R F.law05_SpansGaps us m fun v _ => v = .bool true := by
  obtain ⟨_, _, rfl, h1, h⟩ := h.one; obtain ⟨_, _, rfl, h2, h⟩ := h.one; obtain ⟨_, _, rfl, h3, h⟩ := h.one; cases h.none
  obtain ⟨a, ha, hab, hac⟩ := sp_read h1.rd; obtain ⟨f, rfl, -⟩ := h2.rd.i64; obtain ⟨t, rfl, -⟩ := h3.rd.i64
  exact SpansGaps_spec ha hab hac
end Go.Am


/- SpansBoth, of arguments as they are read. -/
set_option linter.unusedVariables false
namespace Go.Am
theorem law05_SpansBoth_walk (m : Mem) (us : List Value) (h : RdAs m [(false, [.sl [.int .i64, .int .i64]]), (false, [.sl [.int .i64, .int .i64]])] us) : WC R F.law05_SpansBoth us m fun v _ => v = .bool true := by
  obtain ⟨_, _, rfl, h1, h⟩ := h.one; obtain ⟨_, _, rfl, h2, h⟩ := h.one; cases h.none
  obtain ⟨a, ha, hab, hac⟩ := sp_read h1.rd; obtain ⟨b, hb, hbb, hbc⟩ := sp_read h2.rd
  exact SpansBoth_spec ha hab hac hb hbb hbc
end Go.Am


/- SpansParts, of arguments as they are read. -/
set_option linter.unusedVariables false
namespace Go.Am
theorem law05_SpansParts_walk (m : Mem) (us : List Value) (h : RdAs m [(false, [.sl [.int .i64, .int .i64]]), (false, [.sl [.int .i64, .int .i64]])] us) : WC R F.law05_SpansParts us m fun v _ => v = .bool true := by
  obtain ⟨_, _, rfl, h1, h⟩ := h.one; obtain ⟨_, _, rfl, h2, h⟩ := h.one; cases h.none
  obtain ⟨a, ha, hab, hac⟩ := sp_read h1.rd; obtain ⟨b, hb, hbb, hbc⟩ := sp_read h2.rd
  exact SpansParts_spec ha hab hac hb hbb hbc
end Go.Am
