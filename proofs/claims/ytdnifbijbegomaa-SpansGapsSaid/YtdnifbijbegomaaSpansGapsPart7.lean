/- Parts of the proofs of the statements of this seat: Sort6Spans, Sort7Spans, SpansW, SpansW2, SpansW3, AmCut, AmOwnQ, SpansW4, SpansW5. No conditions. -/
import Derived.Test.YtdnifbijbegomaaSpansGapsPart6
import Derived.Test.YtdnifbijbegomaaSpansGapsPart5
set_option linter.unusedVariables false
set_option linter.unusedSimpArgs false

/- Sorting a row at spans_Span (Spans): the whole. Printed out of SortT6.tmpl by sortgen.py. -/
set_option linter.unusedVariables false
set_option linter.unusedSimpArgs false
namespace Go.Am
open Go.Sort
variable {α : Type} [Inhabited α] {S : SortC R α 2} {m : Mem} {d : Array α}

theorem so_hint2 {h : Hint} : (hintN h == 2) = decide (h = .decreasing) := by cases h <;> rfl
theorem so_hint1 {h : Hint} : (hintN h == 1) = decide (h = .increasing) := by cases h <;> rfl

set_option maxHeartbeats 4000000 in
theorem so_pdq : ∀ (N : Nat) (m : Mem) (d : Array α) (a b limit : Nat), b - a ≤ N → S.Row m d → b ≤ S.n → a ≤ b → limit < 1000000 →
    WC R F.slices_pdqsortCmpFunc_spans_Span [S.sv, .int .i64 a, .int .i64 b, .int .i64 limit, S.cv] m fun r m' => S.Row m' (pdq S.lt d a b limit true true) := by
  intro N
  induction N using Nat.strongRecOn with
  | _ N ih =>
  intro m d a b limit hN h hb hab hlim
  refine WC.of R.slices_pdqsortCmpFunc_spans_Span rfl ?_
  have hn := S.small
  simp only [RC.slices_pdqsortCmpFunc_spans_Span, go_sem, Bool.false_and, new_set, Int.reduceBEq, Int.reduceBNe, Int.reduceNeg, not_true_eq_false, beq_self_eq_true, bne_self_eq_false, Bool.false_eq_true, if_false, if_true, Int.cast_ofNat_Int, decide_true, decide_false, reduceCtorEq, Nat.reduceEqDiff, Nat.reduceAdd, ne_eq, not_false_eq_true, Option.map_some, Option.bind_some, Option.map_none, Option.bind_none, true_and, and_true, Bool.not_true, Bool.not_false, Nat.reduceLeDiff, Nat.reduceMul, Nat.reduceSub, Nat.le_refl, Int.reduceToNat, Int.reduceLT, Int.reduceLE, Nat.one_mul, Nat.mul_one]
  generalize hfin : pdq S.lt d a b limit true true = fin
  refine WL.of (fun r e m' => ∃ (a' b' lim : Nat) (wb wp : Bool) (d' : Array α), r = b' - a' ∧ b' - a' ≤ N ∧ b' ≤ S.n ∧ a' ≤ b' ∧ lim < 1000000 ∧ e = [(0, S.sv), (1, .int .i64 a'), (2, .int .i64 b'), (3, .int .i64 lim), (4, S.cv), (10, .bool wb), (11, .bool wp)] ∧ S.Row m' d' ∧ pdq S.lt d' a' b' lim wb wp = fin) (b - a)
    ⟨a, b, limit, true, true, d, rfl, hN, hb, hab, hlim, by simp only [go_sem, Bool.false_and, new_set, Int.reduceBEq, Int.reduceBNe, Int.reduceNeg, not_true_eq_false, beq_self_eq_true, bne_self_eq_false, Bool.false_eq_true, if_false, if_true, Int.cast_ofNat_Int, decide_true, decide_false, reduceCtorEq, Nat.reduceEqDiff, Nat.reduceAdd, ne_eq, not_false_eq_true, Option.map_some, Option.bind_some, Option.map_none, Option.bind_none, true_and, and_true, Bool.not_true, Bool.not_false, Nat.reduceLeDiff, Nat.reduceMul, Nat.reduceSub, Nat.le_refl, Int.reduceToNat, Int.reduceLT, Int.reduceLE, Nat.one_mul, Nat.mul_one] <;> rfl, h, hfin⟩ ?_
  clear hfin h hb hab hlim hN
  rintro n0 _ m1 ⟨a', b', lim, wb, wp, d', hr, hN, hb, hab, hlim, rfl, h1, he⟩
  simp only [RB.slices_pdqsortCmpFunc_spans_Span_1, go_sem, Bool.false_and, new_set, Int.reduceBEq, Int.reduceBNe, Int.reduceNeg, not_true_eq_false, beq_self_eq_true, bne_self_eq_false, Bool.false_eq_true, if_false, if_true, Int.cast_ofNat_Int, decide_true, decide_false, reduceCtorEq, Nat.reduceEqDiff, Nat.reduceAdd, ne_eq, not_false_eq_true, Option.map_some, Option.bind_some, Option.map_none, Option.bind_none, true_and, and_true, Bool.not_true, Bool.not_false, Nat.reduceLeDiff, Nat.reduceMul, Nat.reduceSub, Nat.le_refl, Int.reduceToNat, Int.reduceLT, Int.reduceLE, Nat.one_mul, Nat.mul_one, nsub hab (show b' < 4000000 by omega)]
  refine gT.of (fun g1' => ?_) (fun g1' => ?_) <;> (have g1 := g1'; try simp only [decide_eq_true_eq, decide_eq_false_iff_not, beq_iff_eq, bne_iff_ne, beq_eq_false_iff_ne, ne_eq, Bool.not_eq_true', Bool.not_eq_false', bne_eq_false_iff_eq, Int.not_lt, Int.not_le] at g1)
  · rw [pdq_small (by omega)] at he
    simp only [go_sem, Bool.false_and, new_set, Int.reduceBEq, Int.reduceBNe, Int.reduceNeg, not_true_eq_false, beq_self_eq_true, bne_self_eq_false, Bool.false_eq_true, if_false, if_true, Int.cast_ofNat_Int, decide_true, decide_false, reduceCtorEq, Nat.reduceEqDiff, Nat.reduceAdd, ne_eq, not_false_eq_true, Option.map_some, Option.bind_some, Option.map_none, Option.bind_none, true_and, and_true, Bool.not_true, Bool.not_false, Nat.reduceLeDiff, Nat.reduceMul, Nat.reduceSub, Nat.le_refl, Int.reduceToNat, Int.reduceLT, Int.reduceLE, Nat.one_mul, Nat.mul_one, g1']
    refine gC.of (so_ins h1 hb hab) ?_
    rintro _ m2 h2
    rw [he] at h2
    simp only [go_sem, Bool.false_and, new_set, Int.reduceBEq, Int.reduceBNe, Int.reduceNeg, not_true_eq_false, beq_self_eq_true, bne_self_eq_false, Bool.false_eq_true, if_false, if_true, Int.cast_ofNat_Int, decide_true, decide_false, reduceCtorEq, Nat.reduceEqDiff, Nat.reduceAdd, ne_eq, not_false_eq_true, Option.map_some, Option.bind_some, Option.map_none, Option.bind_none, true_and, and_true, Bool.not_true, Bool.not_false, Nat.reduceLeDiff, Nat.reduceMul, Nat.reduceSub, Nat.le_refl, Int.reduceToNat, Int.reduceLT, Int.reduceLE, Nat.one_mul, Nat.mul_one]
    exact h2
  · simp only [go_sem, Bool.false_and, new_set, Int.reduceBEq, Int.reduceBNe, Int.reduceNeg, not_true_eq_false, beq_self_eq_true, bne_self_eq_false, Bool.false_eq_true, if_false, if_true, Int.cast_ofNat_Int, decide_true, decide_false, reduceCtorEq, Nat.reduceEqDiff, Nat.reduceAdd, ne_eq, not_false_eq_true, Option.map_some, Option.bind_some, Option.map_none, Option.bind_none, true_and, and_true, Bool.not_true, Bool.not_false, Nat.reduceLeDiff, Nat.reduceMul, Nat.reduceSub, Nat.le_refl, Int.reduceToNat, Int.reduceLT, Int.reduceLE, Nat.one_mul, Nat.mul_one, g1']
    refine gT.of (fun g2' => ?_) (fun g2' => ?_) <;> (have g2 := g2'; try simp only [decide_eq_true_eq, decide_eq_false_iff_not, beq_iff_eq, bne_iff_ne, beq_eq_false_iff_ne, ne_eq, Bool.not_eq_true', Bool.not_eq_false', bne_eq_false_iff_eq, Int.not_lt, Int.not_le] at g2)
    · rw [pdq_heap (by omega) (by omega)] at he
      simp only [go_sem, Bool.false_and, new_set, Int.reduceBEq, Int.reduceBNe, Int.reduceNeg, not_true_eq_false, beq_self_eq_true, bne_self_eq_false, Bool.false_eq_true, if_false, if_true, Int.cast_ofNat_Int, decide_true, decide_false, reduceCtorEq, Nat.reduceEqDiff, Nat.reduceAdd, ne_eq, not_false_eq_true, Option.map_some, Option.bind_some, Option.map_none, Option.bind_none, true_and, and_true, Bool.not_true, Bool.not_false, Nat.reduceLeDiff, Nat.reduceMul, Nat.reduceSub, Nat.le_refl, Int.reduceToNat, Int.reduceLT, Int.reduceLE, Nat.one_mul, Nat.mul_one, g2']
      refine gC.of (so_heap h1 hb (by omega)) ?_
      rintro _ m2 h2
      rw [he] at h2
      simp only [go_sem, Bool.false_and, new_set, Int.reduceBEq, Int.reduceBNe, Int.reduceNeg, not_true_eq_false, beq_self_eq_true, bne_self_eq_false, Bool.false_eq_true, if_false, if_true, Int.cast_ofNat_Int, decide_true, decide_false, reduceCtorEq, Nat.reduceEqDiff, Nat.reduceAdd, ne_eq, not_false_eq_true, Option.map_some, Option.bind_some, Option.map_none, Option.bind_none, true_and, and_true, Bool.not_true, Bool.not_false, Nat.reduceLeDiff, Nat.reduceMul, Nat.reduceSub, Nat.le_refl, Int.reduceToNat, Int.reduceLT, Int.reduceLE, Nat.one_mul, Nat.mul_one]
      exact h2
    · simp only [go_sem, Bool.false_and, new_set, Int.reduceBEq, Int.reduceBNe, Int.reduceNeg, not_true_eq_false, beq_self_eq_true, bne_self_eq_false, Bool.false_eq_true, if_false, if_true, Int.cast_ofNat_Int, decide_true, decide_false, reduceCtorEq, Nat.reduceEqDiff, Nat.reduceAdd, ne_eq, not_false_eq_true, Option.map_some, Option.bind_some, Option.map_none, Option.bind_none, true_and, and_true, Bool.not_true, Bool.not_false, Nat.reduceLeDiff, Nat.reduceMul, Nat.reduceSub, Nat.le_refl, Int.reduceToNat, Int.reduceLT, Int.reduceLE, Nat.one_mul, Nat.mul_one, g2']
      have hlim0 : 0 < lim := by omega
      have hab' : a' < b' := by omega
      have h12 : ¬ b' - a' ≤ 12 := by omega
      -- patterns
      refine gT_mid (fun e m' => (∃ rest, e = (0, S.sv) :: (1, .int .i64 a') :: (2, .int .i64 b') :: (3, .int .i64 (rd S.lt d' a' b' lim wb wp).lim) :: (4, S.cv) :: (10, .bool wb) :: (11, .bool wp) :: (12, .int .i64 (b' - a' : Nat)) :: rest) ∧ S.Row m' (rd S.lt d' a' b' lim wb wp).d1) (fun g => ?_) (fun g => ?_) ?_
      · cases wb with
        | true => simp at g
        | false =>
          simp only [go_sem, Bool.false_and, new_set, Int.reduceBEq, Int.reduceBNe, Int.reduceNeg, not_true_eq_false, beq_self_eq_true, bne_self_eq_false, Bool.false_eq_true, if_false, if_true, Int.cast_ofNat_Int, decide_true, decide_false, reduceCtorEq, Nat.reduceEqDiff, Nat.reduceAdd, ne_eq, not_false_eq_true, Option.map_some, Option.bind_some, Option.map_none, Option.bind_none, true_and, and_true, Bool.not_true, Bool.not_false, Nat.reduceLeDiff, Nat.reduceMul, Nat.reduceSub, Nat.le_refl, Int.reduceToNat, Int.reduceLT, Int.reduceLE, Nat.one_mul, Nat.mul_one]
          refine gC.of (so_brk h1 hb hab h1.upd.next) ?_
          rintro _ m2 h2
          simp only [go_sem, Bool.false_and, new_set, Int.reduceBEq, Int.reduceBNe, Int.reduceNeg, not_true_eq_false, beq_self_eq_true, bne_self_eq_false, Bool.false_eq_true, if_false, if_true, Int.cast_ofNat_Int, decide_true, decide_false, reduceCtorEq, Nat.reduceEqDiff, Nat.reduceAdd, ne_eq, not_false_eq_true, Option.map_some, Option.bind_some, Option.map_none, Option.bind_none, true_and, and_true, Bool.not_true, Bool.not_false, Nat.reduceLeDiff, Nat.reduceMul, Nat.reduceSub, Nat.le_refl, Int.reduceToNat, Int.reduceLT, Int.reduceLE, Nat.one_mul, Nat.mul_one, nsub1 hlim0 (show lim < 4000000 by omega)]
          exact ⟨⟨_, rfl⟩, h2⟩
      · cases wb with
        | false => simp at g
        | true =>
          simp only [go_sem, Bool.false_and, new_set, Int.reduceBEq, Int.reduceBNe, Int.reduceNeg, not_true_eq_false, beq_self_eq_true, bne_self_eq_false, Bool.false_eq_true, if_false, if_true, Int.cast_ofNat_Int, decide_true, decide_false, reduceCtorEq, Nat.reduceEqDiff, Nat.reduceAdd, ne_eq, not_false_eq_true, Option.map_some, Option.bind_some, Option.map_none, Option.bind_none, true_and, and_true, Bool.not_true, Bool.not_false, Nat.reduceLeDiff, Nat.reduceMul, Nat.reduceSub, Nat.le_refl, Int.reduceToNat, Int.reduceLT, Int.reduceLE, Nat.one_mul, Nat.mul_one]
          exact ⟨⟨_, rfl⟩, h1⟩
      rintro _ m2 ⟨⟨rest, rfl⟩, h2⟩
      have hlx : (rd S.lt d' a' b' lim wb wp).lim < 1000000 := Nat.lt_of_le_of_lt rd_lim_le hlim
      simp only [go_sem, Bool.false_and, new_set, Int.reduceBEq, Int.reduceBNe, Int.reduceNeg, not_true_eq_false, beq_self_eq_true, bne_self_eq_false, Bool.false_eq_true, if_false, if_true, Int.cast_ofNat_Int, decide_true, decide_false, reduceCtorEq, Nat.reduceEqDiff, Nat.reduceAdd, ne_eq, not_false_eq_true, Option.map_some, Option.bind_some, Option.map_none, Option.bind_none, true_and, and_true, Bool.not_true, Bool.not_false, Nat.reduceLeDiff, Nat.reduceMul, Nat.reduceSub, Nat.le_refl, Int.reduceToNat, Int.reduceLT, Int.reduceLE, Nat.one_mul, Nat.mul_one]
      refine gC.of (so_choose h2 hb hab' h2.upd.next) ?_
      rintro _ m3 ⟨rfl, h3⟩
      have hc := choosePivot_holds S.lt (rd S.lt d' a' b' lim wb wp).d1 a' b' hab'
      rw [← rd_c (lt := S.lt) (d := d') (a := a') (b := b') (limit := lim) (wb := wb) (wp := wp)] at hc ⊢
      simp only [go_sem, Bool.false_and, new_set, Int.reduceBEq, Int.reduceBNe, Int.reduceNeg, not_true_eq_false, beq_self_eq_true, bne_self_eq_false, Bool.false_eq_true, if_false, if_true, Int.cast_ofNat_Int, decide_true, decide_false, reduceCtorEq, Nat.reduceEqDiff, Nat.reduceAdd, ne_eq, not_false_eq_true, Option.map_some, Option.bind_some, Option.map_none, Option.bind_none, true_and, and_true, Bool.not_true, Bool.not_false, Nat.reduceLeDiff, Nat.reduceMul, Nat.reduceSub, Nat.le_refl, Int.reduceToNat, Int.reduceLT, Int.reduceLE, Nat.one_mul, Nat.mul_one, aExt0, aExt1, so_hint2]
      -- the other way round
      refine gT_mid (fun e m' => (∃ rest, e = (0, S.sv) :: (1, .int .i64 a') :: (2, .int .i64 b') :: (3, .int .i64 (rd S.lt d' a' b' lim wb wp).lim) :: (4, S.cv) :: (10, .bool wb) :: (11, .bool wp) :: (12, .int .i64 (b' - a' : Nat)) :: (13, .int .i64 (rd S.lt d' a' b' lim wb wp).pivot) :: (14, .int .i64 (hintN (rd S.lt d' a' b' lim wb wp).hint)) :: rest) ∧ S.Row m' (rd S.lt d' a' b' lim wb wp).d2) (fun g => ?_) (fun g => ?_) ?_
      · have g : (rd S.lt d' a' b' lim wb wp).c.2 = .decreasing := by simpa using g
        obtain ⟨r1, r2, r3⟩ := rd_dec g
        rw [r1, r2, r3]
        simp only [go_sem, Bool.false_and, new_set, Int.reduceBEq, Int.reduceBNe, Int.reduceNeg, not_true_eq_false, beq_self_eq_true, bne_self_eq_false, Bool.false_eq_true, if_false, if_true, Int.cast_ofNat_Int, decide_true, decide_false, reduceCtorEq, Nat.reduceEqDiff, Nat.reduceAdd, ne_eq, not_false_eq_true, Option.map_some, Option.bind_some, Option.map_none, Option.bind_none, true_and, and_true, Bool.not_true, Bool.not_false, Nat.reduceLeDiff, Nat.reduceMul, Nat.reduceSub, Nat.le_refl, Int.reduceToNat, Int.reduceLT, Int.reduceLE, Nat.one_mul, Nat.mul_one]
        refine gC.of (so_rev h3 hb hab') ?_
        rintro _ m4 h4
        simp only [go_sem, Bool.false_and, new_set, Int.reduceBEq, Int.reduceBNe, Int.reduceNeg, not_true_eq_false, beq_self_eq_true, bne_self_eq_false, Bool.false_eq_true, if_false, if_true, Int.cast_ofNat_Int, decide_true, decide_false, reduceCtorEq, Nat.reduceEqDiff, Nat.reduceAdd, ne_eq, not_false_eq_true, Option.map_some, Option.bind_some, Option.map_none, Option.bind_none, true_and, and_true, Bool.not_true, Bool.not_false, Nat.reduceLeDiff, Nat.reduceMul, Nat.reduceSub, Nat.le_refl, Int.reduceToNat, Int.reduceLT, Int.reduceLE, Nat.one_mul, Nat.mul_one, nsub1 (show 0 < b' by omega) (show b' < 4000000 by omega), nsub hc.1 (show (rd S.lt d' a' b' lim wb wp).c.1 < 4000000 by omega), nsub (show (rd S.lt d' a' b' lim wb wp).c.1 - a' ≤ b' - 1 by omega) (show b' - 1 < 4000000 by omega)]
        exact ⟨⟨_, rfl⟩, h4⟩
      · have g : (rd S.lt d' a' b' lim wb wp).c.2 ≠ .decreasing := by simpa using g
        obtain ⟨r1, r2, r3⟩ := rd_not g
        rw [r1, r2, r3]
        simp only [go_sem, Bool.false_and, new_set, Int.reduceBEq, Int.reduceBNe, Int.reduceNeg, not_true_eq_false, beq_self_eq_true, bne_self_eq_false, Bool.false_eq_true, if_false, if_true, Int.cast_ofNat_Int, decide_true, decide_false, reduceCtorEq, Nat.reduceEqDiff, Nat.reduceAdd, ne_eq, not_false_eq_true, Option.map_some, Option.bind_some, Option.map_none, Option.bind_none, true_and, and_true, Bool.not_true, Bool.not_false, Nat.reduceLeDiff, Nat.reduceMul, Nat.reduceSub, Nat.le_refl, Int.reduceToNat, Int.reduceLT, Int.reduceLE, Nat.one_mul, Nat.mul_one]
        exact ⟨⟨_, rfl⟩, h3⟩
      rintro _ m4 ⟨⟨rest, rfl⟩, h4⟩
      have hpv : a' ≤ (rd S.lt d' a' b' lim wb wp).pivot ∧ (rd S.lt d' a' b' lim wb wp).pivot < b' := pivot_range hc.1 hc.2 ((rd S.lt d' a' b' lim wb wp).c.2 = .decreasing)
      -- a few by insertion
      have hpd : (rd S.lt d' a' b' lim wb wp).pi.2 = true → pdq S.lt d' a' b' lim wb wp = (rd S.lt d' a' b' lim wb wp).pi.1 := pdq_done h12 (by omega)
      have hpiy := rd_pi_yes (lt := S.lt) (d := d') (a := a') (b := b') (limit := lim) (wb := wb) (wp := wp)
      have hpin := rd_pi_no (lt := S.lt) (d := d') (a := a') (b := b') (limit := lim) (wb := wb) (wp := wp)
      have hpe := pdq_eq (lt := S.lt) (d := d') (a := a') (b := b') (limit := lim) (wb := wb) (wp := wp) h12 (by omega)
      have hpl := pdq_left (lt := S.lt) (d := d') (a := a') (b := b') (limit := lim) (wb := wb) (wp := wp) h12 (by omega)
      have hpr := pdq_right (lt := S.lt) (d := d') (a := a') (b := b') (limit := lim) (wb := wb) (wp := wp) h12 (by omega)
      generalize hrd : rd S.lt d' a' b' lim wb wp = D at *
      refine gp_seq_mid (fun e m' => (∃ rest, e = (0, S.sv) :: (1, .int .i64 a') :: (2, .int .i64 b') :: (3, .int .i64 D.lim) :: (4, S.cv) :: (10, .bool wb) :: (11, .bool wp) :: (12, .int .i64 (b' - a' : Nat)) :: (13, .int .i64 D.pivot) :: rest) ∧ S.Row m' D.pi.1 ∧ D.pi.2 = false) ?_ ?_
      · have no : (wb && wp && decide (D.hint = .increasing)) = false → S.Row m4 D.pi.1 ∧ D.pi.2 = false := fun hc => by rw [hpin hc]; exact ⟨h4, rfl⟩
        cases wb with
        | false => simp only [go_sem, Bool.false_and, new_set, Int.reduceBEq, Int.reduceBNe, Int.reduceNeg, not_true_eq_false, beq_self_eq_true, bne_self_eq_false, Bool.false_eq_true, if_false, if_true, Int.cast_ofNat_Int, decide_true, decide_false, reduceCtorEq, Nat.reduceEqDiff, Nat.reduceAdd, ne_eq, not_false_eq_true, Option.map_some, Option.bind_some, Option.map_none, Option.bind_none, true_and, and_true, Bool.not_true, Bool.not_false, Nat.reduceLeDiff, Nat.reduceMul, Nat.reduceSub, Nat.le_refl, Int.reduceToNat, Int.reduceLT, Int.reduceLE, Nat.one_mul, Nat.mul_one]; exact ⟨⟨_, rfl⟩, no rfl⟩
        | true =>
          cases wp with
          | false => simp only [go_sem, Bool.false_and, new_set, Int.reduceBEq, Int.reduceBNe, Int.reduceNeg, not_true_eq_false, beq_self_eq_true, bne_self_eq_false, Bool.false_eq_true, if_false, if_true, Int.cast_ofNat_Int, decide_true, decide_false, reduceCtorEq, Nat.reduceEqDiff, Nat.reduceAdd, ne_eq, not_false_eq_true, Option.map_some, Option.bind_some, Option.map_none, Option.bind_none, true_and, and_true, Bool.not_true, Bool.not_false, Nat.reduceLeDiff, Nat.reduceMul, Nat.reduceSub, Nat.le_refl, Int.reduceToNat, Int.reduceLT, Int.reduceLE, Nat.one_mul, Nat.mul_one]; exact ⟨⟨_, rfl⟩, no rfl⟩
          | true =>
            simp only [go_sem, Bool.false_and, new_set, Int.reduceBEq, Int.reduceBNe, Int.reduceNeg, not_true_eq_false, beq_self_eq_true, bne_self_eq_false, Bool.false_eq_true, if_false, if_true, Int.cast_ofNat_Int, decide_true, decide_false, reduceCtorEq, Nat.reduceEqDiff, Nat.reduceAdd, ne_eq, not_false_eq_true, Option.map_some, Option.bind_some, Option.map_none, Option.bind_none, true_and, and_true, Bool.not_true, Bool.not_false, Nat.reduceLeDiff, Nat.reduceMul, Nat.reduceSub, Nat.le_refl, Int.reduceToNat, Int.reduceLT, Int.reduceLE, Nat.one_mul, Nat.mul_one, so_hint1]
            refine gT.of (fun g => ?_) (fun g => ?_)
            · have hpi := hpiy (by simpa using g)
              simp only [go_sem, Bool.false_and, new_set, Int.reduceBEq, Int.reduceBNe, Int.reduceNeg, not_true_eq_false, beq_self_eq_true, bne_self_eq_false, Bool.false_eq_true, if_false, if_true, Int.cast_ofNat_Int, decide_true, decide_false, reduceCtorEq, Nat.reduceEqDiff, Nat.reduceAdd, ne_eq, not_false_eq_true, Option.map_some, Option.bind_some, Option.map_none, Option.bind_none, true_and, and_true, Bool.not_true, Bool.not_false, Nat.reduceLeDiff, Nat.reduceMul, Nat.reduceSub, Nat.le_refl, Int.reduceToNat, Int.reduceLT, Int.reduceLE, Nat.one_mul, Nat.mul_one, g]
              refine gC.of (so_pins h4 hb hab') ?_
              rintro _ m5 ⟨rfl, h5⟩
              rw [← hpi] at h5 ⊢
              simp only [go_sem, Bool.false_and, new_set, Int.reduceBEq, Int.reduceBNe, Int.reduceNeg, not_true_eq_false, beq_self_eq_true, bne_self_eq_false, Bool.false_eq_true, if_false, if_true, Int.cast_ofNat_Int, decide_true, decide_false, reduceCtorEq, Nat.reduceEqDiff, Nat.reduceAdd, ne_eq, not_false_eq_true, Option.map_some, Option.bind_some, Option.map_none, Option.bind_none, true_and, and_true, Bool.not_true, Bool.not_false, Nat.reduceLeDiff, Nat.reduceMul, Nat.reduceSub, Nat.le_refl, Int.reduceToNat, Int.reduceLT, Int.reduceLE, Nat.one_mul, Nat.mul_one]
              refine gT.of (fun g3 => ?_) (fun g3 => ?_)
              · simp only [go_sem, Bool.false_and, new_set, Int.reduceBEq, Int.reduceBNe, Int.reduceNeg, not_true_eq_false, beq_self_eq_true, bne_self_eq_false, Bool.false_eq_true, if_false, if_true, Int.cast_ofNat_Int, decide_true, decide_false, reduceCtorEq, Nat.reduceEqDiff, Nat.reduceAdd, ne_eq, not_false_eq_true, Option.map_some, Option.bind_some, Option.map_none, Option.bind_none, true_and, and_true, Bool.not_true, Bool.not_false, Nat.reduceLeDiff, Nat.reduceMul, Nat.reduceSub, Nat.le_refl, Int.reduceToNat, Int.reduceLT, Int.reduceLE, Nat.one_mul, Nat.mul_one]
                rw [hpd g3] at he
                rw [he] at h5
                exact h5
              · simp only [go_sem, Bool.false_and, new_set, Int.reduceBEq, Int.reduceBNe, Int.reduceNeg, not_true_eq_false, beq_self_eq_true, bne_self_eq_false, Bool.false_eq_true, if_false, if_true, Int.cast_ofNat_Int, decide_true, decide_false, reduceCtorEq, Nat.reduceEqDiff, Nat.reduceAdd, ne_eq, not_false_eq_true, Option.map_some, Option.bind_some, Option.map_none, Option.bind_none, true_and, and_true, Bool.not_true, Bool.not_false, Nat.reduceLeDiff, Nat.reduceMul, Nat.reduceSub, Nat.le_refl, Int.reduceToNat, Int.reduceLT, Int.reduceLE, Nat.one_mul, Nat.mul_one]
                exact ⟨⟨_, rfl⟩, h5, g3⟩
            · simp only [go_sem, Bool.false_and, new_set, Int.reduceBEq, Int.reduceBNe, Int.reduceNeg, not_true_eq_false, beq_self_eq_true, bne_self_eq_false, Bool.false_eq_true, if_false, if_true, Int.cast_ofNat_Int, decide_true, decide_false, reduceCtorEq, Nat.reduceEqDiff, Nat.reduceAdd, ne_eq, not_false_eq_true, Option.map_some, Option.bind_some, Option.map_none, Option.bind_none, true_and, and_true, Bool.not_true, Bool.not_false, Nat.reduceLeDiff, Nat.reduceMul, Nat.reduceSub, Nat.le_refl, Int.reduceToNat, Int.reduceLT, Int.reduceLE, Nat.one_mul, Nat.mul_one, g]
              exact ⟨⟨_, rfl⟩, no (by simpa using g)⟩
      rintro _ m5 ⟨⟨rest, rfl⟩, h5, hp2⟩
      have hpe := hpe hp2
      have hpl := hpl hp2
      have hpr := hpr hp2
      clear hpd hpiy hpin h4 h3 h2 h1
      have c0 : a' - 1 < S.n := by omega
      have cp : D.pivot < S.n := by omega
      -- the rest, where what is ahead is less
      have rest2 : ∀ (m6 : Mem) (rest : Env), S.Row m6 D.pi.1 → (decide (a' > 0) && !S.lt D.pi.1[a' - 1]! D.pi.1[D.pivot]!) = false → True := fun _ _ _ _ => trivial
      clear rest2
      refine gp_seq_mid (fun e m' => (∃ rest, e = (0, S.sv) :: (1, .int .i64 a') :: (2, .int .i64 b') :: (3, .int .i64 D.lim) :: (4, S.cv) :: (10, .bool wb) :: (11, .bool wp) :: (12, .int .i64 (b' - a' : Nat)) :: (13, .int .i64 D.pivot) :: rest) ∧ S.Row m' D.pi.1 ∧ (decide (a' > 0) && !S.lt D.pi.1[a' - 1]! D.pi.1[D.pivot]!) = false) ?_ ?_
      · simp only [go_sem, Bool.false_and, new_set, Int.reduceBEq, Int.reduceBNe, Int.reduceNeg, not_true_eq_false, beq_self_eq_true, bne_self_eq_false, Bool.false_eq_true, if_false, if_true, Int.cast_ofNat_Int, decide_true, decide_false, reduceCtorEq, Nat.reduceEqDiff, Nat.reduceAdd, ne_eq, not_false_eq_true, Option.map_some, Option.bind_some, Option.map_none, Option.bind_none, true_and, and_true, Bool.not_true, Bool.not_false, Nat.reduceLeDiff, Nat.reduceMul, Nat.reduceSub, Nat.le_refl, Int.reduceToNat, Int.reduceLT, Int.reduceLE, Nat.one_mul, Nat.mul_one]
        refine gT.of (fun g3' => ?_) (fun g3' => ?_) <;> (have g3 := g3'; try simp only [decide_eq_true_eq, decide_eq_false_iff_not, beq_iff_eq, bne_iff_ne, beq_eq_false_iff_ne, ne_eq, Bool.not_eq_true', Bool.not_eq_false', bne_eq_false_iff_eq, Int.not_lt, Int.not_le] at g3)
        · simp only [go_sem, Bool.false_and, new_set, Int.reduceBEq, Int.reduceBNe, Int.reduceNeg, not_true_eq_false, beq_self_eq_true, bne_self_eq_false, Bool.false_eq_true, if_false, if_true, Int.cast_ofNat_Int, decide_true, decide_false, reduceCtorEq, Nat.reduceEqDiff, Nat.reduceAdd, ne_eq, not_false_eq_true, Option.map_some, Option.bind_some, Option.map_none, Option.bind_none, true_and, and_true, Bool.not_true, Bool.not_false, Nat.reduceLeDiff, Nat.reduceMul, Nat.reduceSub, Nat.le_refl, Int.reduceToNat, Int.reduceLT, Int.reduceLE, Nat.one_mul, Nat.mul_one, g3', nsub1 (show 0 < a' by omega) (show a' < 4000000 by omega), S.ix c0, S.ix cp, h5.ld c0, h5.ld cp]
          refine gC.of (S.cmp m5 D.pi.1[a' - 1]! D.pi.1[D.pivot]!) ?_
          rintro _ m6 ⟨rfl, hx6⟩
          simp only [go_sem, Bool.false_and, new_set, Int.reduceBEq, Int.reduceBNe, Int.reduceNeg, not_true_eq_false, beq_self_eq_true, bne_self_eq_false, Bool.false_eq_true, if_false, if_true, Int.cast_ofNat_Int, decide_true, decide_false, reduceCtorEq, Nat.reduceEqDiff, Nat.reduceAdd, ne_eq, not_false_eq_true, Option.map_some, Option.bind_some, Option.map_none, Option.bind_none, true_and, and_true, Bool.not_true, Bool.not_false, Nat.reduceLeDiff, Nat.reduceMul, Nat.reduceSub, Nat.le_refl, Int.reduceToNat, Int.reduceLT, Int.reduceLE, Nat.one_mul, Nat.mul_one]
          have h6 := h5.keep hx6
          refine gT.of (fun g4' => ?_) (fun g4' => ?_) <;> (have g4 := g4'; try simp only [decide_eq_true_eq, decide_eq_false_iff_not, beq_iff_eq, bne_iff_ne, beq_eq_false_iff_ne, ne_eq, Bool.not_eq_true', Bool.not_eq_false', bne_eq_false_iff_eq, Int.not_lt, Int.not_le] at g4)
          · have hcd : (decide (a' > 0) && !S.lt D.pi.1[a' - 1]! D.pi.1[D.pivot]!) = true := by rw [S.lt_f' (by simpa using g4)]; simp; omega
            have rg := parte_rng (lt := S.lt) (d := D.pi.1) (p := D.pivot) hab'
            have hpe := hpe hcd rg
            rw [he] at hpe
            simp only [go_sem, Bool.false_and, new_set, Int.reduceBEq, Int.reduceBNe, Int.reduceNeg, not_true_eq_false, beq_self_eq_true, bne_self_eq_false, Bool.false_eq_true, if_false, if_true, Int.cast_ofNat_Int, decide_true, decide_false, reduceCtorEq, Nat.reduceEqDiff, Nat.reduceAdd, ne_eq, not_false_eq_true, Option.map_some, Option.bind_some, Option.map_none, Option.bind_none, true_and, and_true, Bool.not_true, Bool.not_false, Nat.reduceLeDiff, Nat.reduceMul, Nat.reduceSub, Nat.le_refl, Int.reduceToNat, Int.reduceLT, Int.reduceLE, Nat.one_mul, Nat.mul_one, g4']
            refine gC.of (so_parte h6 hb hpv.1 hpv.2) ?_
            rintro _ m7 ⟨rfl, h7⟩
            simp only [go_sem, Bool.false_and, new_set, Int.reduceBEq, Int.reduceBNe, Int.reduceNeg, not_true_eq_false, beq_self_eq_true, bne_self_eq_false, Bool.false_eq_true, if_false, if_true, Int.cast_ofNat_Int, decide_true, decide_false, reduceCtorEq, Nat.reduceEqDiff, Nat.reduceAdd, ne_eq, not_false_eq_true, Option.map_some, Option.bind_some, Option.map_none, Option.bind_none, true_and, and_true, Bool.not_true, Bool.not_false, Nat.reduceLeDiff, Nat.reduceMul, Nat.reduceSub, Nat.le_refl, Int.reduceToNat, Int.reduceLT, Int.reduceLE, Nat.one_mul, Nat.mul_one]
            exact ⟨b' - (partitionEqual S.lt D.pi.1 a' b' D.pivot).1, by omega, _, b', D.lim, wb, wp, _, rfl, by omega, hb, rg.2, hlx, rfl, h7, hpe.symm⟩
          · simp only [go_sem, Bool.false_and, new_set, Int.reduceBEq, Int.reduceBNe, Int.reduceNeg, not_true_eq_false, beq_self_eq_true, bne_self_eq_false, Bool.false_eq_true, if_false, if_true, Int.cast_ofNat_Int, decide_true, decide_false, reduceCtorEq, Nat.reduceEqDiff, Nat.reduceAdd, ne_eq, not_false_eq_true, Option.map_some, Option.bind_some, Option.map_none, Option.bind_none, true_and, and_true, Bool.not_true, Bool.not_false, Nat.reduceLeDiff, Nat.reduceMul, Nat.reduceSub, Nat.le_refl, Int.reduceToNat, Int.reduceLT, Int.reduceLE, Nat.one_mul, Nat.mul_one, g4']
            refine ⟨⟨_, rfl⟩, h6, ?_⟩
            rw [S.lt_t (by simpa using g4)]; simp
        · simp only [go_sem, Bool.false_and, new_set, Int.reduceBEq, Int.reduceBNe, Int.reduceNeg, not_true_eq_false, beq_self_eq_true, bne_self_eq_false, Bool.false_eq_true, if_false, if_true, Int.cast_ofNat_Int, decide_true, decide_false, reduceCtorEq, Nat.reduceEqDiff, Nat.reduceAdd, ne_eq, not_false_eq_true, Option.map_some, Option.bind_some, Option.map_none, Option.bind_none, true_and, and_true, Bool.not_true, Bool.not_false, Nat.reduceLeDiff, Nat.reduceMul, Nat.reduceSub, Nat.le_refl, Int.reduceToNat, Int.reduceLT, Int.reduceLE, Nat.one_mul, Nat.mul_one, g3']
          refine ⟨⟨_, rfl⟩, h5, ?_⟩
          have : decide (a' > 0) = false := by simp; omega
          rw [this]; rfl
      rintro _ m6 ⟨⟨rest, rfl⟩, h6, hcd⟩
      have rg := part_rng (lt := S.lt) (d := D.pi.1) (p := D.pivot) hab'
      have hpl := hpl hcd rg
      have hpr := hpr hcd rg
      simp only [go_sem, Bool.false_and, new_set, Int.reduceBEq, Int.reduceBNe, Int.reduceNeg, not_true_eq_false, beq_self_eq_true, bne_self_eq_false, Bool.false_eq_true, if_false, if_true, Int.cast_ofNat_Int, decide_true, decide_false, reduceCtorEq, Nat.reduceEqDiff, Nat.reduceAdd, ne_eq, not_false_eq_true, Option.map_some, Option.bind_some, Option.map_none, Option.bind_none, true_and, and_true, Bool.not_true, Bool.not_false, Nat.reduceLeDiff, Nat.reduceMul, Nat.reduceSub, Nat.le_refl, Int.reduceToNat, Int.reduceLT, Int.reduceLE, Nat.one_mul, Nat.mul_one]
      refine gC.of (so_part h6 hb hpv.1 hpv.2) ?_
      rintro _ m7 ⟨rfl, h7⟩
      generalize partition S.lt D.pi.1 a' b' D.pivot = pt at *
      obtain ⟨mid, ap, d4⟩ := pt
      simp only at rg hpl hpr h7
      simp only [go_sem, Bool.false_and, new_set, Int.reduceBEq, Int.reduceBNe, Int.reduceNeg, not_true_eq_false, beq_self_eq_true, bne_self_eq_false, Bool.false_eq_true, if_false, if_true, Int.cast_ofNat_Int, decide_true, decide_false, reduceCtorEq, Nat.reduceEqDiff, Nat.reduceAdd, ne_eq, not_false_eq_true, Option.map_some, Option.bind_some, Option.map_none, Option.bind_none, true_and, and_true, Bool.not_true, Bool.not_false, Nat.reduceLeDiff, Nat.reduceMul, Nat.reduceSub, Nat.le_refl, Int.reduceToNat, Int.reduceLT, Int.reduceLE, Nat.one_mul, Nat.mul_one, aExt0, aExt1, nsub rg.1 (show mid < 4000000 by omega), nsub (show mid ≤ b' by omega) (show b' < 4000000 by omega), nq8 (show b' - a' < 4000000 by omega)]
      refine ⟨by omega, ?_⟩
      refine gT.of (fun g5' => ?_) (fun g5' => ?_) <;> (have g5 := g5'; try simp only [decide_eq_true_eq, decide_eq_false_iff_not, beq_iff_eq, bne_iff_ne, beq_eq_false_iff_ne, ne_eq, Bool.not_eq_true', Bool.not_eq_false', bne_eq_false_iff_eq, Int.not_lt, Int.not_le] at g5)
      · have hpl := hpl (by omega)
        rw [he] at hpl
        simp only [go_sem, Bool.false_and, new_set, Int.reduceBEq, Int.reduceBNe, Int.reduceNeg, not_true_eq_false, beq_self_eq_true, bne_self_eq_false, Bool.false_eq_true, if_false, if_true, Int.cast_ofNat_Int, decide_true, decide_false, reduceCtorEq, Nat.reduceEqDiff, Nat.reduceAdd, ne_eq, not_false_eq_true, Option.map_some, Option.bind_some, Option.map_none, Option.bind_none, true_and, and_true, Bool.not_true, Bool.not_false, Nat.reduceLeDiff, Nat.reduceMul, Nat.reduceSub, Nat.le_refl, Int.reduceToNat, Int.reduceLT, Int.reduceLE, Nat.one_mul, Nat.mul_one, g5']
        refine gC.of (ih (mid - a') (by omega) m7 d4 a' mid D.lim (Nat.le_refl _) h7 (by omega) (by omega) hlx) ?_
        rintro _ m8 h8
        simp only [go_sem, Bool.false_and, new_set, Int.reduceBEq, Int.reduceBNe, Int.reduceNeg, not_true_eq_false, beq_self_eq_true, bne_self_eq_false, Bool.false_eq_true, if_false, if_true, Int.cast_ofNat_Int, decide_true, decide_false, reduceCtorEq, Nat.reduceEqDiff, Nat.reduceAdd, ne_eq, not_false_eq_true, Option.map_some, Option.bind_some, Option.map_none, Option.bind_none, true_and, and_true, Bool.not_true, Bool.not_false, Nat.reduceLeDiff, Nat.reduceMul, Nat.reduceSub, Nat.le_refl, Int.reduceToNat, Int.reduceLT, Int.reduceLE, Nat.one_mul, Nat.mul_one, nadd1 (show mid < 4000000 by omega)]
        refine ⟨b' - (mid + 1), by omega, mid + 1, b', D.lim, _, _, _, rfl, by omega, hb, by omega, hlx, rfl, h8, ?_⟩
        rw [hpl]
        congr 1
        rw [decide_eq_decide]; omega
      · have hpr := hpr (by omega)
        rw [he] at hpr
        simp only [go_sem, Bool.false_and, new_set, Int.reduceBEq, Int.reduceBNe, Int.reduceNeg, not_true_eq_false, beq_self_eq_true, bne_self_eq_false, Bool.false_eq_true, if_false, if_true, Int.cast_ofNat_Int, decide_true, decide_false, reduceCtorEq, Nat.reduceEqDiff, Nat.reduceAdd, ne_eq, not_false_eq_true, Option.map_some, Option.bind_some, Option.map_none, Option.bind_none, true_and, and_true, Bool.not_true, Bool.not_false, Nat.reduceLeDiff, Nat.reduceMul, Nat.reduceSub, Nat.le_refl, Int.reduceToNat, Int.reduceLT, Int.reduceLE, Nat.one_mul, Nat.mul_one, g5', nadd1 (show mid < 4000000 by omega)]
        refine gC.of (ih (b' - (mid + 1)) (by omega) m7 d4 (mid + 1) b' D.lim (Nat.le_refl _) h7 hb (by omega) hlx) ?_
        rintro _ m8 h8
        simp only [go_sem, Bool.false_and, new_set, Int.reduceBEq, Int.reduceBNe, Int.reduceNeg, not_true_eq_false, beq_self_eq_true, bne_self_eq_false, Bool.false_eq_true, if_false, if_true, Int.cast_ofNat_Int, decide_true, decide_false, reduceCtorEq, Nat.reduceEqDiff, Nat.reduceAdd, ne_eq, not_false_eq_true, Option.map_some, Option.bind_some, Option.map_none, Option.bind_none, true_and, and_true, Bool.not_true, Bool.not_false, Nat.reduceLeDiff, Nat.reduceMul, Nat.reduceSub, Nat.le_refl, Int.reduceToNat, Int.reduceLT, Int.reduceLE, Nat.one_mul, Nat.mul_one]
        refine ⟨mid - a', by omega, a', mid, D.lim, _, _, _, rfl, by omega, by omega, by omega, hlx, rfl, h8, ?_⟩
        rw [hpr]
        congr 1
        rw [decide_eq_decide]; omega

theorem so_sort (h : S.Row m d) (hO : SWO S.lt) : WC R F.slices_SortFunc_spans_Span_spans_Span [S.sv, S.cv] m fun r m' => ∃ d', S.Row m' d' ∧ PermIn 0 d.size d d' ∧ SortedIn S.lt 0 d.size d' := by
  refine WC.of R.slices_SortFunc_spans_Span_spans_Span rfl ?_
  have hn := S.small
  have hlen : aLen S.sv = some (.int .i64 S.n) := rfl
  have e : (BitVec.ofInt 64 ((S.n : Nat) : Int)).toNat = S.n := by rw [BitVec.ofInt_natCast, BitVec.toNat_ofNat, Nat.mod_eq_of_lt (by omega)]
  simp only [RC.slices_SortFunc_spans_Span_spans_Span, go_sem, Bool.false_and, new_set, Int.reduceBEq, Int.reduceBNe, Int.reduceNeg, not_true_eq_false, beq_self_eq_true, bne_self_eq_false, Bool.false_eq_true, if_false, if_true, Int.cast_ofNat_Int, decide_true, decide_false, reduceCtorEq, Nat.reduceEqDiff, Nat.reduceAdd, ne_eq, not_false_eq_true, Option.map_some, Option.bind_some, Option.map_none, Option.bind_none, true_and, and_true, Bool.not_true, Bool.not_false, Nat.reduceLeDiff, Nat.reduceMul, Nat.reduceSub, Nat.le_refl, Int.reduceToNat, Int.reduceLT, Int.reduceLE, Nat.one_mul, Nat.mul_one, hlen]
  refine gC.of (so_len (x := BitVec.ofInt 64 ((S.n : Nat) : Int)) (by omega)) ?_
  rintro _ _ ⟨rfl, hm⟩
  subst hm
  rw [e]
  have hbl : bitsLen S.n ≤ 20 := (bitsLen_le_iff _ _).2 (by omega)
  simp only [go_sem, Bool.false_and, new_set, Int.reduceBEq, Int.reduceBNe, Int.reduceNeg, not_true_eq_false, beq_self_eq_true, bne_self_eq_false, Bool.false_eq_true, if_false, if_true, Int.cast_ofNat_Int, decide_true, decide_false, reduceCtorEq, Nat.reduceEqDiff, Nat.reduceAdd, ne_eq, not_false_eq_true, Option.map_some, Option.bind_some, Option.map_none, Option.bind_none, true_and, and_true, Bool.not_true, Bool.not_false, Nat.reduceLeDiff, Nat.reduceMul, Nat.reduceSub, Nat.le_refl, Int.reduceToNat, Int.reduceLT, Int.reduceLE, Nat.one_mul, Nat.mul_one]
  refine gC.of (so_pdq S.n _ d 0 S.n (bitsLen S.n) (by omega) h (Nat.le_refl _) (Nat.zero_le _) (by omega)) ?_
  rintro _ m2 h2
  simp only [go_sem, Bool.false_and, new_set, Int.reduceBEq, Int.reduceBNe, Int.reduceNeg, not_true_eq_false, beq_self_eq_true, bne_self_eq_false, Bool.false_eq_true, if_false, if_true, Int.cast_ofNat_Int, decide_true, decide_false, reduceCtorEq, Nat.reduceEqDiff, Nat.reduceAdd, ne_eq, not_false_eq_true, Option.map_some, Option.bind_some, Option.map_none, Option.bind_none, true_and, and_true, Bool.not_true, Bool.not_false, Nat.reduceLeDiff, Nat.reduceMul, Nat.reduceSub, Nat.le_refl, Int.reduceToNat, Int.reduceLT, Int.reduceLE, Nat.one_mul, Nat.mul_one]
  have := pdq_sorts S.lt hO d 0 S.n (bitsLen S.n) true true (Nat.zero_le _) (by rw [h.size]; exact Nat.le_refl _) (.inl rfl)
  rw [h.size]
  exact ⟨_, h2, this⟩
end Go.Am


/- The sort of a slice of one's own, of spans_Span (Spans). Printed out of SortT7.tmpl by sortgen.py. -/
set_option linter.unusedVariables false
set_option linter.unusedSimpArgs false
namespace Go.Am
open Go.Sort
variable {α : Type} [Inhabited α]

theorem so_insNil {m : Mem} {v fv : Value} : WC R F.slices_insertionSortCmpFunc_spans_Span [v, .int .i64 0, .int .i64 0, fv] m fun r m' => m' = m := by
  refine WC.of R.slices_insertionSortCmpFunc_spans_Span rfl ?_
  have w : IntKind.wrap .i64 (0 + 1) = 1 := rfl
  simp only [RC.slices_insertionSortCmpFunc_spans_Span, go_sem, Bool.false_and, new_set, Int.reduceBEq, Int.reduceBNe, Int.reduceNeg, not_true_eq_false, beq_self_eq_true, bne_self_eq_false, Bool.false_eq_true, if_false, if_true, Int.cast_ofNat_Int, decide_true, decide_false, reduceCtorEq, Nat.reduceEqDiff, Nat.reduceAdd, ne_eq, not_false_eq_true, Option.map_some, Option.bind_some, Option.map_none, Option.bind_none, true_and, and_true, Bool.not_true, Bool.not_false, Nat.reduceLeDiff, Nat.reduceMul, Nat.reduceSub, Nat.le_refl, Int.reduceToNat, Int.reduceLT, Int.reduceLE, Nat.one_mul, Nat.mul_one, w]
  refine WL.of (fun r e m' => m' = m ∧ e = [(0, v), (1, .int .i64 0), (2, .int .i64 0), (3, fv), (8, .int .i64 1)]) 0 ⟨rfl, by simp only [go_sem, Bool.false_and, new_set, Int.reduceBEq, Int.reduceBNe, Int.reduceNeg, not_true_eq_false, beq_self_eq_true, bne_self_eq_false, Bool.false_eq_true, if_false, if_true, Int.cast_ofNat_Int, decide_true, decide_false, reduceCtorEq, Nat.reduceEqDiff, Nat.reduceAdd, ne_eq, not_false_eq_true, Option.map_some, Option.bind_some, Option.map_none, Option.bind_none, true_and, and_true, Bool.not_true, Bool.not_false, Nat.reduceLeDiff, Nat.reduceMul, Nat.reduceSub, Nat.le_refl, Int.reduceToNat, Int.reduceLT, Int.reduceLE, Nat.one_mul, Nat.mul_one] <;> rfl⟩ ?_
  rintro _ _ _ ⟨rfl, rfl⟩
  have e0 : decide ((1 : Int) < 0) = false := rfl
  simp only [RB.slices_insertionSortCmpFunc_spans_Span_2, go_sem, Bool.false_and, new_set, Int.reduceBEq, Int.reduceBNe, Int.reduceNeg, not_true_eq_false, beq_self_eq_true, bne_self_eq_false, Bool.false_eq_true, if_false, if_true, Int.cast_ofNat_Int, decide_true, decide_false, reduceCtorEq, Nat.reduceEqDiff, Nat.reduceAdd, ne_eq, not_false_eq_true, Option.map_some, Option.bind_some, Option.map_none, Option.bind_none, true_and, and_true, Bool.not_true, Bool.not_false, Nat.reduceLeDiff, Nat.reduceMul, Nat.reduceSub, Nat.le_refl, Int.reduceToNat, Int.reduceLT, Int.reduceLE, Nat.one_mul, Nat.mul_one, e0]

theorem so_pdqNil {m : Mem} {v fv : Value} {lim : Nat} : WC R F.slices_pdqsortCmpFunc_spans_Span [v, .int .i64 0, .int .i64 0, .int .i64 lim, fv] m fun r m' => m' = m := by
  refine WC.of R.slices_pdqsortCmpFunc_spans_Span rfl ?_
  simp only [RC.slices_pdqsortCmpFunc_spans_Span, go_sem, Bool.false_and, new_set, Int.reduceBEq, Int.reduceBNe, Int.reduceNeg, not_true_eq_false, beq_self_eq_true, bne_self_eq_false, Bool.false_eq_true, if_false, if_true, Int.cast_ofNat_Int, decide_true, decide_false, reduceCtorEq, Nat.reduceEqDiff, Nat.reduceAdd, ne_eq, not_false_eq_true, Option.map_some, Option.bind_some, Option.map_none, Option.bind_none, true_and, and_true, Bool.not_true, Bool.not_false, Nat.reduceLeDiff, Nat.reduceMul, Nat.reduceSub, Nat.le_refl, Int.reduceToNat, Int.reduceLT, Int.reduceLE, Nat.one_mul, Nat.mul_one]
  refine WL.of (fun r e m' => m' = m ∧ e = [(0, v), (1, .int .i64 0), (2, .int .i64 0), (3, .int .i64 lim), (4, fv), (10, .bool true), (11, .bool true)]) 0 ⟨rfl, by simp only [go_sem, Bool.false_and, new_set, Int.reduceBEq, Int.reduceBNe, Int.reduceNeg, not_true_eq_false, beq_self_eq_true, bne_self_eq_false, Bool.false_eq_true, if_false, if_true, Int.cast_ofNat_Int, decide_true, decide_false, reduceCtorEq, Nat.reduceEqDiff, Nat.reduceAdd, ne_eq, not_false_eq_true, Option.map_some, Option.bind_some, Option.map_none, Option.bind_none, true_and, and_true, Bool.not_true, Bool.not_false, Nat.reduceLeDiff, Nat.reduceMul, Nat.reduceSub, Nat.le_refl, Int.reduceToNat, Int.reduceLT, Int.reduceLE, Nat.one_mul, Nat.mul_one] <;> rfl⟩ ?_
  rintro _ _ _ ⟨rfl, rfl⟩
  have w : IntKind.wrap .i64 (0 - 0) = 0 := rfl
  have e0 : decide ((0 : Int) ≤ 12) = true := rfl
  simp only [RB.slices_pdqsortCmpFunc_spans_Span_1, go_sem, Bool.false_and, new_set, Int.reduceBEq, Int.reduceBNe, Int.reduceNeg, not_true_eq_false, beq_self_eq_true, bne_self_eq_false, Bool.false_eq_true, if_false, if_true, Int.cast_ofNat_Int, decide_true, decide_false, reduceCtorEq, Nat.reduceEqDiff, Nat.reduceAdd, ne_eq, not_false_eq_true, Option.map_some, Option.bind_some, Option.map_none, Option.bind_none, true_and, and_true, Bool.not_true, Bool.not_false, Nat.reduceLeDiff, Nat.reduceMul, Nat.reduceSub, Nat.le_refl, Int.reduceToNat, Int.reduceLT, Int.reduceLE, Nat.one_mul, Nat.mul_one, w, e0]
  refine gC.of so_insNil ?_
  rintro _ m1 rfl
  simp only [go_sem, Bool.false_and, new_set, Int.reduceBEq, Int.reduceBNe, Int.reduceNeg, not_true_eq_false, beq_self_eq_true, bne_self_eq_false, Bool.false_eq_true, if_false, if_true, Int.cast_ofNat_Int, decide_true, decide_false, reduceCtorEq, Nat.reduceEqDiff, Nat.reduceAdd, ne_eq, not_false_eq_true, Option.map_some, Option.bind_some, Option.map_none, Option.bind_none, true_and, and_true, Bool.not_true, Bool.not_false, Nat.reduceLeDiff, Nat.reduceMul, Nat.reduceSub, Nat.le_refl, Int.reduceToNat, Int.reduceLT, Int.reduceLE, Nat.one_mul, Nat.mul_one]

theorem so_sortNil {m : Mem} {fv : Value} : WC R F.slices_SortFunc_spans_Span_spans_Span [.slice none 0 0, fv] m fun r m' => m' = m := by
  refine WC.of R.slices_SortFunc_spans_Span_spans_Span rfl ?_
  have hlen : aLen (.slice none 0 0) = some (.int .i64 0) := rfl
  simp only [RC.slices_SortFunc_spans_Span_spans_Span, go_sem, Bool.false_and, new_set, Int.reduceBEq, Int.reduceBNe, Int.reduceNeg, not_true_eq_false, beq_self_eq_true, bne_self_eq_false, Bool.false_eq_true, if_false, if_true, Int.cast_ofNat_Int, decide_true, decide_false, reduceCtorEq, Nat.reduceEqDiff, Nat.reduceAdd, ne_eq, not_false_eq_true, Option.map_some, Option.bind_some, Option.map_none, Option.bind_none, true_and, and_true, Bool.not_true, Bool.not_false, Nat.reduceLeDiff, Nat.reduceMul, Nat.reduceSub, Nat.le_refl, Int.reduceToNat, Int.reduceLT, Int.reduceLE, Nat.one_mul, Nat.mul_one, hlen]
  refine gC.of (so_len (x := BitVec.ofInt 64 0) (by decide)) ?_
  rintro _ _ ⟨rfl, hm⟩
  subst hm
  simp only [go_sem, Bool.false_and, new_set, Int.reduceBEq, Int.reduceBNe, Int.reduceNeg, not_true_eq_false, beq_self_eq_true, bne_self_eq_false, Bool.false_eq_true, if_false, if_true, Int.cast_ofNat_Int, decide_true, decide_false, reduceCtorEq, Nat.reduceEqDiff, Nat.reduceAdd, ne_eq, not_false_eq_true, Option.map_some, Option.bind_some, Option.map_none, Option.bind_none, true_and, and_true, Bool.not_true, Bool.not_false, Nat.reduceLeDiff, Nat.reduceMul, Nat.reduceSub, Nat.le_refl, Int.reduceToNat, Int.reduceLT, Int.reduceLE, Nat.one_mul, Nat.mul_one]
  refine gC.of so_pdqNil ?_
  rintro _ m1 rfl
  simp only [go_sem, Bool.false_and, new_set, Int.reduceBEq, Int.reduceBNe, Int.reduceNeg, not_true_eq_false, beq_self_eq_true, bne_self_eq_false, Bool.false_eq_true, if_false, if_true, Int.cast_ofNat_Int, decide_true, decide_false, reduceCtorEq, Nat.reduceEqDiff, Nat.reduceAdd, ne_eq, not_false_eq_true, Option.map_some, Option.bind_some, Option.map_none, Option.bind_none, true_and, and_true, Bool.not_true, Bool.not_false, Nat.reduceLeDiff, Nat.reduceMul, Nat.reduceSub, Nat.le_refl, Int.reduceToNat, Int.reduceLT, Int.reduceLE, Nat.one_mul, Nat.mul_one]

/-- One's own row, sorted. -/
theorem so_own {m0 m : Mem} {l : List α} {f : α → List Value} {v : Value} {cf : α → α → Int} {g : Nat} (hf : ∀ a, (f a).length = 2) (h1 : ∀ a, oneCells (f a) = true)
    (hcmp : ∀ (m : Mem) (x y : α), WC R g [.agg (f x).toArray, .agg (f y).toArray] m fun r m' => r = .int .i64 (cf x y) ∧ Ext m m')
    (hO : SWO fun x y => decide (cf x y < 0)) (ho : Own m0 m 2 l.length (l.flatMap f) v) (hx0 : Ext m0 m) (hl : l.length < 1000000) :
    WC R F.slices_SortFunc_spans_Span_spans_Span [v, .func (.func g) #[] #[]] m fun r m' => ∃ l' : List α, l'.Perm l ∧ l'.Pairwise (fun x y => ¬ cf y x < 0) ∧ Own m0 m' 2 l'.length (l'.flatMap f) v ∧ Ext m0 m' ∧ Upd m m' (vb v) := by
  cases ho with
  | nil h hc =>
    have e := List.eq_nil_of_length_eq_zero h
    subst e
    refine WC.mono so_sortNil ?_
    rintro _ m1 rfl
    exact ⟨[], .nil, .nil, .nil rfl rfl, hx0, Upd.refl _ _⟩
  | @«at» b c all hb hb2 hnc hm hal hcs hone =>
    let S : SortC R α 2 := ⟨f, hf, h1, cf, g, hcmp, b, 0, l.length, c, [], all.drop (l.length * 2), rfl, m, hl⟩
    have hrow : S.Row m l.toArray := ⟨by show m.blk b = _; rw [hm, ← hcs]; show _ = some (AObj.cells ([] ++ all.take (l.length * 2) ++ all.drop (l.length * 2)) _); rw [List.nil_append, List.take_append_drop], hb2, by simp [S], Upd.refl _ _⟩
    refine WC.mono (so_sort (S := S) hrow hO) ?_
    rintro _ m1 ⟨d', hr, ⟨hsz, -, hp⟩, hs⟩
    have hp : d'.toList.Perm l := by
      have e : d'.extract 0 l.toArray.size = d' := by rw [← hsz]; exact Array.extract_size
      rw [e, Array.extract_size] at hp
      exact hp
    have hlen : d'.toList.length = l.length := hp.length_eq
    have hu : Upd m m1 [b] := hr.upd
    refine ⟨d'.toList, hp, ?_, ?_, hu.ext_of hx0 (by simpa using hb), hu⟩
    · rw [List.pairwise_iff_getElem]
      intro i j hi hj hij
      have := hs i j (Nat.zero_le _) hij (by simpa [← hlen] using hj)
      rw [getElem!_pos d' j (by simpa using hj), getElem!_pos d' i (by simpa using hi)] at this
      have := of_decide_eq_false this
      simpa using this
    · rw [hlen]
      have hfl : (d'.toList.flatMap f).length = l.length * 2 := by rw [flat_len hf, hlen]
      refine .at (all := d'.toList.flatMap f ++ all.drop (l.length * 2)) hb hr.lt hnc hr.at_ ?_ ?_ ?_
      · have e1 : l.length * 2 ≤ c * 2 := Nat.mul_le_mul_right _ hnc
        rw [List.length_append, hfl, List.length_drop, hal]; omega
      · rw [List.take_left' hfl]
      · unfold oneCells
        rw [List.all_eq_true]
        intro x hx
        obtain ⟨y, _, hy⟩ := List.mem_flatMap.1 hx
        have := h1 y
        unfold oneCells at this
        exact List.all_eq_true.1 this x hy
end Go.Am


/- Spans: the small ones: whether one is empty, how two compare, what has a number. -/
set_option linter.unusedVariables false
set_option linter.unusedSimpArgs false
namespace Go.Am
variable {m : Mem}

theorem spEmpty {s : Sp} : WC R F.spans_Span_empty [.agg (spV s).toArray] m fun r m' => r = .bool (decide (s.2 ≤ s.1)) ∧ Ext m m' := by
  refine WC.of R.spans_Span_empty rfl ?_
  simp only [RC.spans_Span_empty, go_sem, Bool.false_and, new_set, Int.reduceBEq, Int.reduceBNe, Int.reduceNeg, not_true_eq_false, beq_self_eq_true, bne_self_eq_false, Bool.false_eq_true, if_false, if_true, Int.cast_ofNat_Int, decide_true, decide_false, reduceCtorEq, Nat.reduceEqDiff, Nat.reduceAdd, ne_eq, not_false_eq_true, Option.map_some, Option.bind_some, Option.map_none, Option.bind_none, true_and, and_true, Bool.not_true, Bool.not_false, Nat.reduceLeDiff, Nat.reduceMul, Nat.reduceSub, Nat.le_refl, Int.reduceToNat, Int.reduceLT, Int.reduceLE, Nat.one_mul, Nat.mul_one, spV]
  try simp only [go_sem, Bool.false_and, new_set, Int.reduceBEq, Int.reduceBNe, Int.reduceNeg, not_true_eq_false, beq_self_eq_true, bne_self_eq_false, Bool.false_eq_true, if_false, if_true, Int.cast_ofNat_Int, decide_true, decide_false, reduceCtorEq, Nat.reduceEqDiff, Nat.reduceAdd, ne_eq, not_false_eq_true, Option.map_some, Option.bind_some, Option.map_none, Option.bind_none, true_and, and_true, Bool.not_true, Bool.not_false, Nat.reduceLeDiff, Nat.reduceMul, Nat.reduceSub, Nat.le_refl, Int.reduceToNat, Int.reduceLT, Int.reduceLE, Nat.one_mul, Nat.mul_one, load_w, load_a, store_b, idxS_b, set_blk, new_blk, set_next, new_next, len_s, ldW_c, ldA_c, stB_c, toArr_one, size_one, toList_toArr, size_toArr, List.length_cons, List.length_nil, List.getElem?_cons_zero, List.getElem?_cons_succ, Nat.zero_add, Nat.add_zero]
  exact Ext.new

theorem cmpNaN {a : Int} : WC R F.cmp_isNaN_int [.int .i64 a] m fun r m' => r = .bool false ∧ m' = m := by
  refine WC.of R.cmp_isNaN_int rfl ?_
  have e : (a != a) = false := bne_self_eq_false a
  simp only [RC.cmp_isNaN_int, go_sem, Bool.false_and, new_set, Int.reduceBEq, Int.reduceBNe, Int.reduceNeg, not_true_eq_false, beq_self_eq_true, bne_self_eq_false, Bool.false_eq_true, if_false, if_true, Int.cast_ofNat_Int, decide_true, decide_false, reduceCtorEq, Nat.reduceEqDiff, Nat.reduceAdd, ne_eq, not_false_eq_true, Option.map_some, Option.bind_some, Option.map_none, Option.bind_none, true_and, and_true, Bool.not_true, Bool.not_false, Nat.reduceLeDiff, Nat.reduceMul, Nat.reduceSub, Nat.le_refl, Int.reduceToNat, Int.reduceLT, Int.reduceLE, Nat.one_mul, Nat.mul_one, e]

def cmpI (a b : Int) : Int := if a < b then -1 else if b < a then 1 else 0
theorem cmpInt {a b : Int} : WC R F.cmp_Compare_int [.int .i64 a, .int .i64 b] m fun r m' => r = .int .i64 (cmpI a b) ∧ m' = m := by
  refine WC.of R.cmp_Compare_int rfl ?_
  simp only [RC.cmp_Compare_int, go_sem, Bool.false_and, new_set, Int.reduceBEq, Int.reduceBNe, Int.reduceNeg, not_true_eq_false, beq_self_eq_true, bne_self_eq_false, Bool.false_eq_true, if_false, if_true, Int.cast_ofNat_Int, decide_true, decide_false, reduceCtorEq, Nat.reduceEqDiff, Nat.reduceAdd, ne_eq, not_false_eq_true, Option.map_some, Option.bind_some, Option.map_none, Option.bind_none, true_and, and_true, Bool.not_true, Bool.not_false, Nat.reduceLeDiff, Nat.reduceMul, Nat.reduceSub, Nat.le_refl, Int.reduceToNat, Int.reduceLT, Int.reduceLE, Nat.one_mul, Nat.mul_one]
  refine gC.of cmpNaN ?_
  rintro _ m_ ⟨rfl, hm_⟩
  replace hm_ := hm_.symm
  subst hm_
  simp only [go_sem, Bool.false_and, new_set, Int.reduceBEq, Int.reduceBNe, Int.reduceNeg, not_true_eq_false, beq_self_eq_true, bne_self_eq_false, Bool.false_eq_true, if_false, if_true, Int.cast_ofNat_Int, decide_true, decide_false, reduceCtorEq, Nat.reduceEqDiff, Nat.reduceAdd, ne_eq, not_false_eq_true, Option.map_some, Option.bind_some, Option.map_none, Option.bind_none, true_and, and_true, Bool.not_true, Bool.not_false, Nat.reduceLeDiff, Nat.reduceMul, Nat.reduceSub, Nat.le_refl, Int.reduceToNat, Int.reduceLT, Int.reduceLE, Nat.one_mul, Nat.mul_one]
  refine gC.of cmpNaN ?_
  rintro _ m_ ⟨rfl, hm_⟩
  replace hm_ := hm_.symm
  subst hm_
  simp only [go_sem, Bool.false_and, new_set, Int.reduceBEq, Int.reduceBNe, Int.reduceNeg, not_true_eq_false, beq_self_eq_true, bne_self_eq_false, Bool.false_eq_true, if_false, if_true, Int.cast_ofNat_Int, decide_true, decide_false, reduceCtorEq, Nat.reduceEqDiff, Nat.reduceAdd, ne_eq, not_false_eq_true, Option.map_some, Option.bind_some, Option.map_none, Option.bind_none, true_and, and_true, Bool.not_true, Bool.not_false, Nat.reduceLeDiff, Nat.reduceMul, Nat.reduceSub, Nat.le_refl, Int.reduceToNat, Int.reduceLT, Int.reduceLE, Nat.one_mul, Nat.mul_one]
  refine gT.of (fun g1' => ?_) (fun g1' => ?_) <;> (have g1 := g1'; try simp only [decide_eq_true_eq, decide_eq_false_iff_not, beq_iff_eq, bne_iff_ne, beq_eq_false_iff_ne, ne_eq, Bool.not_eq_true', Bool.not_eq_false', bne_eq_false_iff_eq, Int.not_lt, Int.not_le] at g1)
  · simp only [go_sem, Bool.false_and, new_set, Int.reduceBEq, Int.reduceBNe, Int.reduceNeg, not_true_eq_false, beq_self_eq_true, bne_self_eq_false, Bool.false_eq_true, if_false, if_true, Int.cast_ofNat_Int, decide_true, decide_false, reduceCtorEq, Nat.reduceEqDiff, Nat.reduceAdd, ne_eq, not_false_eq_true, Option.map_some, Option.bind_some, Option.map_none, Option.bind_none, true_and, and_true, Bool.not_true, Bool.not_false, Nat.reduceLeDiff, Nat.reduceMul, Nat.reduceSub, Nat.le_refl, Int.reduceToNat, Int.reduceLT, Int.reduceLE, Nat.one_mul, Nat.mul_one, cmpI, g1, g1']
  · simp only [go_sem, Bool.false_and, new_set, Int.reduceBEq, Int.reduceBNe, Int.reduceNeg, not_true_eq_false, beq_self_eq_true, bne_self_eq_false, Bool.false_eq_true, if_false, if_true, Int.cast_ofNat_Int, decide_true, decide_false, reduceCtorEq, Nat.reduceEqDiff, Nat.reduceAdd, ne_eq, not_false_eq_true, Option.map_some, Option.bind_some, Option.map_none, Option.bind_none, true_and, and_true, Bool.not_true, Bool.not_false, Nat.reduceLeDiff, Nat.reduceMul, Nat.reduceSub, Nat.le_refl, Int.reduceToNat, Int.reduceLT, Int.reduceLE, Nat.one_mul, Nat.mul_one, g1']
    refine gT.of (fun g2' => ?_) (fun g2' => ?_) <;> (have g2 := g2'; try simp only [decide_eq_true_eq, decide_eq_false_iff_not, beq_iff_eq, bne_iff_ne, beq_eq_false_iff_ne, ne_eq, Bool.not_eq_true', Bool.not_eq_false', bne_eq_false_iff_eq, Int.not_lt, Int.not_le] at g2)
    · have g3 : ¬ a < b := by omega
      simp only [go_sem, Bool.false_and, new_set, Int.reduceBEq, Int.reduceBNe, Int.reduceNeg, not_true_eq_false, beq_self_eq_true, bne_self_eq_false, Bool.false_eq_true, if_false, if_true, Int.cast_ofNat_Int, decide_true, decide_false, reduceCtorEq, Nat.reduceEqDiff, Nat.reduceAdd, ne_eq, not_false_eq_true, Option.map_some, Option.bind_some, Option.map_none, Option.bind_none, true_and, and_true, Bool.not_true, Bool.not_false, Nat.reduceLeDiff, Nat.reduceMul, Nat.reduceSub, Nat.le_refl, Int.reduceToNat, Int.reduceLT, Int.reduceLE, Nat.one_mul, Nat.mul_one, cmpI, g3, g2, g2']
    · have g3 : ¬ a < b := by omega
      have g4 : ¬ b < a := by omega
      simp only [go_sem, Bool.false_and, new_set, Int.reduceBEq, Int.reduceBNe, Int.reduceNeg, not_true_eq_false, beq_self_eq_true, bne_self_eq_false, Bool.false_eq_true, if_false, if_true, Int.cast_ofNat_Int, decide_true, decide_false, reduceCtorEq, Nat.reduceEqDiff, Nat.reduceAdd, ne_eq, not_false_eq_true, Option.map_some, Option.bind_some, Option.map_none, Option.bind_none, true_and, and_true, Bool.not_true, Bool.not_false, Nat.reduceLeDiff, Nat.reduceMul, Nat.reduceSub, Nat.le_refl, Int.reduceToNat, Int.reduceLT, Int.reduceLE, Nat.one_mul, Nat.mul_one, cmpI, g3, g4, g2']

theorem spCmp (m : Mem) (x y : Sp) : WC R F.spans_Norm_1 [.agg (spV x).toArray, .agg (spV y).toArray] m fun r m' => r = .int .i64 (cmpI x.1 y.1) ∧ Ext m m' := by
  refine WC.of R.spans_Norm_1 rfl ?_
  simp only [RC.spans_Norm_1, go_sem, Bool.false_and, new_set, Int.reduceBEq, Int.reduceBNe, Int.reduceNeg, not_true_eq_false, beq_self_eq_true, bne_self_eq_false, Bool.false_eq_true, if_false, if_true, Int.cast_ofNat_Int, decide_true, decide_false, reduceCtorEq, Nat.reduceEqDiff, Nat.reduceAdd, ne_eq, not_false_eq_true, Option.map_some, Option.bind_some, Option.map_none, Option.bind_none, true_and, and_true, Bool.not_true, Bool.not_false, Nat.reduceLeDiff, Nat.reduceMul, Nat.reduceSub, Nat.le_refl, Int.reduceToNat, Int.reduceLT, Int.reduceLE, Nat.one_mul, Nat.mul_one, spV]
  have hn : (m.next = m.next + 1) = False := eq_false (by omega)
  try simp only [go_sem, Bool.false_and, new_set, Int.reduceBEq, Int.reduceBNe, Int.reduceNeg, not_true_eq_false, beq_self_eq_true, bne_self_eq_false, Bool.false_eq_true, if_false, if_true, Int.cast_ofNat_Int, decide_true, decide_false, reduceCtorEq, Nat.reduceEqDiff, Nat.reduceAdd, ne_eq, not_false_eq_true, Option.map_some, Option.bind_some, Option.map_none, Option.bind_none, true_and, and_true, Bool.not_true, Bool.not_false, Nat.reduceLeDiff, Nat.reduceMul, Nat.reduceSub, Nat.le_refl, Int.reduceToNat, Int.reduceLT, Int.reduceLE, Nat.one_mul, Nat.mul_one, load_w, load_a, store_b, idxS_b, set_blk, new_blk, set_next, new_next, len_s, ldW_c, ldA_c, stB_c, toArr_one, size_one, toList_toArr, size_toArr, List.length_cons, List.length_nil, List.getElem?_cons_zero, List.getElem?_cons_succ, Nat.zero_add, Nat.add_zero, hn]
  refine gC.of cmpInt ?_
  rintro _ _ ⟨rfl, hm⟩
  subst hm
  try simp only [go_sem, Bool.false_and, new_set, Int.reduceBEq, Int.reduceBNe, Int.reduceNeg, not_true_eq_false, beq_self_eq_true, bne_self_eq_false, Bool.false_eq_true, if_false, if_true, Int.cast_ofNat_Int, decide_true, decide_false, reduceCtorEq, Nat.reduceEqDiff, Nat.reduceAdd, ne_eq, not_false_eq_true, Option.map_some, Option.bind_some, Option.map_none, Option.bind_none, true_and, and_true, Bool.not_true, Bool.not_false, Nat.reduceLeDiff, Nat.reduceMul, Nat.reduceSub, Nat.le_refl, Int.reduceToNat, Int.reduceLT, Int.reduceLE, Nat.one_mul, Nat.mul_one, load_w, load_a, store_b, idxS_b, set_blk, new_blk, set_next, new_next, len_s, ldW_c, ldA_c, stB_c, toArr_one, size_one, toList_toArr, size_toArr, List.length_cons, List.length_nil, List.getElem?_cons_zero, List.getElem?_cons_succ, Nat.zero_add, Nat.add_zero]
  exact Ext.new.trans Ext.new

theorem spSWO : Go.Sort.SWO fun x y : Sp => decide (cmpI x.1 y.1 < 0) := by
  have k : ∀ a b : Int, decide (cmpI a b < 0) = decide (a < b) := fun a b => by
    unfold cmpI
    rw [decide_eq_decide]
    split
    · omega
    · split <;> omega
  simp only [k]
  exact ⟨fun x => by simp, fun x y z h1 h2 => by simp only [decide_eq_true_eq] at *; omega, fun x y z h1 h2 => by simp only [decide_eq_false_iff_not] at *; omega⟩

theorem cmpI_neg {a b : Int} : cmpI a b < 0 ↔ a < b := by
  unfold cmpI
  split
  · omega
  · split <;> omega

def spIn (x : Int) (s : Sp) : Bool := decide (s.1 ≤ x) && decide (x < s.2)

theorem spHas1 {m : Mem} {s : Sp} {x : Int} {b : Nat} (hb : Bk m b [.int .i64 x] 1) : WC R F.spans_Has_1 [.agg (spV s).toArray, .pointer (some ⟨b, 0, none⟩)] m fun r m' => r = .bool (spIn x s) ∧ Ext m m' := by
  refine WC.of R.spans_Has_1 rfl ?_
  simp only [RC.spans_Has_1, go_sem, Bool.false_and, new_set, Int.reduceBEq, Int.reduceBNe, Int.reduceNeg, not_true_eq_false, beq_self_eq_true, bne_self_eq_false, Bool.false_eq_true, if_false, if_true, Int.cast_ofNat_Int, decide_true, decide_false, reduceCtorEq, Nat.reduceEqDiff, Nat.reduceAdd, ne_eq, not_false_eq_true, Option.map_some, Option.bind_some, Option.map_none, Option.bind_none, true_and, and_true, Bool.not_true, Bool.not_false, Nat.reduceLeDiff, Nat.reduceMul, Nat.reduceSub, Nat.le_refl, Int.reduceToNat, Int.reduceLT, Int.reduceLE, Nat.one_mul, Nat.mul_one, spV]
  have hbn := hb.ne
  try simp only [go_sem, Bool.false_and, new_set, Int.reduceBEq, Int.reduceBNe, Int.reduceNeg, not_true_eq_false, beq_self_eq_true, bne_self_eq_false, Bool.false_eq_true, if_false, if_true, Int.cast_ofNat_Int, decide_true, decide_false, reduceCtorEq, Nat.reduceEqDiff, Nat.reduceAdd, ne_eq, not_false_eq_true, Option.map_some, Option.bind_some, Option.map_none, Option.bind_none, true_and, and_true, Bool.not_true, Bool.not_false, Nat.reduceLeDiff, Nat.reduceMul, Nat.reduceSub, Nat.le_refl, Int.reduceToNat, Int.reduceLT, Int.reduceLE, Nat.one_mul, Nat.mul_one, load_w, load_a, store_b, idxS_b, set_blk, new_blk, set_next, new_next, len_s, ldW_c, ldA_c, stB_c, toArr_one, size_one, toList_toArr, size_toArr, List.length_cons, List.length_nil, List.getElem?_cons_zero, List.getElem?_cons_succ, Nat.zero_add, Nat.add_zero, hb.at_, hbn]
  by_cases g : s.1 ≤ x
  · try simp only [go_sem, Bool.false_and, new_set, Int.reduceBEq, Int.reduceBNe, Int.reduceNeg, not_true_eq_false, beq_self_eq_true, bne_self_eq_false, Bool.false_eq_true, if_false, if_true, Int.cast_ofNat_Int, decide_true, decide_false, reduceCtorEq, Nat.reduceEqDiff, Nat.reduceAdd, ne_eq, not_false_eq_true, Option.map_some, Option.bind_some, Option.map_none, Option.bind_none, true_and, and_true, Bool.not_true, Bool.not_false, Nat.reduceLeDiff, Nat.reduceMul, Nat.reduceSub, Nat.le_refl, Int.reduceToNat, Int.reduceLT, Int.reduceLE, Nat.one_mul, Nat.mul_one, load_w, load_a, store_b, idxS_b, set_blk, new_blk, set_next, new_next, len_s, ldW_c, ldA_c, stB_c, toArr_one, size_one, toList_toArr, size_toArr, List.length_cons, List.length_nil, List.getElem?_cons_zero, List.getElem?_cons_succ, Nat.zero_add, Nat.add_zero, hb.at_, hbn, g]
    exact ⟨by simp [spIn, g], Ext.new⟩
  · try simp only [go_sem, Bool.false_and, new_set, Int.reduceBEq, Int.reduceBNe, Int.reduceNeg, not_true_eq_false, beq_self_eq_true, bne_self_eq_false, Bool.false_eq_true, if_false, if_true, Int.cast_ofNat_Int, decide_true, decide_false, reduceCtorEq, Nat.reduceEqDiff, Nat.reduceAdd, ne_eq, not_false_eq_true, Option.map_some, Option.bind_some, Option.map_none, Option.bind_none, true_and, and_true, Bool.not_true, Bool.not_false, Nat.reduceLeDiff, Nat.reduceMul, Nat.reduceSub, Nat.le_refl, Int.reduceToNat, Int.reduceLT, Int.reduceLE, Nat.one_mul, Nat.mul_one, load_w, load_a, store_b, idxS_b, set_blk, new_blk, set_next, new_next, len_s, ldW_c, ldA_c, stB_c, toArr_one, size_one, toList_toArr, size_toArr, List.length_cons, List.length_nil, List.getElem?_cons_zero, List.getElem?_cons_succ, Nat.zero_add, Nat.add_zero, hb.at_, hbn, g]
    exact ⟨by simp [spIn, g], Ext.new⟩

theorem spHas {l : List Sp} {v : Value} {x : Int} (hs : Sl m 2 l.length (l.flatMap spV) v) (hb : SlLt m v) (hl : l.length < 1000000) : WC R F.spans_Has [v, .int .i64 x] m fun r m' => r = .bool (hasS l x) ∧ Ext m m' := by
  refine WC.of R.spans_Has rfl ?_
  simp only [RC.spans_Has, go_sem, Bool.false_and, new_set, Int.reduceBEq, Int.reduceBNe, Int.reduceNeg, not_true_eq_false, beq_self_eq_true, bne_self_eq_false, Bool.false_eq_true, if_false, if_true, Int.cast_ofNat_Int, decide_true, decide_false, reduceCtorEq, Nat.reduceEqDiff, Nat.reduceAdd, ne_eq, not_false_eq_true, Option.map_some, Option.bind_some, Option.map_none, Option.bind_none, true_and, and_true, Bool.not_true, Bool.not_false, Nat.reduceLeDiff, Nat.reduceMul, Nat.reduceSub, Nat.le_refl, Int.reduceToNat, Int.reduceLT, Int.reduceLE, Nat.one_mul, Nat.mul_one]
  have hx1 : Ext m (m.new (.cells [.int .i64 x] (some 1))) := Ext.new
  have hb1 : Bk (m.new (.cells [.int .i64 x] (some 1))) m.next [.int .i64 x] 1 := Bk.new
  try simp only [go_sem, Bool.false_and, new_set, Int.reduceBEq, Int.reduceBNe, Int.reduceNeg, not_true_eq_false, beq_self_eq_true, bne_self_eq_false, Bool.false_eq_true, if_false, if_true, Int.cast_ofNat_Int, decide_true, decide_false, reduceCtorEq, Nat.reduceEqDiff, Nat.reduceAdd, ne_eq, not_false_eq_true, Option.map_some, Option.bind_some, Option.map_none, Option.bind_none, true_and, and_true, Bool.not_true, Bool.not_false, Nat.reduceLeDiff, Nat.reduceMul, Nat.reduceSub, Nat.le_refl, Int.reduceToNat, Int.reduceLT, Int.reduceLE, Nat.one_mul, Nat.mul_one, load_w, load_a, store_b, idxS_b, set_blk, new_blk, set_next, new_next, len_s, ldW_c, ldA_c, stB_c, toArr_one, size_one, toList_toArr, size_toArr, List.length_cons, List.length_nil, List.getElem?_cons_zero, List.getElem?_cons_succ, Nat.zero_add, Nat.add_zero]
  generalize m.new (.cells [.int .i64 x] (some 1)) = m1 at hx1 hb1 ⊢
  refine gC.of (sp_Contains (p := spIn x) spV_len (hs.keep hb hx1) (hb.keep hx1) hl (fun m2 s hx2 => ?_)) ?_
  · rw [gV_cap]
    exact spHas1 (hb1.keep hx2)
  · rintro _ m2 ⟨rfl, hx2⟩
    try simp only [go_sem, Bool.false_and, new_set, Int.reduceBEq, Int.reduceBNe, Int.reduceNeg, not_true_eq_false, beq_self_eq_true, bne_self_eq_false, Bool.false_eq_true, if_false, if_true, Int.cast_ofNat_Int, decide_true, decide_false, reduceCtorEq, Nat.reduceEqDiff, Nat.reduceAdd, ne_eq, not_false_eq_true, Option.map_some, Option.bind_some, Option.map_none, Option.bind_none, true_and, and_true, Bool.not_true, Bool.not_false, Nat.reduceLeDiff, Nat.reduceMul, Nat.reduceSub, Nat.le_refl, Int.reduceToNat, Int.reduceLT, Int.reduceLE, Nat.one_mul, Nat.mul_one, load_w, load_a, store_b, idxS_b, set_blk, new_blk, set_next, new_next, len_s, ldW_c, ldA_c, stB_c, toArr_one, size_one, toList_toArr, size_toArr, List.length_cons, List.length_nil, List.getElem?_cons_zero, List.getElem?_cons_succ, Nat.zero_add, Nat.add_zero]
    exact ⟨rfl, hx1.trans hx2⟩
end Go.Am


/- Spans: the right row of any. -/
set_option linter.unusedVariables false
set_option linter.unusedSimpArgs false
namespace Go.Am
variable {m : Mem}

theorem spFlat {l : List Sp} : (l.flatMap spV).length = l.length * 2 := flat_len spV_len
theorem spSet {r : List Sp} {t : Sp} {e : Int} : ((r ++ [t]).flatMap spV).set (r.length * 2 + 1) (.int .i64 e) = (r ++ [(t.1, e)]).flatMap spV := by
  rw [List.flatMap_append, List.flatMap_append, List.set_append_right _ _ (by rw [spFlat]; omega), spFlat, Nat.add_sub_cancel_left]
  rfl
theorem spSnoc {r : List Sp} {t : Sp} : (r ++ [t]).flatMap spV = r.flatMap spV ++ spV t := by simp [List.flatMap_append]

theorem spPad {s : Sp} : spV s ++ List.drop (spV s).length [Value.int IntKind.i64 0, Value.int IntKind.i64 0] = spV s := rfl
/-- A last one, or none. -/
theorem snoc_or {α : Type} (l : List α) : l = [] ∨ ∃ r t, l = r ++ [t] := by
  rcases List.eq_nil_or_concat l with h | ⟨r, t, h⟩
  · exact .inl h
  · exact .inr ⟨r, t, by rw [h, List.concat_eq_append]⟩

/-- What stays of a row of spans when it is put right. -/
def NormOf (l r : List Sp) : Prop := Rt r ∧ (∀ x, InS r x ↔ InS l x) ∧ r.length ≤ l.length

theorem NormOf.eq {l r r' : List Sp} (h : NormOf l r) (h' : NormOf l r') : r = r' := h.1.eq h'.1 fun x => (h.2.1 x).trans (h'.2.1 x).symm

theorem in_filter {l : List Sp} {x : Int} : InS (l.filter fun s => !decide (s.2 ≤ s.1)) x ↔ InS l x := by
  unfold InS
  constructor
  · rintro ⟨s, h, h1⟩
    exact ⟨s, (List.mem_filter.1 h).1, h1⟩
  · rintro ⟨s, h, h1, h2⟩
    refine ⟨s, List.mem_filter.2 ⟨h, ?_⟩, h1, h2⟩
    simp; omega
theorem in_perm {l l' : List Sp} (h : l'.Perm l) {x : Int} : InS l' x ↔ InS l x := by
  unfold InS
  constructor
  · rintro ⟨s, h', h1⟩; exact ⟨s, h.mem_iff.1 h', h1⟩
  · rintro ⟨s, h', h1⟩; exact ⟨s, h.mem_iff.2 h', h1⟩

set_option maxHeartbeats 4000000 in
theorem spNorm {l : List Sp} {v : Value} (hs : Sl m 2 l.length (l.flatMap spV) v) (hb : SlLt m v) (hl : l.length < 100000) :
    WC R F.spans_Norm [v] m fun rv m' => ∃ r, NormOf l r ∧ Own m m' 2 r.length (r.flatMap spV) rv ∧ Ext m m' := by
  refine WC.of R.spans_Norm rfl ?_
  simp only [RC.spans_Norm, go_sem, Bool.false_and, new_set, Int.reduceBEq, Int.reduceBNe, Int.reduceNeg, not_true_eq_false, beq_self_eq_true, bne_self_eq_false, Bool.false_eq_true, if_false, if_true, Int.cast_ofNat_Int, decide_true, decide_false, reduceCtorEq, Nat.reduceEqDiff, Nat.reduceAdd, ne_eq, not_false_eq_true, Option.map_some, Option.bind_some, Option.map_none, Option.bind_none, true_and, and_true, Bool.not_true, Bool.not_false, Nat.reduceLeDiff, Nat.reduceMul, Nat.reduceSub, Nat.le_refl, Int.reduceToNat, Int.reduceLT, Int.reduceLE, Nat.one_mul, Nat.mul_one]
  refine gC.of (sp_Clone spV_len (spV_flat l) hs hb (by omega)) ?_
  rintro v1 m1 ⟨ho1, hx1, -⟩
  simp only [go_sem, Bool.false_and, new_set, Int.reduceBEq, Int.reduceBNe, Int.reduceNeg, not_true_eq_false, beq_self_eq_true, bne_self_eq_false, Bool.false_eq_true, if_false, if_true, Int.cast_ofNat_Int, decide_true, decide_false, reduceCtorEq, Nat.reduceEqDiff, Nat.reduceAdd, ne_eq, not_false_eq_true, Option.map_some, Option.bind_some, Option.map_none, Option.bind_none, true_and, and_true, Bool.not_true, Bool.not_false, Nat.reduceLeDiff, Nat.reduceMul, Nat.reduceSub, Nat.le_refl, Int.reduceToNat, Int.reduceLT, Int.reduceLE, Nat.one_mul, Nat.mul_one]
  refine gC.of (sp_DeleteFunc (p := fun s => decide (s.2 ≤ s.1)) spV_len spV_one ho1 hx1 (by omega) (fun m2 s _ => ?_)) ?_
  · rw [gV_func]
    exact spEmpty
  rintro v2 m2 ⟨ho2, hx2, -, -⟩
  have hl2 : (l.filter fun s => !decide (s.2 ≤ s.1)).length ≤ l.length := List.length_filter_le _ _
  have hin2 : ∀ x, InS (l.filter fun s => !decide (s.2 ≤ s.1)) x ↔ InS l x := fun x => in_filter
  have hne2 : ∀ s ∈ (l.filter fun s => !decide (s.2 ≤ s.1)), s.1 < s.2 := fun s h => by
    have := (List.mem_filter.1 h).2
    simp at this; omega
  generalize (l.filter fun s => !decide (s.2 ≤ s.1)) = l2 at ho2 hl2 hin2 hne2
  simp only [go_sem, Bool.false_and, new_set, Int.reduceBEq, Int.reduceBNe, Int.reduceNeg, not_true_eq_false, beq_self_eq_true, bne_self_eq_false, Bool.false_eq_true, if_false, if_true, Int.cast_ofNat_Int, decide_true, decide_false, reduceCtorEq, Nat.reduceEqDiff, Nat.reduceAdd, ne_eq, not_false_eq_true, Option.map_some, Option.bind_some, Option.map_none, Option.bind_none, true_and, and_true, Bool.not_true, Bool.not_false, Nat.reduceLeDiff, Nat.reduceMul, Nat.reduceSub, Nat.le_refl, Int.reduceToNat, Int.reduceLT, Int.reduceLE, Nat.one_mul, Nat.mul_one]
  refine gC.of (so_own spV_len spV_one spCmp spSWO ho2 hx2 (by omega)) ?_
  rintro _ m3 ⟨l3, hp, hso, ho3, hx3, -⟩
  have hl3 : l3.length ≤ l.length := by rw [hp.length_eq]; exact hl2
  have hin3 : ∀ x, InS l3 x ↔ InS l x := fun x => (in_perm hp).trans (hin2 x)
  have hne3 : ∀ s ∈ l3, s.1 < s.2 := fun s h => hne2 s (hp.mem_iff.1 h)
  have hs3 := ho3.sl
  have hb3 := ho3.lt
  simp only [go_sem, Bool.false_and, new_set, Int.reduceBEq, Int.reduceBNe, Int.reduceNeg, not_true_eq_false, beq_self_eq_true, bne_self_eq_false, Bool.false_eq_true, if_false, if_true, Int.cast_ofNat_Int, decide_true, decide_false, reduceCtorEq, Nat.reduceEqDiff, Nat.reduceAdd, ne_eq, not_false_eq_true, Option.map_some, Option.bind_some, Option.map_none, Option.bind_none, true_and, and_true, Bool.not_true, Bool.not_false, Nat.reduceLeDiff, Nat.reduceMul, Nat.reduceSub, Nat.le_refl, Int.reduceToNat, Int.reduceLT, Int.reduceLE, Nat.one_mul, Nat.mul_one, hs3.len]
  refine WL.of (fun n e m' => ∃ (i : Nat) (r : List Sp) (rv : Value), i ≤ l3.length ∧ n = l3.length - i ∧ e = [(4, rv), (13, v2), (14, .int .i64 l3.length), (15, .int .i64 i)] ∧ Own m3 m' 2 r.length (r.flatMap spV) rv ∧ Ext m3 m' ∧
      Rt r ∧ (∀ x, InS r x ↔ InS (l3.take i) x) ∧ r.length ≤ i ∧ ∀ t ∈ r, ∃ p ∈ l3.take i, t.1 = p.1) l3.length
    ⟨0, [], .slice none 0 0, by omega, by omega, by simp only [go_sem, Bool.false_and, new_set, Int.reduceBEq, Int.reduceBNe, Int.reduceNeg, not_true_eq_false, beq_self_eq_true, bne_self_eq_false, Bool.false_eq_true, if_false, if_true, Int.cast_ofNat_Int, decide_true, decide_false, reduceCtorEq, Nat.reduceEqDiff, Nat.reduceAdd, ne_eq, not_false_eq_true, Option.map_some, Option.bind_some, Option.map_none, Option.bind_none, true_and, and_true, Bool.not_true, Bool.not_false, Nat.reduceLeDiff, Nat.reduceMul, Nat.reduceSub, Nat.le_refl, Int.reduceToNat, Int.reduceLT, Int.reduceLE, Nat.one_mul, Nat.mul_one] <;> rfl, .nil rfl rfl, Ext.refl _, Rt.nil, fun x => by simp, by simp, by simp⟩ ?_
  rintro _ _ m4 ⟨i, r, rv, hi, rfl, rfl, ho, hx4, hrt, hin, hrl, hfr⟩
  simp only [RB.spans_Norm_1, go_sem, Bool.false_and, new_set, Int.reduceBEq, Int.reduceBNe, Int.reduceNeg, not_true_eq_false, beq_self_eq_true, bne_self_eq_false, Bool.false_eq_true, if_false, if_true, Int.cast_ofNat_Int, decide_true, decide_false, reduceCtorEq, Nat.reduceEqDiff, Nat.reduceAdd, ne_eq, not_false_eq_true, Option.map_some, Option.bind_some, Option.map_none, Option.bind_none, true_and, and_true, Bool.not_true, Bool.not_false, Nat.reduceLeDiff, Nat.reduceMul, Nat.reduceSub, Nat.le_refl, Int.reduceToNat, Int.reduceLT, Int.reduceLE, Nat.one_mul, Nat.mul_one]
  refine gT.of (fun g1' => ?_) (fun g1' => ?_) <;> (have g1 := g1'; try simp only [decide_eq_true_eq, decide_eq_false_iff_not, beq_iff_eq, bne_iff_ne, beq_eq_false_iff_ne, ne_eq, Bool.not_eq_true', Bool.not_eq_false', bne_eq_false_iff_eq, Int.not_lt, Int.not_le] at g1)
  · have hil : i < l3.length := by omega
    obtain ⟨b, o, a1, a2, a3, a4⟩ := (hs3.keep hb3 hx4).elem spV_len (k := .i64) hil
    have w : IntKind.wrap .i64 ((i : Int) + 1) = ((i + 1 : Nat) : Int) := by rw [wrap_i64 (by omega) (by omega)]; rfl
    have tk : l3.take (i + 1) = l3.take i ++ [l3[i]] := List.take_succ_eq_append_getElem hil
    have hne := hne3 l3[i] (List.getElem_mem hil)
    -- what was put stands ahead
    have hle : ∀ t ∈ r, t.1 ≤ l3[i].1 := fun t ht => by
      obtain ⟨p, hp, e⟩ := hfr t ht
      obtain ⟨j, hj, rfl⟩ := List.getElem_of_mem hp
      rw [List.getElem_take] at e
      have hj2 : j < i := by rw [List.length_take] at hj; omega
      have := (List.pairwise_iff_getElem.1 hso) j i (by omega) hil hj2
      rw [cmpI_neg] at this
      omega
    simp only [go_sem, Bool.false_and, new_set, Int.reduceBEq, Int.reduceBNe, Int.reduceNeg, not_true_eq_false, beq_self_eq_true, bne_self_eq_false, Bool.false_eq_true, if_false, if_true, Int.cast_ofNat_Int, decide_true, decide_false, reduceCtorEq, Nat.reduceEqDiff, Nat.reduceAdd, ne_eq, not_false_eq_true, Option.map_some, Option.bind_some, Option.map_none, Option.bind_none, true_and, and_true, Bool.not_true, Bool.not_false, Nat.reduceLeDiff, Nat.reduceMul, Nat.reduceSub, Nat.le_refl, Int.reduceToNat, Int.reduceLT, Int.reduceLE, Nat.one_mul, Nat.mul_one, g1', a1, a2]
    generalize l3[i] = s at *
    have hbx : Bk (m4.new (.cells (spV s) (some 2))) m4.next (spV s) 2 := Bk.new
    have hxx : Ext m4 (m4.new (.cells (spV s) (some 2))) := Ext.new
    simp only [spV] at hbx hxx
    have hst : aStore 2 (m4.new (.cells [(.int .i64 0), (.int .i64 0)] (some 2))) (.pointer (some ⟨m4.next, 0, none⟩)) (.agg (spV s).toArray) = some (m4.new (.cells [.int .i64 s.1, .int .i64 s.2] (some 2))) := by
      simp only [spV]
      simp only [go_sem, Bool.false_and, new_set, Int.reduceBEq, Int.reduceBNe, Int.reduceNeg, not_true_eq_false, beq_self_eq_true, bne_self_eq_false, Bool.false_eq_true, if_false, if_true, Int.cast_ofNat_Int, decide_true, decide_false, reduceCtorEq, Nat.reduceEqDiff, Nat.reduceAdd, ne_eq, not_false_eq_true, Option.map_some, Option.bind_some, Option.map_none, Option.bind_none, true_and, and_true, Bool.not_true, Bool.not_false, Nat.reduceLeDiff, Nat.reduceMul, Nat.reduceSub, Nat.le_refl, Int.reduceToNat, Int.reduceLT, Int.reduceLE, Nat.one_mul, Nat.mul_one, load_w, load_a, store_b, idxS_b, set_blk, new_blk, set_next, new_next, len_s, ldW_c, ldA_c, stB_c, toArr_one, size_one, toList_toArr, size_toArr, List.length_cons, List.length_nil, List.getElem?_cons_zero, List.getElem?_cons_succ, Nat.zero_add, Nat.add_zero]
    simp only [go_sem, Bool.false_and, new_set, Int.reduceBEq, Int.reduceBNe, Int.reduceNeg, not_true_eq_false, beq_self_eq_true, bne_self_eq_false, Bool.false_eq_true, if_false, if_true, Int.cast_ofNat_Int, decide_true, decide_false, reduceCtorEq, Nat.reduceEqDiff, Nat.reduceAdd, ne_eq, not_false_eq_true, Option.map_some, Option.bind_some, Option.map_none, Option.bind_none, true_and, and_true, Bool.not_true, Bool.not_false, Nat.reduceLeDiff, Nat.reduceMul, Nat.reduceSub, Nat.le_refl, Int.reduceToNat, Int.reduceLT, Int.reduceLE, Nat.one_mul, Nat.mul_one, hst]
    generalize m4.new (.cells [.int .i64 s.1, .int .i64 s.2] (some 2)) = m5 at hbx hxx ⊢
    have ho5 := ho.keep hxx
    have hx5 := hx4.trans hxx
    have hs5 := ho5.sl
    have c1 : aLoad false 1 m5 (.pointer (some ⟨m4.next, 0, none⟩)) = some (.int .i64 s.1) := by simp only [go_sem, Bool.false_and, new_set, Int.reduceBEq, Int.reduceBNe, Int.reduceNeg, not_true_eq_false, beq_self_eq_true, bne_self_eq_false, Bool.false_eq_true, if_false, if_true, Int.cast_ofNat_Int, decide_true, decide_false, reduceCtorEq, Nat.reduceEqDiff, Nat.reduceAdd, ne_eq, not_false_eq_true, Option.map_some, Option.bind_some, Option.map_none, Option.bind_none, true_and, and_true, Bool.not_true, Bool.not_false, Nat.reduceLeDiff, Nat.reduceMul, Nat.reduceSub, Nat.le_refl, Int.reduceToNat, Int.reduceLT, Int.reduceLE, Nat.one_mul, Nat.mul_one, load_w, load_a, store_b, idxS_b, set_blk, new_blk, set_next, new_next, len_s, ldW_c, ldA_c, stB_c, toArr_one, size_one, toList_toArr, size_toArr, List.length_cons, List.length_nil, List.getElem?_cons_zero, List.getElem?_cons_succ, Nat.zero_add, Nat.add_zero, hbx.at_]
    have c2 : aLoad false 1 m5 (.pointer (some ⟨m4.next, 1, none⟩)) = some (.int .i64 s.2) := by simp only [go_sem, Bool.false_and, new_set, Int.reduceBEq, Int.reduceBNe, Int.reduceNeg, not_true_eq_false, beq_self_eq_true, bne_self_eq_false, Bool.false_eq_true, if_false, if_true, Int.cast_ofNat_Int, decide_true, decide_false, reduceCtorEq, Nat.reduceEqDiff, Nat.reduceAdd, ne_eq, not_false_eq_true, Option.map_some, Option.bind_some, Option.map_none, Option.bind_none, true_and, and_true, Bool.not_true, Bool.not_false, Nat.reduceLeDiff, Nat.reduceMul, Nat.reduceSub, Nat.le_refl, Int.reduceToNat, Int.reduceLT, Int.reduceLE, Nat.one_mul, Nat.mul_one, load_w, load_a, store_b, idxS_b, set_blk, new_blk, set_next, new_next, len_s, ldW_c, ldA_c, stB_c, toArr_one, size_one, toList_toArr, size_toArr, List.length_cons, List.length_nil, List.getElem?_cons_zero, List.getElem?_cons_succ, Nat.zero_add, Nat.add_zero, hbx.at_]
    have c3 : aLoad true 2 m5 (.pointer (some ⟨m4.next, 0, none⟩)) = some (.agg (spV s).toArray) := by simp only [go_sem, Bool.false_and, new_set, Int.reduceBEq, Int.reduceBNe, Int.reduceNeg, not_true_eq_false, beq_self_eq_true, bne_self_eq_false, Bool.false_eq_true, if_false, if_true, Int.cast_ofNat_Int, decide_true, decide_false, reduceCtorEq, Nat.reduceEqDiff, Nat.reduceAdd, ne_eq, not_false_eq_true, Option.map_some, Option.bind_some, Option.map_none, Option.bind_none, true_and, and_true, Bool.not_true, Bool.not_false, Nat.reduceLeDiff, Nat.reduceMul, Nat.reduceSub, Nat.le_refl, Int.reduceToNat, Int.reduceLT, Int.reduceLE, Nat.one_mul, Nat.mul_one, load_w, load_a, store_b, idxS_b, set_blk, new_blk, set_next, new_next, len_s, ldW_c, ldA_c, stB_c, toArr_one, size_one, toList_toArr, size_toArr, List.length_cons, List.length_nil, List.getElem?_cons_zero, List.getElem?_cons_succ, Nat.zero_add, Nat.add_zero, hbx.at_]; rfl
    simp only [go_sem, Bool.false_and, new_set, Int.reduceBEq, Int.reduceBNe, Int.reduceNeg, not_true_eq_false, beq_self_eq_true, bne_self_eq_false, Bool.false_eq_true, if_false, if_true, Int.cast_ofNat_Int, decide_true, decide_false, reduceCtorEq, Nat.reduceEqDiff, Nat.reduceAdd, ne_eq, not_false_eq_true, Option.map_some, Option.bind_some, Option.map_none, Option.bind_none, true_and, and_true, Bool.not_true, Bool.not_false, Nat.reduceLeDiff, Nat.reduceMul, Nat.reduceSub, Nat.le_refl, Int.reduceToNat, Int.reduceLT, Int.reduceLE, Nat.one_mul, Nat.mul_one, hs5.len]
    have finA : (∀ t ∈ r, t.2 < s.1) → Rt (r ++ [s]) ∧ (∀ x, InS (r ++ [s]) x ↔ InS (l3.take i ++ [s]) x) ∧ (r ++ [s]).length ≤ i + 1 ∧ ∀ t ∈ r ++ [s], ∃ p ∈ l3.take i ++ [s], t.1 = p.1 := fun hg =>
      ⟨hrt.put hne hg, fun x => by rw [InS.snoc, InS.snoc, hin], by simp; omega, fun t ht => by
        rcases List.mem_append.1 ht with h | h
        · obtain ⟨p, hp, e⟩ := hfr t h
          exact ⟨p, List.mem_append.2 (.inl hp), e⟩
        · exact ⟨s, by simp, by rw [List.mem_singleton.1 h]⟩⟩
    obtain ⟨va, ma, ea1, ea2, ea3⟩ := ho5.app (by_ := 16) (es := spV s) hx5 (by omega) rfl rfl (by omega) (by omega)
    rw [← spSnoc] at ea2
    have hra : (r ++ [s]).length = r.length + 1 := by simp
    rw [← hra] at ea2
    rcases snoc_or r with hr | ⟨r0, t, hr⟩
    · have e0 : decide (0 < (r.length : Int)) = false := by subst hr; rfl
      simp only [go_sem, Bool.false_and, new_set, Int.reduceBEq, Int.reduceBNe, Int.reduceNeg, not_true_eq_false, beq_self_eq_true, bne_self_eq_false, Bool.false_eq_true, if_false, if_true, Int.cast_ofNat_Int, decide_true, decide_false, reduceCtorEq, Nat.reduceEqDiff, Nat.reduceAdd, ne_eq, not_false_eq_true, Option.map_some, Option.bind_some, Option.map_none, Option.bind_none, true_and, and_true, Bool.not_true, Bool.not_false, Nat.reduceLeDiff, Nat.reduceMul, Nat.reduceSub, Nat.le_refl, Int.reduceToNat, Int.reduceLT, Int.reduceLE, Nat.one_mul, Nat.mul_one, e0, c3]
      refine ⟨rfl, rfl, ?_⟩
      rw [spPad, ea1]
      simp only [go_sem, Bool.false_and, new_set, Int.reduceBEq, Int.reduceBNe, Int.reduceNeg, not_true_eq_false, beq_self_eq_true, bne_self_eq_false, Bool.false_eq_true, if_false, if_true, Int.cast_ofNat_Int, decide_true, decide_false, reduceCtorEq, Nat.reduceEqDiff, Nat.reduceAdd, ne_eq, not_false_eq_true, Option.map_some, Option.bind_some, Option.map_none, Option.bind_none, true_and, and_true, Bool.not_true, Bool.not_false, Nat.reduceLeDiff, Nat.reduceMul, Nat.reduceSub, Nat.le_refl, Int.reduceToNat, Int.reduceLT, Int.reduceLE, Nat.one_mul, Nat.mul_one, w]
      obtain ⟨f1, f2, f3, f4⟩ := finA (by subst hr; simp)
      refine ⟨l3.length - (i + 1), by omega, i + 1, r ++ [s], va, by omega, rfl, rfl, ea2, ea3, f1, ?_, f3, ?_⟩
      · rw [tk]; exact f2
      · rw [tk]; exact f4
    · have hrn : r.length = r0.length + 1 := by subst hr; simp
      have e0 : decide (0 < (r.length : Int)) = true := by rw [decide_eq_true_eq]; omega
      have w1 : IntKind.wrap .i64 ((r.length : Int) - 1) = ((r0.length : Nat) : Int) := by rw [wrap_i64 (by omega) (by omega)]; omega
      have hri : r0.length < r.length := by omega
      obtain ⟨b2, o2, d1, -, d3, -⟩ := hs5.elem spV_len (k := .i64) hri
      have hrt0 : r[r0.length] = t := by subst hr; simp
      rw [hrt0] at d3
      have d4 : aLoad false 1 m5 (.pointer (some ⟨b2, o2 + 1, none⟩)) = some (.int .i64 t.2) := d3 1 (by omega)
      simp only [go_sem, Bool.false_and, new_set, Int.reduceBEq, Int.reduceBNe, Int.reduceNeg, not_true_eq_false, beq_self_eq_true, bne_self_eq_false, Bool.false_eq_true, if_false, if_true, Int.cast_ofNat_Int, decide_true, decide_false, reduceCtorEq, Nat.reduceEqDiff, Nat.reduceAdd, ne_eq, not_false_eq_true, Option.map_some, Option.bind_some, Option.map_none, Option.bind_none, true_and, and_true, Bool.not_true, Bool.not_false, Nat.reduceLeDiff, Nat.reduceMul, Nat.reduceSub, Nat.le_refl, Int.reduceToNat, Int.reduceLT, Int.reduceLE, Nat.one_mul, Nat.mul_one, e0, c1, w1, d1, d4]
      refine gT.of (fun g2' => ?_) (fun g2' => ?_) <;> (have g2 := g2'; try simp only [decide_eq_true_eq, decide_eq_false_iff_not, beq_iff_eq, bne_iff_ne, beq_eq_false_iff_ne, ne_eq, Bool.not_eq_true', Bool.not_eq_false', bne_eq_false_iff_eq, Int.not_lt, Int.not_le] at g2)
      · obtain ⟨b3, mp, p1, p2, p3, p4⟩ := ho5.put (k := .i64) (o := 1) (w := .int .i64 (if t.2 < s.2 then s.2 else t.2)) hx5 hri (by omega) rfl rfl
        rw [d1] at p1
        cases p1
        simp only [go_sem, Bool.false_and, new_set, Int.reduceBEq, Int.reduceBNe, Int.reduceNeg, not_true_eq_false, beq_self_eq_true, bne_self_eq_false, Bool.false_eq_true, if_false, if_true, Int.cast_ofNat_Int, decide_true, decide_false, reduceCtorEq, Nat.reduceEqDiff, Nat.reduceAdd, ne_eq, not_false_eq_true, Option.map_some, Option.bind_some, Option.map_none, Option.bind_none, true_and, and_true, Bool.not_true, Bool.not_false, Nat.reduceLeDiff, Nat.reduceMul, Nat.reduceSub, Nat.le_refl, Int.reduceToNat, Int.reduceLT, Int.reduceLE, Nat.one_mul, Nat.mul_one, g2', d1, d4, w1, c2, p2, w]
        have hme : t.2 ≤ (if t.2 < s.2 then s.2 else t.2) ∧ s.2 ≤ (if t.2 < s.2 then s.2 else t.2) ∧ ((if t.2 < s.2 then s.2 else t.2) = t.2 ∨ (if t.2 < s.2 then s.2 else t.2) = s.2) := by
          split <;> omega
        generalize (if t.2 < s.2 then s.2 else t.2) = e at p3 hme
        have hle2 : t.1 ≤ s.1 := hle t (by subst hr; simp)
        rw [show r.flatMap spV = (r0 ++ [t]).flatMap spV by rw [hr], spSet] at p3
        have hlr : r.length = (r0 ++ [(t.1, e)]).length := by simp [hrn]
        rw [hlr] at p3
        refine ⟨l3.length - (i + 1), by omega, i + 1, r0 ++ [(t.1, e)], rv, by omega, rfl, rfl, p3, p4, ?_, fun x => ?_, by rw [← hlr]; omega, fun u hu => ?_⟩
        · subst hr; exact hrt.more hme.1
        · rw [tk, InS.snoc, InS.snoc, ← hin]
          subst hr
          rw [InS.snoc]
          have h1 := (Rt.snoc.1 hrt).2.1
          constructor
          · rintro (h | h)
            · exact .inl (.inl h)
            · by_cases hx : x < t.2
              · exact .inl (.inr ⟨h.1, hx⟩)
              · refine .inr ?_
                have h2 : t.1 ≤ x ∧ x < e := h
                omega
          · rintro ((h | h) | h)
            · exact .inl h
            · exact .inr ⟨h.1, by show x < e; omega⟩
            · exact .inr ⟨by show t.1 ≤ x; omega, by show x < e; omega⟩
        · rw [tk]
          rcases List.mem_append.1 hu with h | h
          · obtain ⟨p, hp, e'⟩ := hfr u (by subst hr; simp [h])
            exact ⟨p, List.mem_append.2 (.inl hp), e'⟩
          · obtain ⟨p, hp, e'⟩ := hfr t (by subst hr; simp)
            exact ⟨p, List.mem_append.2 (.inl hp), by rw [List.mem_singleton.1 h]; exact e'⟩
      · simp only [go_sem, Bool.false_and, new_set, Int.reduceBEq, Int.reduceBNe, Int.reduceNeg, not_true_eq_false, beq_self_eq_true, bne_self_eq_false, Bool.false_eq_true, if_false, if_true, Int.cast_ofNat_Int, decide_true, decide_false, reduceCtorEq, Nat.reduceEqDiff, Nat.reduceAdd, ne_eq, not_false_eq_true, Option.map_some, Option.bind_some, Option.map_none, Option.bind_none, true_and, and_true, Bool.not_true, Bool.not_false, Nat.reduceLeDiff, Nat.reduceMul, Nat.reduceSub, Nat.le_refl, Int.reduceToNat, Int.reduceLT, Int.reduceLE, Nat.one_mul, Nat.mul_one, g2', c3]
        refine ⟨rfl, rfl, ?_⟩
        rw [spPad, ea1]
        simp only [go_sem, Bool.false_and, new_set, Int.reduceBEq, Int.reduceBNe, Int.reduceNeg, not_true_eq_false, beq_self_eq_true, bne_self_eq_false, Bool.false_eq_true, if_false, if_true, Int.cast_ofNat_Int, decide_true, decide_false, reduceCtorEq, Nat.reduceEqDiff, Nat.reduceAdd, ne_eq, not_false_eq_true, Option.map_some, Option.bind_some, Option.map_none, Option.bind_none, true_and, and_true, Bool.not_true, Bool.not_false, Nat.reduceLeDiff, Nat.reduceMul, Nat.reduceSub, Nat.le_refl, Int.reduceToNat, Int.reduceLT, Int.reduceLE, Nat.one_mul, Nat.mul_one, w]
        obtain ⟨f1, f2, f3, f4⟩ := finA (fun u hu => by subst hr; have := hrt.last hu; omega)
        refine ⟨l3.length - (i + 1), by omega, i + 1, r ++ [s], va, by omega, rfl, rfl, ea2, ea3, f1, ?_, f3, ?_⟩
        · rw [tk]; exact f2
        · rw [tk]; exact f4
  · have : i = l3.length := by omega
    subst this
    simp only [go_sem, Bool.false_and, new_set, Int.reduceBEq, Int.reduceBNe, Int.reduceNeg, not_true_eq_false, beq_self_eq_true, bne_self_eq_false, Bool.false_eq_true, if_false, if_true, Int.cast_ofNat_Int, decide_true, decide_false, reduceCtorEq, Nat.reduceEqDiff, Nat.reduceAdd, ne_eq, not_false_eq_true, Option.map_some, Option.bind_some, Option.map_none, Option.bind_none, true_and, and_true, Bool.not_true, Bool.not_false, Nat.reduceLeDiff, Nat.reduceMul, Nat.reduceSub, Nat.le_refl, Int.reduceToNat, Int.reduceLT, Int.reduceLE, Nat.one_mul, Nat.mul_one, g1']
    rw [List.take_length] at hin
    exact ⟨r, ⟨hrt, fun x => (hin x).trans (hin3 x), by omega⟩, ho.weak hx3, hx3.trans hx4⟩
end Go.Am


/- Spans: whether a row is right; the reference's small ones; the law's own words. -/
set_option linter.unusedVariables false
set_option linter.unusedSimpArgs false
namespace Go.Am
variable {m : Mem}

theorem Rt.take {l : List Sp} (h : Rt l) (i : Nat) : Rt (l.take i) :=
  ⟨fun s hs => h.1 s (List.mem_of_mem_take hs), h.2.sublist (List.take_sublist _ _)⟩
theorem Rt.next {l : List Sp} {i : Nat} (hi : i < l.length) (h : Rt (l.take i)) :
    Rt (l.take (i + 1)) ↔ l[i].1 < l[i].2 ∧ ∀ h : 0 < i, l[i - 1].2 < l[i].1 := by
  rw [List.take_succ_eq_append_getElem hi, Rt.snoc]
  constructor
  · rintro ⟨-, h1, h2⟩
    refine ⟨h1, fun h0 => h2 _ ?_⟩
    rw [List.mem_take_iff_getElem]
    exact ⟨i - 1, by omega, rfl⟩
  · rintro ⟨h1, h2⟩
    refine ⟨h, h1, fun t ht => ?_⟩
    by_cases h0 : 0 < i
    · have hl := h2 h0
      have e : l.take i = l.take (i - 1) ++ [l[i - 1]] := by
        rw [← List.take_succ_eq_append_getElem (by omega), Nat.sub_add_cancel h0]
      rw [e] at ht h
      have := h.last ht
      omega
    · have : i = 0 := by omega
      subst this; simp at ht

theorem step1 {i : Nat} (h : i < 1000000) : IntKind.wrap .i64 ((i : Int) + 1) = ((i + 1 : Nat) : Int) := by rw [wrap_i64 (by omega) (by omega)]; rfl
theorem back1 {i : Nat} (h : i < 1000000) (h0 : 0 < i) : IntKind.wrap .i64 ((i : Int) - 1) = ((i - 1 : Nat) : Int) := by rw [wrap_i64 (by omega) (by omega)]; omega

theorem refRight {l : List Sp} {v : Value} (hs : Sl m 2 l.length (l.flatMap spV) v) (hl : l.length < 1000000) :
    WC R F.ref05_Right [v] m fun r m' => (∃ b, r = .bool b ∧ (b = true ↔ Rt l)) ∧ m' = m := by
  refine WC.of R.ref05_Right rfl ?_
  simp only [RC.ref05_Right, go_sem, Bool.false_and, new_set, Int.reduceBEq, Int.reduceBNe, Int.reduceNeg, not_true_eq_false, beq_self_eq_true, bne_self_eq_false, Bool.false_eq_true, if_false, if_true, Int.cast_ofNat_Int, decide_true, decide_false, reduceCtorEq, Nat.reduceEqDiff, Nat.reduceAdd, ne_eq, not_false_eq_true, Option.map_some, Option.bind_some, Option.map_none, Option.bind_none, true_and, and_true, Bool.not_true, Bool.not_false, Nat.reduceLeDiff, Nat.reduceMul, Nat.reduceSub, Nat.le_refl, Int.reduceToNat, Int.reduceLT, Int.reduceLE, Nat.one_mul, Nat.mul_one]
  refine WL.of (fun n e m' => ∃ i : Nat, i ≤ l.length ∧ n = l.length - i ∧ m' = m ∧ e = [(0, v), (3, .int .i64 i)] ∧ Rt (l.take i)) l.length
    ⟨0, by omega, by omega, rfl, by simp only [go_sem, Bool.false_and, new_set, Int.reduceBEq, Int.reduceBNe, Int.reduceNeg, not_true_eq_false, beq_self_eq_true, bne_self_eq_false, Bool.false_eq_true, if_false, if_true, Int.cast_ofNat_Int, decide_true, decide_false, reduceCtorEq, Nat.reduceEqDiff, Nat.reduceAdd, ne_eq, not_false_eq_true, Option.map_some, Option.bind_some, Option.map_none, Option.bind_none, true_and, and_true, Bool.not_true, Bool.not_false, Nat.reduceLeDiff, Nat.reduceMul, Nat.reduceSub, Nat.le_refl, Int.reduceToNat, Int.reduceLT, Int.reduceLE, Nat.one_mul, Nat.mul_one] <;> rfl, Rt.nil⟩ ?_
  rintro _ _ _ ⟨i, hi, rfl, rfl, rfl, hrt⟩
  simp only [RB.ref05_Right_1, go_sem, Bool.false_and, new_set, Int.reduceBEq, Int.reduceBNe, Int.reduceNeg, not_true_eq_false, beq_self_eq_true, bne_self_eq_false, Bool.false_eq_true, if_false, if_true, Int.cast_ofNat_Int, decide_true, decide_false, reduceCtorEq, Nat.reduceEqDiff, Nat.reduceAdd, ne_eq, not_false_eq_true, Option.map_some, Option.bind_some, Option.map_none, Option.bind_none, true_and, and_true, Bool.not_true, Bool.not_false, Nat.reduceLeDiff, Nat.reduceMul, Nat.reduceSub, Nat.le_refl, Int.reduceToNat, Int.reduceLT, Int.reduceLE, Nat.one_mul, Nat.mul_one, hs.len]
  refine gT.of (fun g1' => ?_) (fun g1' => ?_) <;> (have g1 := g1'; try simp only [decide_eq_true_eq, decide_eq_false_iff_not, beq_iff_eq, bne_iff_ne, beq_eq_false_iff_ne, ne_eq, Bool.not_eq_true', Bool.not_eq_false', bne_eq_false_iff_eq, Int.not_lt, Int.not_le] at g1)
  · have hil : i < l.length := by omega
    obtain ⟨b, o, a1, a2, a3, -⟩ := hs.elem spV_len (k := .i64) hil
    have c1 : aLoad false 1 _ (.pointer (some ⟨b, o + 0, none⟩)) = some (.int .i64 l[i].1) := a3 0 (by omega)
    have c2 : aLoad false 1 _ (.pointer (some ⟨b, o + 1, none⟩)) = some (.int .i64 l[i].2) := a3 1 (by omega)
    have nx := Rt.next hil hrt
    have s1 := step1 (show i < 1000000 by omega)
    simp only [go_sem, Bool.false_and, new_set, Int.reduceBEq, Int.reduceBNe, Int.reduceNeg, not_true_eq_false, beq_self_eq_true, bne_self_eq_false, Bool.false_eq_true, if_false, if_true, Int.cast_ofNat_Int, decide_true, decide_false, reduceCtorEq, Nat.reduceEqDiff, Nat.reduceAdd, ne_eq, not_false_eq_true, Option.map_some, Option.bind_some, Option.map_none, Option.bind_none, true_and, and_true, Bool.not_true, Bool.not_false, Nat.reduceLeDiff, Nat.reduceMul, Nat.reduceSub, Nat.le_refl, Int.reduceToNat, Int.reduceLT, Int.reduceLE, Nat.one_mul, Nat.mul_one, g1', a1, c1, c2]
    by_cases g2 : l[i].2 ≤ l[i].1
    · have e2 : decide (l[i].2 ≤ l[i].1) = true := decide_eq_true g2
      simp only [go_sem, Bool.false_and, new_set, Int.reduceBEq, Int.reduceBNe, Int.reduceNeg, not_true_eq_false, beq_self_eq_true, bne_self_eq_false, Bool.false_eq_true, if_false, if_true, Int.cast_ofNat_Int, decide_true, decide_false, reduceCtorEq, Nat.reduceEqDiff, Nat.reduceAdd, ne_eq, not_false_eq_true, Option.map_some, Option.bind_some, Option.map_none, Option.bind_none, true_and, and_true, Bool.not_true, Bool.not_false, Nat.reduceLeDiff, Nat.reduceMul, Nat.reduceSub, Nat.le_refl, Int.reduceToNat, Int.reduceLT, Int.reduceLE, Nat.one_mul, Nat.mul_one, e2]
      · refine ⟨False.elim, fun h => ?_⟩
        have := (nx.1 (h.take _)).1
        omega
    · have e2 : decide (l[i].2 ≤ l[i].1) = false := decide_eq_false g2
      simp only [go_sem, Bool.false_and, new_set, Int.reduceBEq, Int.reduceBNe, Int.reduceNeg, not_true_eq_false, beq_self_eq_true, bne_self_eq_false, Bool.false_eq_true, if_false, if_true, Int.cast_ofNat_Int, decide_true, decide_false, reduceCtorEq, Nat.reduceEqDiff, Nat.reduceAdd, ne_eq, not_false_eq_true, Option.map_some, Option.bind_some, Option.map_none, Option.bind_none, true_and, and_true, Bool.not_true, Bool.not_false, Nat.reduceLeDiff, Nat.reduceMul, Nat.reduceSub, Nat.le_refl, Int.reduceToNat, Int.reduceLT, Int.reduceLE, Nat.one_mul, Nat.mul_one, e2]
      by_cases g3 : 0 < i
      · have e3 : decide (0 < (i : Int)) = true := by rw [decide_eq_true_eq]; omega
        have b1 := back1 (show i < 1000000 by omega) g3
        obtain ⟨b', o', d1, d2, d3, -⟩ := hs.elem spV_len (k := .i64) (show i - 1 < l.length by omega)
        have c3 : aLoad false 1 _ (.pointer (some ⟨b', o' + 1, none⟩)) = some (.int .i64 l[i - 1].2) := d3 1 (by omega)
        simp only [go_sem, Bool.false_and, new_set, Int.reduceBEq, Int.reduceBNe, Int.reduceNeg, not_true_eq_false, beq_self_eq_true, bne_self_eq_false, Bool.false_eq_true, if_false, if_true, Int.cast_ofNat_Int, decide_true, decide_false, reduceCtorEq, Nat.reduceEqDiff, Nat.reduceAdd, ne_eq, not_false_eq_true, Option.map_some, Option.bind_some, Option.map_none, Option.bind_none, true_and, and_true, Bool.not_true, Bool.not_false, Nat.reduceLeDiff, Nat.reduceMul, Nat.reduceSub, Nat.le_refl, Int.reduceToNat, Int.reduceLT, Int.reduceLE, Nat.one_mul, Nat.mul_one, e3, a1, c1, b1, d1, c3]
        refine gT.of (fun g4' => ?_) (fun g4' => ?_) <;> (have g4 := g4'; try simp only [decide_eq_true_eq, decide_eq_false_iff_not, beq_iff_eq, bne_iff_ne, beq_eq_false_iff_ne, ne_eq, Bool.not_eq_true', Bool.not_eq_false', bne_eq_false_iff_eq, Int.not_lt, Int.not_le] at g4)
        · simp only [go_sem, Bool.false_and, new_set, Int.reduceBEq, Int.reduceBNe, Int.reduceNeg, not_true_eq_false, beq_self_eq_true, bne_self_eq_false, Bool.false_eq_true, if_false, if_true, Int.cast_ofNat_Int, decide_true, decide_false, reduceCtorEq, Nat.reduceEqDiff, Nat.reduceAdd, ne_eq, not_false_eq_true, Option.map_some, Option.bind_some, Option.map_none, Option.bind_none, true_and, and_true, Bool.not_true, Bool.not_false, Nat.reduceLeDiff, Nat.reduceMul, Nat.reduceSub, Nat.le_refl, Int.reduceToNat, Int.reduceLT, Int.reduceLE, Nat.one_mul, Nat.mul_one, g4']
          · refine ⟨False.elim, fun h => ?_⟩
            have := (nx.1 (h.take _)).2 g3
            omega
        · simp only [go_sem, Bool.false_and, new_set, Int.reduceBEq, Int.reduceBNe, Int.reduceNeg, not_true_eq_false, beq_self_eq_true, bne_self_eq_false, Bool.false_eq_true, if_false, if_true, Int.cast_ofNat_Int, decide_true, decide_false, reduceCtorEq, Nat.reduceEqDiff, Nat.reduceAdd, ne_eq, not_false_eq_true, Option.map_some, Option.bind_some, Option.map_none, Option.bind_none, true_and, and_true, Bool.not_true, Bool.not_false, Nat.reduceLeDiff, Nat.reduceMul, Nat.reduceSub, Nat.le_refl, Int.reduceToNat, Int.reduceLT, Int.reduceLE, Nat.one_mul, Nat.mul_one, g4', s1]
          exact ⟨l.length - (i + 1), by omega, i + 1, by omega, rfl, rfl, nx.2 ⟨by omega, fun _ => by omega⟩⟩
      · have e3 : decide (0 < (i : Int)) = false := by rw [decide_eq_false_iff_not]; omega
        simp only [go_sem, Bool.false_and, new_set, Int.reduceBEq, Int.reduceBNe, Int.reduceNeg, not_true_eq_false, beq_self_eq_true, bne_self_eq_false, Bool.false_eq_true, if_false, if_true, Int.cast_ofNat_Int, decide_true, decide_false, reduceCtorEq, Nat.reduceEqDiff, Nat.reduceAdd, ne_eq, not_false_eq_true, Option.map_some, Option.bind_some, Option.map_none, Option.bind_none, true_and, and_true, Bool.not_true, Bool.not_false, Nat.reduceLeDiff, Nat.reduceMul, Nat.reduceSub, Nat.le_refl, Int.reduceToNat, Int.reduceLT, Int.reduceLE, Nat.one_mul, Nat.mul_one, e3, s1]
        exact ⟨l.length - (i + 1), by omega, i + 1, by omega, rfl, rfl, nx.2 ⟨by omega, fun h => absurd h g3⟩⟩
  · have : i = l.length := by omega
    subst this
    rw [List.take_length] at hrt
    simp only [go_sem, Bool.false_and, new_set, Int.reduceBEq, Int.reduceBNe, Int.reduceNeg, not_true_eq_false, beq_self_eq_true, bne_self_eq_false, Bool.false_eq_true, if_false, if_true, Int.cast_ofNat_Int, decide_true, decide_false, reduceCtorEq, Nat.reduceEqDiff, Nat.reduceAdd, ne_eq, not_false_eq_true, Option.map_some, Option.bind_some, Option.map_none, Option.bind_none, true_and, and_true, Bool.not_true, Bool.not_false, Nat.reduceLeDiff, Nat.reduceMul, Nat.reduceSub, Nat.le_refl, Int.reduceToNat, Int.reduceLT, Int.reduceLE, Nat.one_mul, Nat.mul_one, g1']
    exact ⟨fun _ => hrt, fun _ => trivial⟩

theorem refHas {l : List Sp} {v : Value} {x : Int} (hs : Sl m 2 l.length (l.flatMap spV) v) (hl : l.length < 1000000) :
    WC R F.ref05_Has [v, .int .i64 x] m fun r m' => r = .bool (hasS l x) ∧ m' = m := by
  refine WC.of R.ref05_Has rfl ?_
  simp only [RC.ref05_Has, go_sem, Bool.false_and, new_set, Int.reduceBEq, Int.reduceBNe, Int.reduceNeg, not_true_eq_false, beq_self_eq_true, bne_self_eq_false, Bool.false_eq_true, if_false, if_true, Int.cast_ofNat_Int, decide_true, decide_false, reduceCtorEq, Nat.reduceEqDiff, Nat.reduceAdd, ne_eq, not_false_eq_true, Option.map_some, Option.bind_some, Option.map_none, Option.bind_none, true_and, and_true, Bool.not_true, Bool.not_false, Nat.reduceLeDiff, Nat.reduceMul, Nat.reduceSub, Nat.le_refl, Int.reduceToNat, Int.reduceLT, Int.reduceLE, Nat.one_mul, Nat.mul_one]
  refine WL.of (fun n e m' => ∃ i : Nat, i ≤ l.length ∧ n = l.length - i ∧ m' = m ∧ e = [(0, v), (1, .int .i64 x), (5, .int .i64 i)] ∧ hasS (l.take i) x = false) l.length
    ⟨0, by omega, by omega, rfl, by simp only [go_sem, Bool.false_and, new_set, Int.reduceBEq, Int.reduceBNe, Int.reduceNeg, not_true_eq_false, beq_self_eq_true, bne_self_eq_false, Bool.false_eq_true, if_false, if_true, Int.cast_ofNat_Int, decide_true, decide_false, reduceCtorEq, Nat.reduceEqDiff, Nat.reduceAdd, ne_eq, not_false_eq_true, Option.map_some, Option.bind_some, Option.map_none, Option.bind_none, true_and, and_true, Bool.not_true, Bool.not_false, Nat.reduceLeDiff, Nat.reduceMul, Nat.reduceSub, Nat.le_refl, Int.reduceToNat, Int.reduceLT, Int.reduceLE, Nat.one_mul, Nat.mul_one] <;> rfl, rfl⟩ ?_
  rintro _ _ _ ⟨i, hi, rfl, rfl, rfl, hno⟩
  simp only [RB.ref05_Has_1, go_sem, Bool.false_and, new_set, Int.reduceBEq, Int.reduceBNe, Int.reduceNeg, not_true_eq_false, beq_self_eq_true, bne_self_eq_false, Bool.false_eq_true, if_false, if_true, Int.cast_ofNat_Int, decide_true, decide_false, reduceCtorEq, Nat.reduceEqDiff, Nat.reduceAdd, ne_eq, not_false_eq_true, Option.map_some, Option.bind_some, Option.map_none, Option.bind_none, true_and, and_true, Bool.not_true, Bool.not_false, Nat.reduceLeDiff, Nat.reduceMul, Nat.reduceSub, Nat.le_refl, Int.reduceToNat, Int.reduceLT, Int.reduceLE, Nat.one_mul, Nat.mul_one, hs.len]
  refine gT.of (fun g1' => ?_) (fun g1' => ?_) <;> (have g1 := g1'; try simp only [decide_eq_true_eq, decide_eq_false_iff_not, beq_iff_eq, bne_iff_ne, beq_eq_false_iff_ne, ne_eq, Bool.not_eq_true', Bool.not_eq_false', bne_eq_false_iff_eq, Int.not_lt, Int.not_le] at g1)
  · have hil : i < l.length := by omega
    obtain ⟨b, o, a1, a2, a3, -⟩ := hs.elem spV_len (k := .i64) hil
    have c1 : aLoad false 1 _ (.pointer (some ⟨b, o + 0, none⟩)) = some (.int .i64 l[i].1) := a3 0 (by omega)
    have c2 : aLoad false 1 _ (.pointer (some ⟨b, o + 1, none⟩)) = some (.int .i64 l[i].2) := a3 1 (by omega)
    have s1 := step1 (show i < 1000000 by omega)
    have tk : hasS (l.take (i + 1)) x = (decide (l[i].1 ≤ x) && decide (x < l[i].2)) := by
      rw [List.take_succ_eq_append_getElem hil]
      unfold hasS at hno ⊢
      rw [List.any_append, hno]; simp
    simp only [go_sem, Bool.false_and, new_set, Int.reduceBEq, Int.reduceBNe, Int.reduceNeg, not_true_eq_false, beq_self_eq_true, bne_self_eq_false, Bool.false_eq_true, if_false, if_true, Int.cast_ofNat_Int, decide_true, decide_false, reduceCtorEq, Nat.reduceEqDiff, Nat.reduceAdd, ne_eq, not_false_eq_true, Option.map_some, Option.bind_some, Option.map_none, Option.bind_none, true_and, and_true, Bool.not_true, Bool.not_false, Nat.reduceLeDiff, Nat.reduceMul, Nat.reduceSub, Nat.le_refl, Int.reduceToNat, Int.reduceLT, Int.reduceLE, Nat.one_mul, Nat.mul_one, g1', a1, c1, c2]
    by_cases g2 : l[i].1 ≤ x
    · have e2 : decide (l[i].1 ≤ x) = true := decide_eq_true g2
      simp only [go_sem, Bool.false_and, new_set, Int.reduceBEq, Int.reduceBNe, Int.reduceNeg, not_true_eq_false, beq_self_eq_true, bne_self_eq_false, Bool.false_eq_true, if_false, if_true, Int.cast_ofNat_Int, decide_true, decide_false, reduceCtorEq, Nat.reduceEqDiff, Nat.reduceAdd, ne_eq, not_false_eq_true, Option.map_some, Option.bind_some, Option.map_none, Option.bind_none, true_and, and_true, Bool.not_true, Bool.not_false, Nat.reduceLeDiff, Nat.reduceMul, Nat.reduceSub, Nat.le_refl, Int.reduceToNat, Int.reduceLT, Int.reduceLE, Nat.one_mul, Nat.mul_one, e2, a1, c1, c2]
      refine gT.of (fun g3' => ?_) (fun g3' => ?_) <;> (have g3 := g3'; try simp only [decide_eq_true_eq, decide_eq_false_iff_not, beq_iff_eq, bne_iff_ne, beq_eq_false_iff_ne, ne_eq, Bool.not_eq_true', Bool.not_eq_false', bne_eq_false_iff_eq, Int.not_lt, Int.not_le] at g3)
      · simp only [go_sem, Bool.false_and, new_set, Int.reduceBEq, Int.reduceBNe, Int.reduceNeg, not_true_eq_false, beq_self_eq_true, bne_self_eq_false, Bool.false_eq_true, if_false, if_true, Int.cast_ofNat_Int, decide_true, decide_false, reduceCtorEq, Nat.reduceEqDiff, Nat.reduceAdd, ne_eq, not_false_eq_true, Option.map_some, Option.bind_some, Option.map_none, Option.bind_none, true_and, and_true, Bool.not_true, Bool.not_false, Nat.reduceLeDiff, Nat.reduceMul, Nat.reduceSub, Nat.le_refl, Int.reduceToNat, Int.reduceLT, Int.reduceLE, Nat.one_mul, Nat.mul_one, g3']
        rw [e2, g3'] at tk
        have : hasS l x = true := by
          have tk := hasS_iff.1 tk
          rw [hasS_iff]
          obtain ⟨s, h, h1⟩ := tk
          exact ⟨s, List.mem_of_mem_take h, h1⟩
        rw [this]
      · rw [e2, g3'] at tk
        simp only [go_sem, Bool.false_and, new_set, Int.reduceBEq, Int.reduceBNe, Int.reduceNeg, not_true_eq_false, beq_self_eq_true, bne_self_eq_false, Bool.false_eq_true, if_false, if_true, Int.cast_ofNat_Int, decide_true, decide_false, reduceCtorEq, Nat.reduceEqDiff, Nat.reduceAdd, ne_eq, not_false_eq_true, Option.map_some, Option.bind_some, Option.map_none, Option.bind_none, true_and, and_true, Bool.not_true, Bool.not_false, Nat.reduceLeDiff, Nat.reduceMul, Nat.reduceSub, Nat.le_refl, Int.reduceToNat, Int.reduceLT, Int.reduceLE, Nat.one_mul, Nat.mul_one, g3', s1]
        exact ⟨l.length - (i + 1), by omega, i + 1, by omega, rfl, rfl, tk⟩
    · have e2 : decide (l[i].1 ≤ x) = false := decide_eq_false g2
      rw [e2] at tk
      simp only [go_sem, Bool.false_and, new_set, Int.reduceBEq, Int.reduceBNe, Int.reduceNeg, not_true_eq_false, beq_self_eq_true, bne_self_eq_false, Bool.false_eq_true, if_false, if_true, Int.cast_ofNat_Int, decide_true, decide_false, reduceCtorEq, Nat.reduceEqDiff, Nat.reduceAdd, ne_eq, not_false_eq_true, Option.map_some, Option.bind_some, Option.map_none, Option.bind_none, true_and, and_true, Bool.not_true, Bool.not_false, Nat.reduceLeDiff, Nat.reduceMul, Nat.reduceSub, Nat.le_refl, Int.reduceToNat, Int.reduceLT, Int.reduceLE, Nat.one_mul, Nat.mul_one, e2, s1]
      exact ⟨l.length - (i + 1), by omega, i + 1, by omega, rfl, rfl, tk⟩
  · have : i = l.length := by omega
    subst this
    rw [List.take_length] at hno
    simp only [go_sem, Bool.false_and, new_set, Int.reduceBEq, Int.reduceBNe, Int.reduceNeg, not_true_eq_false, beq_self_eq_true, bne_self_eq_false, Bool.false_eq_true, if_false, if_true, Int.cast_ofNat_Int, decide_true, decide_false, reduceCtorEq, Nat.reduceEqDiff, Nat.reduceAdd, ne_eq, not_false_eq_true, Option.map_some, Option.bind_some, Option.map_none, Option.bind_none, true_and, and_true, Bool.not_true, Bool.not_false, Nat.reduceLeDiff, Nat.reduceMul, Nat.reduceSub, Nat.le_refl, Int.reduceToNat, Int.reduceLT, Int.reduceLE, Nat.one_mul, Nat.mul_one, g1']
    rw [hno]

theorem spCheck {l : List Sp} {v : Value} (hs : Sl m 2 l.length (l.flatMap spV) v) (hb : SlLt m v) (hl : l.length < 1000000) :
    WC R F.spans_Check [v] m fun r m' => ((Rt l ∧ r = .int .i64 0) ∨ (¬ Rt l ∧ r = .int .i64 1)) ∧ Ext m m' := by
  refine WC.of R.spans_Check rfl ?_
  simp only [RC.spans_Check, go_sem, Bool.false_and, new_set, Int.reduceBEq, Int.reduceBNe, Int.reduceNeg, not_true_eq_false, beq_self_eq_true, bne_self_eq_false, Bool.false_eq_true, if_false, if_true, Int.cast_ofNat_Int, decide_true, decide_false, reduceCtorEq, Nat.reduceEqDiff, Nat.reduceAdd, ne_eq, not_false_eq_true, Option.map_some, Option.bind_some, Option.map_none, Option.bind_none, true_and, and_true, Bool.not_true, Bool.not_false, Nat.reduceLeDiff, Nat.reduceMul, Nat.reduceSub, Nat.le_refl, Int.reduceToNat, Int.reduceLT, Int.reduceLE, Nat.one_mul, Nat.mul_one, hs.len]
  refine WL.of (fun n e m' => ∃ i : Nat, i ≤ l.length ∧ n = l.length - i ∧ Ext m m' ∧ e = [(0, v), (5, v), (6, .int .i64 l.length), (7, .int .i64 i)] ∧ Rt (l.take i)) l.length
    ⟨0, by omega, by omega, Ext.refl _, by simp only [go_sem, Bool.false_and, new_set, Int.reduceBEq, Int.reduceBNe, Int.reduceNeg, not_true_eq_false, beq_self_eq_true, bne_self_eq_false, Bool.false_eq_true, if_false, if_true, Int.cast_ofNat_Int, decide_true, decide_false, reduceCtorEq, Nat.reduceEqDiff, Nat.reduceAdd, ne_eq, not_false_eq_true, Option.map_some, Option.bind_some, Option.map_none, Option.bind_none, true_and, and_true, Bool.not_true, Bool.not_false, Nat.reduceLeDiff, Nat.reduceMul, Nat.reduceSub, Nat.le_refl, Int.reduceToNat, Int.reduceLT, Int.reduceLE, Nat.one_mul, Nat.mul_one] <;> rfl, Rt.nil⟩ ?_
  rintro _ _ m1 ⟨i, hi, rfl, hx, rfl, hrt⟩
  simp only [RB.spans_Check_1, go_sem, Bool.false_and, new_set, Int.reduceBEq, Int.reduceBNe, Int.reduceNeg, not_true_eq_false, beq_self_eq_true, bne_self_eq_false, Bool.false_eq_true, if_false, if_true, Int.cast_ofNat_Int, decide_true, decide_false, reduceCtorEq, Nat.reduceEqDiff, Nat.reduceAdd, ne_eq, not_false_eq_true, Option.map_some, Option.bind_some, Option.map_none, Option.bind_none, true_and, and_true, Bool.not_true, Bool.not_false, Nat.reduceLeDiff, Nat.reduceMul, Nat.reduceSub, Nat.le_refl, Int.reduceToNat, Int.reduceLT, Int.reduceLE, Nat.one_mul, Nat.mul_one]
  refine gT.of (fun g1' => ?_) (fun g1' => ?_) <;> (have g1 := g1'; try simp only [decide_eq_true_eq, decide_eq_false_iff_not, beq_iff_eq, bne_iff_ne, beq_eq_false_iff_ne, ne_eq, Bool.not_eq_true', Bool.not_eq_false', bne_eq_false_iff_eq, Int.not_lt, Int.not_le] at g1)
  · have hil : i < l.length := by omega
    have hs1 := hs.keep hb hx
    obtain ⟨b, o, a1, a2, a3, -⟩ := hs1.elem spV_len (k := .i64) hil
    have nx := Rt.next hil hrt
    have s1 := step1 (show i < 1000000 by omega)
    simp only [go_sem, Bool.false_and, new_set, Int.reduceBEq, Int.reduceBNe, Int.reduceNeg, not_true_eq_false, beq_self_eq_true, bne_self_eq_false, Bool.false_eq_true, if_false, if_true, Int.cast_ofNat_Int, decide_true, decide_false, reduceCtorEq, Nat.reduceEqDiff, Nat.reduceAdd, ne_eq, not_false_eq_true, Option.map_some, Option.bind_some, Option.map_none, Option.bind_none, true_and, and_true, Bool.not_true, Bool.not_false, Nat.reduceLeDiff, Nat.reduceMul, Nat.reduceSub, Nat.le_refl, Int.reduceToNat, Int.reduceLT, Int.reduceLE, Nat.one_mul, Nat.mul_one, g1', a1, a2]
    have hxx : Ext m1 (m1.new (.cells [.int .i64 l[i].1, .int .i64 l[i].2] (some 2))) := Ext.new
    have hbx : Bk (m1.new (.cells [.int .i64 l[i].1, .int .i64 l[i].2] (some 2))) m1.next [.int .i64 l[i].1, .int .i64 l[i].2] 2 := Bk.new
    have hst : aStore 2 (m1.new (.cells [(.int .i64 0), (.int .i64 0)] (some 2))) (.pointer (some ⟨m1.next, 0, none⟩)) (.agg (spV l[i]).toArray) = some (m1.new (.cells [.int .i64 l[i].1, .int .i64 l[i].2] (some 2))) := by
      simp only [spV]
      simp only [go_sem, Bool.false_and, new_set, Int.reduceBEq, Int.reduceBNe, Int.reduceNeg, not_true_eq_false, beq_self_eq_true, bne_self_eq_false, Bool.false_eq_true, if_false, if_true, Int.cast_ofNat_Int, decide_true, decide_false, reduceCtorEq, Nat.reduceEqDiff, Nat.reduceAdd, ne_eq, not_false_eq_true, Option.map_some, Option.bind_some, Option.map_none, Option.bind_none, true_and, and_true, Bool.not_true, Bool.not_false, Nat.reduceLeDiff, Nat.reduceMul, Nat.reduceSub, Nat.le_refl, Int.reduceToNat, Int.reduceLT, Int.reduceLE, Nat.one_mul, Nat.mul_one, load_w, load_a, store_b, idxS_b, set_blk, new_blk, set_next, new_next, len_s, ldW_c, ldA_c, stB_c, toArr_one, size_one, toList_toArr, size_toArr, List.length_cons, List.length_nil, List.getElem?_cons_zero, List.getElem?_cons_succ, Nat.zero_add, Nat.add_zero]
    simp only [go_sem, Bool.false_and, new_set, Int.reduceBEq, Int.reduceBNe, Int.reduceNeg, not_true_eq_false, beq_self_eq_true, bne_self_eq_false, Bool.false_eq_true, if_false, if_true, Int.cast_ofNat_Int, decide_true, decide_false, reduceCtorEq, Nat.reduceEqDiff, Nat.reduceAdd, ne_eq, not_false_eq_true, Option.map_some, Option.bind_some, Option.map_none, Option.bind_none, true_and, and_true, Bool.not_true, Bool.not_false, Nat.reduceLeDiff, Nat.reduceMul, Nat.reduceSub, Nat.le_refl, Int.reduceToNat, Int.reduceLT, Int.reduceLE, Nat.one_mul, Nat.mul_one, hst]
    generalize m1.new (.cells [.int .i64 l[i].1, .int .i64 l[i].2] (some 2)) = m5 at hbx hxx ⊢
    have c3 : aLoad true 2 m5 (.pointer (some ⟨m1.next, 0, none⟩)) = some (.agg (spV l[i]).toArray) := by simp only [go_sem, Bool.false_and, new_set, Int.reduceBEq, Int.reduceBNe, Int.reduceNeg, not_true_eq_false, beq_self_eq_true, bne_self_eq_false, Bool.false_eq_true, if_false, if_true, Int.cast_ofNat_Int, decide_true, decide_false, reduceCtorEq, Nat.reduceEqDiff, Nat.reduceAdd, ne_eq, not_false_eq_true, Option.map_some, Option.bind_some, Option.map_none, Option.bind_none, true_and, and_true, Bool.not_true, Bool.not_false, Nat.reduceLeDiff, Nat.reduceMul, Nat.reduceSub, Nat.le_refl, Int.reduceToNat, Int.reduceLT, Int.reduceLE, Nat.one_mul, Nat.mul_one, load_w, load_a, store_b, idxS_b, set_blk, new_blk, set_next, new_next, len_s, ldW_c, ldA_c, stB_c, toArr_one, size_one, toList_toArr, size_toArr, List.length_cons, List.length_nil, List.getElem?_cons_zero, List.getElem?_cons_succ, Nat.zero_add, Nat.add_zero, hbx.at_]; rfl
    simp only [go_sem, Bool.false_and, new_set, Int.reduceBEq, Int.reduceBNe, Int.reduceNeg, not_true_eq_false, beq_self_eq_true, bne_self_eq_false, Bool.false_eq_true, if_false, if_true, Int.cast_ofNat_Int, decide_true, decide_false, reduceCtorEq, Nat.reduceEqDiff, Nat.reduceAdd, ne_eq, not_false_eq_true, Option.map_some, Option.bind_some, Option.map_none, Option.bind_none, true_and, and_true, Bool.not_true, Bool.not_false, Nat.reduceLeDiff, Nat.reduceMul, Nat.reduceSub, Nat.le_refl, Int.reduceToNat, Int.reduceLT, Int.reduceLE, Nat.one_mul, Nat.mul_one, c3]
    refine gC.of spEmpty ?_
    rintro _ m6 ⟨rfl, hx6⟩
    have hx06 := hx.trans (hxx.trans hx6)
    have hs6 := hs.keep hb hx06
    have hb6 := hbx.keep hx6
    have c1 : aLoad false 1 m6 (.pointer (some ⟨m1.next, 0, none⟩)) = some (.int .i64 l[i].1) := by simp only [go_sem, Bool.false_and, new_set, Int.reduceBEq, Int.reduceBNe, Int.reduceNeg, not_true_eq_false, beq_self_eq_true, bne_self_eq_false, Bool.false_eq_true, if_false, if_true, Int.cast_ofNat_Int, decide_true, decide_false, reduceCtorEq, Nat.reduceEqDiff, Nat.reduceAdd, ne_eq, not_false_eq_true, Option.map_some, Option.bind_some, Option.map_none, Option.bind_none, true_and, and_true, Bool.not_true, Bool.not_false, Nat.reduceLeDiff, Nat.reduceMul, Nat.reduceSub, Nat.le_refl, Int.reduceToNat, Int.reduceLT, Int.reduceLE, Nat.one_mul, Nat.mul_one, load_w, load_a, store_b, idxS_b, set_blk, new_blk, set_next, new_next, len_s, ldW_c, ldA_c, stB_c, toArr_one, size_one, toList_toArr, size_toArr, List.length_cons, List.length_nil, List.getElem?_cons_zero, List.getElem?_cons_succ, Nat.zero_add, Nat.add_zero, hb6.at_]
    by_cases g2 : l[i].2 ≤ l[i].1
    · have e2 : decide (l[i].2 ≤ l[i].1) = true := decide_eq_true g2
      simp only [go_sem, Bool.false_and, new_set, Int.reduceBEq, Int.reduceBNe, Int.reduceNeg, not_true_eq_false, beq_self_eq_true, bne_self_eq_false, Bool.false_eq_true, if_false, if_true, Int.cast_ofNat_Int, decide_true, decide_false, reduceCtorEq, Nat.reduceEqDiff, Nat.reduceAdd, ne_eq, not_false_eq_true, Option.map_some, Option.bind_some, Option.map_none, Option.bind_none, true_and, and_true, Bool.not_true, Bool.not_false, Nat.reduceLeDiff, Nat.reduceMul, Nat.reduceSub, Nat.le_refl, Int.reduceToNat, Int.reduceLT, Int.reduceLE, Nat.one_mul, Nat.mul_one, e2]
      refine ⟨.inr ?_, hx06⟩
      intro h
      have := (nx.1 (h.take _)).1
      omega
    · have e2 : decide (l[i].2 ≤ l[i].1) = false := decide_eq_false g2
      simp only [go_sem, Bool.false_and, new_set, Int.reduceBEq, Int.reduceBNe, Int.reduceNeg, not_true_eq_false, beq_self_eq_true, bne_self_eq_false, Bool.false_eq_true, if_false, if_true, Int.cast_ofNat_Int, decide_true, decide_false, reduceCtorEq, Nat.reduceEqDiff, Nat.reduceAdd, ne_eq, not_false_eq_true, Option.map_some, Option.bind_some, Option.map_none, Option.bind_none, true_and, and_true, Bool.not_true, Bool.not_false, Nat.reduceLeDiff, Nat.reduceMul, Nat.reduceSub, Nat.le_refl, Int.reduceToNat, Int.reduceLT, Int.reduceLE, Nat.one_mul, Nat.mul_one, e2]
      by_cases g3 : 0 < i
      · have e3 : decide (0 < (i : Int)) = true := by rw [decide_eq_true_eq]; omega
        have b1 := back1 (show i < 1000000 by omega) g3
        obtain ⟨b', o', d1, d2, d3, -⟩ := hs6.elem spV_len (k := .i64) (show i - 1 < l.length by omega)
        have c3 : aLoad false 1 _ (.pointer (some ⟨b', o' + 1, none⟩)) = some (.int .i64 l[i - 1].2) := d3 1 (by omega)
        simp only [go_sem, Bool.false_and, new_set, Int.reduceBEq, Int.reduceBNe, Int.reduceNeg, not_true_eq_false, beq_self_eq_true, bne_self_eq_false, Bool.false_eq_true, if_false, if_true, Int.cast_ofNat_Int, decide_true, decide_false, reduceCtorEq, Nat.reduceEqDiff, Nat.reduceAdd, ne_eq, not_false_eq_true, Option.map_some, Option.bind_some, Option.map_none, Option.bind_none, true_and, and_true, Bool.not_true, Bool.not_false, Nat.reduceLeDiff, Nat.reduceMul, Nat.reduceSub, Nat.le_refl, Int.reduceToNat, Int.reduceLT, Int.reduceLE, Nat.one_mul, Nat.mul_one, e3, c1, b1, d1, c3]
        refine gT.of (fun g4' => ?_) (fun g4' => ?_) <;> (have g4 := g4'; try simp only [decide_eq_true_eq, decide_eq_false_iff_not, beq_iff_eq, bne_iff_ne, beq_eq_false_iff_ne, ne_eq, Bool.not_eq_true', Bool.not_eq_false', bne_eq_false_iff_eq, Int.not_lt, Int.not_le] at g4)
        · simp only [go_sem, Bool.false_and, new_set, Int.reduceBEq, Int.reduceBNe, Int.reduceNeg, not_true_eq_false, beq_self_eq_true, bne_self_eq_false, Bool.false_eq_true, if_false, if_true, Int.cast_ofNat_Int, decide_true, decide_false, reduceCtorEq, Nat.reduceEqDiff, Nat.reduceAdd, ne_eq, not_false_eq_true, Option.map_some, Option.bind_some, Option.map_none, Option.bind_none, true_and, and_true, Bool.not_true, Bool.not_false, Nat.reduceLeDiff, Nat.reduceMul, Nat.reduceSub, Nat.le_refl, Int.reduceToNat, Int.reduceLT, Int.reduceLE, Nat.one_mul, Nat.mul_one, g4']
          refine ⟨.inr ?_, hx06⟩
          intro h
          have := (nx.1 (h.take _)).2 g3
          omega
        · simp only [go_sem, Bool.false_and, new_set, Int.reduceBEq, Int.reduceBNe, Int.reduceNeg, not_true_eq_false, beq_self_eq_true, bne_self_eq_false, Bool.false_eq_true, if_false, if_true, Int.cast_ofNat_Int, decide_true, decide_false, reduceCtorEq, Nat.reduceEqDiff, Nat.reduceAdd, ne_eq, not_false_eq_true, Option.map_some, Option.bind_some, Option.map_none, Option.bind_none, true_and, and_true, Bool.not_true, Bool.not_false, Nat.reduceLeDiff, Nat.reduceMul, Nat.reduceSub, Nat.le_refl, Int.reduceToNat, Int.reduceLT, Int.reduceLE, Nat.one_mul, Nat.mul_one, g4', s1]
          exact ⟨l.length - (i + 1), by omega, i + 1, by omega, rfl, hx06, rfl, nx.2 ⟨by omega, fun _ => by omega⟩⟩
      · have e3 : decide (0 < (i : Int)) = false := by rw [decide_eq_false_iff_not]; omega
        simp only [go_sem, Bool.false_and, new_set, Int.reduceBEq, Int.reduceBNe, Int.reduceNeg, not_true_eq_false, beq_self_eq_true, bne_self_eq_false, Bool.false_eq_true, if_false, if_true, Int.cast_ofNat_Int, decide_true, decide_false, reduceCtorEq, Nat.reduceEqDiff, Nat.reduceAdd, ne_eq, not_false_eq_true, Option.map_some, Option.bind_some, Option.map_none, Option.bind_none, true_and, and_true, Bool.not_true, Bool.not_false, Nat.reduceLeDiff, Nat.reduceMul, Nat.reduceSub, Nat.le_refl, Int.reduceToNat, Int.reduceLT, Int.reduceLE, Nat.one_mul, Nat.mul_one, e3, s1]
        exact ⟨l.length - (i + 1), by omega, i + 1, by omega, rfl, hx06, rfl, nx.2 ⟨by omega, fun h => absurd h g3⟩⟩
  · have : i = l.length := by omega
    subst this
    rw [List.take_length] at hrt
    simp only [go_sem, Bool.false_and, new_set, Int.reduceBEq, Int.reduceBNe, Int.reduceNeg, not_true_eq_false, beq_self_eq_true, bne_self_eq_false, Bool.false_eq_true, if_false, if_true, Int.cast_ofNat_Int, decide_true, decide_false, reduceCtorEq, Nat.reduceEqDiff, Nat.reduceAdd, ne_eq, not_false_eq_true, Option.map_some, Option.bind_some, Option.map_none, Option.bind_none, true_and, and_true, Bool.not_true, Bool.not_false, Nat.reduceLeDiff, Nat.reduceMul, Nat.reduceSub, Nat.le_refl, Int.reduceToNat, Int.reduceLT, Int.reduceLE, Nat.one_mul, Nat.mul_one, g1']
    exact ⟨.inl hrt, hx⟩
end Go.Am


/- Cuts of slices. -/
set_option linter.unusedVariables false
set_option linter.unusedSimpArgs false
namespace Go.Am

/-- A slice that may be cut. -/
def Cut (u : Nat) (m : Mem) (v : Value) : Prop := ∀ b o n c, v = .slice (some ⟨b, o, none⟩) n c → unitOk u m b = true
theorem Cutable.cut {u : Nat} {m : Mem} {v : Value} (h : Cutable m v) : Cut u m v := fun b o n c e => by subst e; exact h.unit
theorem Own.cut {m0 m : Mem} {u n : Nat} {cs : List Value} {v : Value} (h : Own m0 m u n cs v) : Cut u m v := by
  intro b o n' c e
  cases h with
  | nil => cases e
  | «at» hb hb2 hn hm hl hcs h1 => cases e; exact unitOk_own hm
theorem Cut.keep {u : Nat} {m m' : Mem} {v : Value} (h : Cut u m v) (hb : SlLt m v) (hx : Ext m m') : Cut u m' v := by
  intro b o n c e
  have := h b o n c e
  subst e
  unfold unitOk at this ⊢
  rw [hx.same b hb]; exact this

theorem aCells_split {m : Mem} {b o n k : Nat} {cs : List Value} (h : aCells m b o n = some cs) (hk : k ≤ n) : aCells m b o k = some (cs.take k) ∧ aCells m b (o + k) (n - k) = some (cs.drop k) := by
  unfold aCells at h ⊢
  split at h
  · rename_i c w hm
    split at h
    · rename_i hle
      cases h
      constructor
      · rw [if_pos (by omega), List.take_take, Nat.min_eq_left hk]
      · rw [if_pos (by omega), ← List.drop_drop, List.drop_take]
    · cases h
  · cases h

theorem Sl.to {m : Mem} {u n : Nat} {cs : List Value} {v : Value} (h : Sl m u n cs v) (hc : Cut u m v) {k : IntKind} {i : Nat} (hi : i ≤ n) :
    ∃ v', aSub u m v none (some (.int k i)) none = some v' ∧ Sl m u i (cs.take (i * u)) v' ∧ (SlLt m v → SlLt m v') ∧ Cut u m v' := by
  cases h with
  | nil h hcs =>
    subst hcs
    have : i = 0 := by omega
    subst this
    exact ⟨.slice none 0 0, rfl, .nil rfl (by simp), id, fun _ _ _ _ e => by cases e⟩
  | @«at» b o c hnc h =>
    have hu := hc b o n c rfl
    refine ⟨.slice (some ⟨b, o, none⟩) i c, sub_to hu (by omega), .at (by omega) (aCells_split h (Nat.mul_le_mul_right _ hi)).1, id, fun _ _ _ _ e => by cases e; exact hu⟩

theorem Sl.from {m : Mem} {u n : Nat} {cs : List Value} {v : Value} (h : Sl m u n cs v) (hc : Cut u m v) {k : IntKind} {i : Nat} (hi : i ≤ n) :
    ∃ v', aSub u m v (some (.int k i)) none none = some v' ∧ Sl m u (n - i) (cs.drop (i * u)) v' ∧ (SlLt m v → SlLt m v') ∧ Cut u m v' := by
  cases h with
  | nil h hcs =>
    subst hcs
    have : i = 0 := by omega
    subst this
    exact ⟨.slice none 0 0, rfl, .nil (by omega) (by simp), id, fun _ _ _ _ e => by cases e⟩
  | @«at» b o c hnc h =>
    have hu := hc b o n c rfl
    refine ⟨.slice (some ⟨b, o + i * u, none⟩) (n - i) (c - i), sub_from hu hi hnc, .at (by omega) ?_, id, fun _ _ _ _ e => by cases e; exact hu⟩
    rw [Nat.sub_mul]
    exact (aCells_split h (Nat.mul_le_mul_right _ hi)).2

/-- Full: no room behind its last one. -/
def Full (v : Value) : Prop := ∀ a p q, v = .slice a p q → p = q
theorem app_full {u by_ : Nat} {m m' : Mem} {v v' x : Value} {k : Nat} (h : aApp none u by_ m v x = some (v', m')) (hk : sliceLen x = some k) (hf : Full v) : Full v' := by
  unfold aApp at h
  rw [hk] at h
  simp only [Option.bind_some] at h
  obtain ⟨xs, hx, h'⟩ := Option.bind_eq_some_iff.1 h
  clear h
  have h := h'
  clear h'
  split at h
  · split at h
    · cases h; intro a p q e; cases e; rfl
    · split at h
      · cases h; intro a p q e; cases e; rfl
      · cases h
  · rename_i b o l c
    have hlc : l = c := hf _ _ _ rfl
    split at h
    · split at h
      · cases h; intro a p q e; cases e; exact hlc
      · cases h
    · split at h
      · omega
      · split at h
        · split at h
          · cases h; intro a p q e; cases e; rfl
          · cases h
        · cases h
  · cases h
end Go.Am


/- One's own slice whose first block is older than what else is there: only that block, and newer ones, are touched. -/
set_option linter.unusedVariables false
set_option linter.unusedSimpArgs false
namespace Go.Am

theorem app_updA {at_ : Option Nat} {u by_ M : Nat} {m m' : Mem} {v v' x : Value} (h : aApp at_ u by_ m v x = some (v', m')) (ha : ∀ k, at_ = some k → M ≤ k) (hM : M ≤ m.next) :
    m.next ≤ m'.next ∧ (∀ b, b < M → b ∉ vb v → m'.blk b = m.blk b) ∧ (vb v' = vb v ∨ ∃ k, vb v' = [k] ∧ M ≤ k) := by
  have hpl : ∀ (m1 : Mem) (o : AObj), m1.next = m.next → m.next ≤ (place at_ m1 o).2.next ∧ (∀ b, b < M → (place at_ m1 o).2.blk b = m1.blk b) ∧ M ≤ (place at_ m1 o).1 := by
    intro m1 o h1
    unfold place
    split
    · refine ⟨by show m.next ≤ m1.next + 1; omega, fun b hb => ?_, by show M ≤ m1.next; omega⟩
      show (if b = m1.next then _ else _) = _
      rw [if_neg (by omega)]
    · rename_i k
      have := ha k rfl
      refine ⟨by show m.next ≤ m1.next; omega, fun b hb => ?_, this⟩
      show (if b = k then _ else _) = _
      rw [if_neg (by omega)]
  unfold aApp at h
  rw [Option.bind_eq_some_iff] at h
  obtain ⟨n, hn, h⟩ := h
  rw [Option.bind_eq_some_iff] at h
  obtain ⟨xs, hxs, h⟩ := h
  split at h
  · split at h
    · cases h; exact ⟨Nat.le_refl _, fun _ _ _ => rfl, .inl rfl⟩
    · split at h
      · obtain ⟨p1, p2, p3⟩ := hpl m (.cells xs (some u)) rfl
        generalize place at_ m (.cells xs (some u)) = P at h p1 p2 p3
        obtain ⟨b, m1⟩ := P
        cases h
        exact ⟨p1, fun b hb _ => p2 b hb, .inr ⟨_, rfl, p3⟩⟩
      · cases h
  · rename_i b o l c
    split at h
    · split at h
      · cases h; exact ⟨Nat.le_refl _, fun _ _ _ => rfl, .inl rfl⟩
      · cases h
    · split at h
      · rw [Option.map_eq_some_iff] at h
        obtain ⟨m1, h1, h2⟩ := h
        cases h2
        obtain ⟨a1, a2⟩ := aWrite_upd h1
        refine ⟨by omega, fun x hx hn => ?_, .inl rfl⟩
        exact a1.same x (by omega) hn
      · split at h
        · rename_i cs own hb
          split at h
          · have hs : ∀ c : Bool, (if c = true then m.set b none else m).next = m.next ∧ ∀ x, x ≠ b → (if c = true then m.set b none else m).blk x = m.blk x := by
              intro c
              cases c
              · exact ⟨rfl, fun _ _ => rfl⟩
              · refine ⟨rfl, fun x hx => ?_⟩
                show (if x = b then _ else _) = _
                rw [if_neg hx]
            simp only [] at h
            generalize hm1 : (if own.isSome = true ∧ o + c * u = cs.length then m.set b none else m) = m1 at h
            have hs1 : m1.next = m.next ∧ ∀ x, x ≠ b → m1.blk x = m.blk x := by
              rw [← hm1]
              split
              · exact hs true
              · exact hs false
            obtain ⟨p1, p2, p3⟩ := hpl m1 (.cells (List.take (l * u) (List.drop o cs) ++ xs) (some u)) hs1.1
            generalize place at_ m1 (.cells (List.take (l * u) (List.drop o cs) ++ xs) (some u)) = P at h p1 p2 p3
            obtain ⟨b', m2⟩ := P
            cases h
            refine ⟨p1, fun x hx hn => ?_, .inr ⟨_, rfl, p3⟩⟩
            rw [p2 x hx, hs1.2 x (by intro e; apply hn; simp [vb, e])]
          · cases h
        · cases h
  · cases h

theorem Own.ge {m0 m : Mem} {u n : Nat} {cs : List Value} {v : Value} (h : Own m0 m u n cs v) : ∀ b ∈ vb v, m0.next ≤ b := by
  cases h with
  | nil => intro b hb; simp [vb] at hb
  | «at» hb hb2 hn hm hl hcs h1 => intro b' hb'; simp [vb] at hb'; subst hb'; exact hb

structure OwnQ (m0 mb m : Mem) (q u n : Nat) (cs : List Value) (v : Value) : Prop where
  own : Own m0 m u n cs v
  upd : Upd mb m [q]
  at_ : ∀ b ∈ vb v, b = q ∨ mb.next ≤ b
  ext : Ext m0 m

variable {m0 mb m m' : Mem} {q u n : Nat} {cs : List Value} {v : Value}
theorem OwnQ.keep (h : OwnQ m0 mb m q u n cs v) (hx : Ext m m') : OwnQ m0 mb m' q u n cs v :=
  ⟨h.own.keep hx, h.upd.trans hx.upd (fun _ h => h) (fun _ h => .inl h), h.at_, h.ext.trans hx⟩

theorem OwnQ.app {by_ : Nat} {es : List Value} (h : OwnQ m0 mb m q u n cs v) (hu : 0 < u) (he : es.length = u) (h1 : oneCells es = true) (hby : (n + 1) * by_ ≤ 2 ^ 47) (hn : n + 1 < 2 ^ 62) :
    ∃ v' m', aApp none u by_ (m.new (.cells es (some u))) v (.slice (some ⟨m.next, 0, none⟩) 1 1) = some (v', m') ∧ OwnQ m0 mb m' q u (n + 1) (cs ++ es) v' := by
  obtain ⟨v', m', e1, e2, e3⟩ := h.own.app (by_ := by_) h.ext hu he h1 hby hn
  have hx : Ext m (m.new (.cells es (some u))) := Ext.new
  obtain ⟨a1, a2, a3⟩ := app_updA (M := (m.new (.cells es (some u))).next) e1 (fun k hk => by cases hk) (Nat.le_refl _)
  refine ⟨v', m', e1, e2, ?_, fun b hb => ?_, e3⟩
  · have hk := h.keep hx
    refine ⟨Nat.le_trans hk.upd.next a1, fun b hb hn => ?_⟩
    have hb2 := hk.upd.next
    rw [a2 b (by omega) (fun hm => by exact (h.at_ b hm).elim (fun e => hn (by simp [e])) (fun e => by omega)), hk.upd.same b hb hn]
  · have := h.upd.next
    have := hx.next
    rcases a3 with e | ⟨k, e, hk⟩
    · rw [e] at hb; exact h.at_ b hb
    · rw [e] at hb; simp at hb; subst hb; exact .inr (by omega)

theorem OwnQ.appD {by_ N s t : Nat} {es : List Value} (h : OwnQ m0 mb m q u n cs v) (he : es.length = u) (h1 : oneCells es = true) (hby : (n + 1) * by_ ≤ 2 ^ 47) (hn : n + 1 < 2 ^ 62) (hs : s < N) (ht : t < N) :
    ∃ v' m', aApp (some (m.next + t)) u by_ ((m.bump N).set (m.next + s) (some (.cells es (some u)))) v (.slice (some ⟨m.next + s, 0, none⟩) 1 1) = some (v', m') ∧ OwnQ m0 mb m' q u (n + 1) (cs ++ es) v' := by
  obtain ⟨v', m', e1, e2, e3⟩ := h.own.appD (by_ := by_) h.ext he h1 hby hn hs ht
  have hx : Ext m ((m.bump N).set (m.next + s) (some (.cells es (some u)))) := Ext.set ⟨by simp, fun b hb => rfl⟩ (by omega)
  obtain ⟨a1, a2, a3⟩ := app_updA (M := m.next) e1 (fun k hk => by cases hk; omega) hx.next
  refine ⟨v', m', e1, e2, ?_, fun b hb => ?_, e3⟩
  · have hk := h.keep hx
    refine ⟨Nat.le_trans hk.upd.next a1, fun b hb hn => ?_⟩
    have hb2 := h.upd.next
    rw [a2 b (by omega) (fun hm => by exact (h.at_ b hm).elim (fun e => hn (by simp [e])) (fun e => by omega)), hk.upd.same b hb hn]
  · have := h.upd.next
    rcases a3 with e | ⟨k, e, hk⟩
    · rw [e] at hb; exact h.at_ b hb
    · rw [e] at hb; simp at hb; subst hb; exact .inr (by omega)

theorem OwnQ.put {w : Value} {k : IntKind} {i o : Nat} (h : OwnQ m0 mb m q u n cs v) (hi : i < n) (ho : o < u) (hw : w.cells = #[w]) (hone : w.oneCell' = true) :
    ∃ b m', aIdxS u v (.int k i) = some (.pointer (some ⟨b, i * u, none⟩)) ∧ aStore 1 m (.pointer (some ⟨b, i * u + o, none⟩)) w = some m' ∧ OwnQ m0 mb m' q u n (cs.set (i * u + o) w) v := by
  obtain ⟨b, m', e1, e2, e3, e4⟩ := h.own.put (k := k) h.ext hi ho hw hone
  refine ⟨b, m', e1, e2, e3, ?_, h.at_, e4⟩
  have hbv : b ∈ vb v := by
    cases h.own with
    | nil h hc => omega
    | @«at» b2 c all hb hb2 hn hm hl hcs h1 =>
      simp only [aIdxS] at e1
      split at e1
      · have e1 := Option.some.inj e1
        simp only [Value.pointer.injEq, Option.some.injEq, Addr.mk.injEq] at e1
        rw [← e1.1]; simp [vb]
      · cases e1
  have hw' : aWrite m b (i * u + o) w.cells.toList = some m' := by
    simp only [aStore] at e2
    split at e2
    · exact e2
    · cases e2
  obtain ⟨a1, a2⟩ := aWrite_upd hw'
  refine ⟨by have := h.upd.next; omega, fun x hx hn => ?_⟩
  have := h.upd.next
  rw [a1.same x (by omega) (by simp; intro e; subst e; exact (h.at_ x hbv).elim (fun e => hn (by simp [e])) (fun e => by omega)), h.upd.same x hx hn]
end Go.Am


/- Spans: the reference's ends. -/
set_option linter.unusedVariables false
set_option linter.unusedSimpArgs false
namespace Go.Am
variable {m : Mem}

theorem intsZ_len {l : List Int} : (intsZ l).length = l.length := by simp [intsZ]
theorem intsZ_get {l : List Int} {i : Nat} (h : i < l.length) : (intsZ l)[i]? = some (.int .i64 l[i]) := by simp [intsZ, h]
theorem intsZ_one {l : List Int} : oneCells (intsZ l) = true := by
  unfold oneCells intsZ
  simp only [List.all_map, List.all_eq_true, Function.comp_apply]
  intro x _; rfl
theorem intsZ_append {a b : List Int} : intsZ (a ++ b) = intsZ a ++ intsZ b := by simp [intsZ]

abbrev Rise (l : List Int) : Prop := l.Pairwise (· < ·)

/-- An int in a rising row. -/
structure IntsV (m : Mem) (l : List Int) (v : Value) : Prop where
  sl : Sl m 1 l.length (intsZ l) v
  lt : SlLt m v
  cut : Cut 1 m v
theorem IntsV.keep {m m' : Mem} {l : List Int} {v : Value} (h : IntsV m l v) (hx : Ext m m') : IntsV m' l v := ⟨h.sl.keep h.lt hx, h.lt.keep hx, h.cut.keep h.lt hx⟩
theorem IntsV.own {m0 m : Mem} {l : List Int} {v : Value} {n : Nat} (h : Own m0 m 1 n (intsZ l) v) (hn : n = l.length) : IntsV m l v := by
  subst hn; exact ⟨h.sl, h.lt, h.cut⟩

/-- With one more. -/
theorem refWith {l : List Int} {v : Value} {x : Int} (hv : IntsV m l v) (hr : Rise l) (hl : l.length < 100000) :
    WC R F.ref05_with [v, .int .i64 x] m fun r m' => (∃ l', Rise l' ∧ (∀ y, y ∈ l' ↔ y ∈ l ∨ y = x) ∧ l'.length ≤ l.length + 1 ∧ IntsV m' l' r) ∧ Ext m m' ∧ ∀ b ∈ vb r, b ∈ vb v ∨ m.next ≤ b := by
  refine WC.of R.ref05_with rfl ?_
  have hs := hv.sl
  simp only [RC.ref05_with, go_sem, Bool.false_and, new_set, Int.reduceBEq, Int.reduceBNe, Int.reduceNeg, not_true_eq_false, beq_self_eq_true, bne_self_eq_false, Bool.false_eq_true, if_false, if_true, Int.cast_ofNat_Int, decide_true, decide_false, reduceCtorEq, Nat.reduceEqDiff, Nat.reduceAdd, ne_eq, not_false_eq_true, Option.map_some, Option.bind_some, Option.map_none, Option.bind_none, true_and, and_true, Bool.not_true, Bool.not_false, Nat.reduceLeDiff, Nat.reduceMul, Nat.reduceSub, Nat.le_refl, Int.reduceToNat, Int.reduceLT, Int.reduceLE, Nat.one_mul, Nat.mul_one]
  refine WL.of (fun n e m' => ∃ k : Nat, k ≤ l.length ∧ n = l.length - k ∧ m' = m ∧ e = [(0, v), (1, .int .i64 x), (5, .int .i64 k)] ∧ ∀ j (hj : j < l.length), j < k → l[j] < x) l.length
    ⟨0, by omega, by omega, rfl, by simp only [go_sem, Bool.false_and, new_set, Int.reduceBEq, Int.reduceBNe, Int.reduceNeg, not_true_eq_false, beq_self_eq_true, bne_self_eq_false, Bool.false_eq_true, if_false, if_true, Int.cast_ofNat_Int, decide_true, decide_false, reduceCtorEq, Nat.reduceEqDiff, Nat.reduceAdd, ne_eq, not_false_eq_true, Option.map_some, Option.bind_some, Option.map_none, Option.bind_none, true_and, and_true, Bool.not_true, Bool.not_false, Nat.reduceLeDiff, Nat.reduceMul, Nat.reduceSub, Nat.le_refl, Int.reduceToNat, Int.reduceLT, Int.reduceLE, Nat.one_mul, Nat.mul_one] <;> rfl, fun _ _ h => by omega⟩ ?_
  rintro _ _ _ ⟨k, hk, rfl, rfl, rfl, hlo⟩
  have s1 : k < l.length → IntKind.wrap .i64 ((k : Int) + 1) = ((k + 1 : Nat) : Int) := fun h => step1 (by omega)
  simp only [RB.ref05_with_1, go_sem, Bool.false_and, new_set, Int.reduceBEq, Int.reduceBNe, Int.reduceNeg, not_true_eq_false, beq_self_eq_true, bne_self_eq_false, Bool.false_eq_true, if_false, if_true, Int.cast_ofNat_Int, decide_true, decide_false, reduceCtorEq, Nat.reduceEqDiff, Nat.reduceAdd, ne_eq, not_false_eq_true, Option.map_some, Option.bind_some, Option.map_none, Option.bind_none, true_and, and_true, Bool.not_true, Bool.not_false, Nat.reduceLeDiff, Nat.reduceMul, Nat.reduceSub, Nat.le_refl, Int.reduceToNat, Int.reduceLT, Int.reduceLE, Nat.one_mul, Nat.mul_one, hs.len]
  have tkk : (intsZ l).take k = intsZ (l.take k) := by simp [intsZ, List.map_take]
  have drk : (intsZ l).drop k = intsZ (l.drop k) := by simp [intsZ, List.map_drop]
  have lt1 : (l.take k).length = k := by rw [List.length_take]; omega
  refine gT.of (fun g1' => ?_) (fun g1' => ?_) <;> (have g1 := g1'; try simp only [decide_eq_true_eq, decide_eq_false_iff_not, beq_iff_eq, bne_iff_ne, beq_eq_false_iff_ne, ne_eq, Bool.not_eq_true', Bool.not_eq_false', bne_eq_false_iff_eq, Int.not_lt, Int.not_le] at g1)
  · have hkl : k < l.length := by omega
    obtain ⟨p, a1, a2⟩ := hs.get (k := .i64) hkl
    rw [intsZ_get hkl] at a2
    have hkn : decide ((k : Int) < l.length) = true := by rw [decide_eq_true_eq]; omega
    simp only [go_sem, Bool.false_and, new_set, Int.reduceBEq, Int.reduceBNe, Int.reduceNeg, not_true_eq_false, beq_self_eq_true, bne_self_eq_false, Bool.false_eq_true, if_false, if_true, Int.cast_ofNat_Int, decide_true, decide_false, reduceCtorEq, Nat.reduceEqDiff, Nat.reduceAdd, ne_eq, not_false_eq_true, Option.map_some, Option.bind_some, Option.map_none, Option.bind_none, true_and, and_true, Bool.not_true, Bool.not_false, Nat.reduceLeDiff, Nat.reduceMul, Nat.reduceSub, Nat.le_refl, Int.reduceToNat, Int.reduceLT, Int.reduceLE, Nat.one_mul, Nat.mul_one, g1', a1, a2]
    refine gT.of (fun g2' => ?_) (fun g2' => ?_) <;> (have g2 := g2'; try simp only [decide_eq_true_eq, decide_eq_false_iff_not, beq_iff_eq, bne_iff_ne, beq_eq_false_iff_ne, ne_eq, Bool.not_eq_true', Bool.not_eq_false', bne_eq_false_iff_eq, Int.not_lt, Int.not_le] at g2)
    · simp only [go_sem, Bool.false_and, new_set, Int.reduceBEq, Int.reduceBNe, Int.reduceNeg, not_true_eq_false, beq_self_eq_true, bne_self_eq_false, Bool.false_eq_true, if_false, if_true, Int.cast_ofNat_Int, decide_true, decide_false, reduceCtorEq, Nat.reduceEqDiff, Nat.reduceAdd, ne_eq, not_false_eq_true, Option.map_some, Option.bind_some, Option.map_none, Option.bind_none, true_and, and_true, Bool.not_true, Bool.not_false, Nat.reduceLeDiff, Nat.reduceMul, Nat.reduceSub, Nat.le_refl, Int.reduceToNat, Int.reduceLT, Int.reduceLE, Nat.one_mul, Nat.mul_one, g2', s1 hkl]
      refine ⟨l.length - (k + 1), by omega, k + 1, by omega, rfl, rfl, fun j hj h => ?_⟩
      by_cases e : j = k
      · subst e; exact g2
      · exact hlo j hj (by omega)
    · simp only [go_sem, Bool.false_and, new_set, Int.reduceBEq, Int.reduceBNe, Int.reduceNeg, not_true_eq_false, beq_self_eq_true, bne_self_eq_false, Bool.false_eq_true, if_false, if_true, Int.cast_ofNat_Int, decide_true, decide_false, reduceCtorEq, Nat.reduceEqDiff, Nat.reduceAdd, ne_eq, not_false_eq_true, Option.map_some, Option.bind_some, Option.map_none, Option.bind_none, true_and, and_true, Bool.not_true, Bool.not_false, Nat.reduceLeDiff, Nat.reduceMul, Nat.reduceSub, Nat.le_refl, Int.reduceToNat, Int.reduceLT, Int.reduceLE, Nat.one_mul, Nat.mul_one, g2', hs.len, hkn, a1, a2]
      refine gT.of (fun g3' => ?_) (fun g3' => ?_) <;> (have g3 := g3'; try simp only [decide_eq_true_eq, decide_eq_false_iff_not, beq_iff_eq, bne_iff_ne, beq_eq_false_iff_ne, ne_eq, Bool.not_eq_true', Bool.not_eq_false', bne_eq_false_iff_eq, Int.not_lt, Int.not_le] at g3)
      · simp only [go_sem, Bool.false_and, new_set, Int.reduceBEq, Int.reduceBNe, Int.reduceNeg, not_true_eq_false, beq_self_eq_true, bne_self_eq_false, Bool.false_eq_true, if_false, if_true, Int.cast_ofNat_Int, decide_true, decide_false, reduceCtorEq, Nat.reduceEqDiff, Nat.reduceAdd, ne_eq, not_false_eq_true, Option.map_some, Option.bind_some, Option.map_none, Option.bind_none, true_and, and_true, Bool.not_true, Bool.not_false, Nat.reduceLeDiff, Nat.reduceMul, Nat.reduceSub, Nat.le_refl, Int.reduceToNat, Int.reduceLT, Int.reduceLE, Nat.one_mul, Nat.mul_one, g3']
        exact ⟨⟨l, hr, fun y => ⟨.inl, fun h => h.elim id fun h => by rw [h, ← g3]; exact List.getElem_mem hkl⟩, by omega, hv⟩, Ext.refl _, fun b hb => .inl hb⟩
      · have hup : ∀ z ∈ l.drop k, x < z := fun z hz => by
          obtain ⟨j, hj, rfl⟩ := List.getElem_of_mem hz
          rw [List.getElem_drop]
          by_cases e : j = 0
          · subst e
            have : x ≤ l[k] := by omega
            have h3 : ¬ l[k] = x := g3
            simp only [Nat.add_zero]; omega
          · have := (List.pairwise_iff_getElem.1 hr) k (k + j) hkl (by rw [List.length_drop] at hj; omega) (by omega)
            omega
        simp only [go_sem, Bool.false_and, new_set, Int.reduceBEq, Int.reduceBNe, Int.reduceNeg, not_true_eq_false, beq_self_eq_true, bne_self_eq_false, Bool.false_eq_true, if_false, if_true, Int.cast_ofNat_Int, decide_true, decide_false, reduceCtorEq, Nat.reduceEqDiff, Nat.reduceAdd, ne_eq, not_false_eq_true, Option.map_some, Option.bind_some, Option.map_none, Option.bind_none, true_and, and_true, Bool.not_true, Bool.not_false, Nat.reduceLeDiff, Nat.reduceMul, Nat.reduceSub, Nat.le_refl, Int.reduceToNat, Int.reduceLT, Int.reduceLE, Nat.one_mul, Nat.mul_one, g3']
        have hvx := hv
        obtain ⟨v1, b1, b2, b3, b4⟩ := (hs.keep hv.lt (Ext.new (m := _) (o := .cells [] (some 1)))).to (hv.cut.keep hv.lt Ext.new) (k := .i64) hk
        rw [Nat.mul_one, tkk] at b2
        obtain ⟨v2, m2, e1, e2, e3⟩ := app_copy (by_ := 8) b2 intsZ_one (by omega) (by omega)
        have f2 := app_full e1 b2.src.2 (by intro a p q e; cases e; rfl)
        simp only [go_sem, Bool.false_and, new_set, Int.reduceBEq, Int.reduceBNe, Int.reduceNeg, not_true_eq_false, beq_self_eq_true, bne_self_eq_false, Bool.false_eq_true, if_false, if_true, Int.cast_ofNat_Int, decide_true, decide_false, reduceCtorEq, Nat.reduceEqDiff, Nat.reduceAdd, ne_eq, not_false_eq_true, Option.map_some, Option.bind_some, Option.map_none, Option.bind_none, true_and, and_true, Bool.not_true, Bool.not_false, Nat.reduceLeDiff, Nat.reduceMul, Nat.reduceSub, Nat.le_refl, Int.reduceToNat, Int.reduceLT, Int.reduceLE, Nat.one_mul, Nat.mul_one, b1]
        rw [e1]
        simp only [go_sem, Bool.false_and, new_set, Int.reduceBEq, Int.reduceBNe, Int.reduceNeg, not_true_eq_false, beq_self_eq_true, bne_self_eq_false, Bool.false_eq_true, if_false, if_true, Int.cast_ofNat_Int, decide_true, decide_false, reduceCtorEq, Nat.reduceEqDiff, Nat.reduceAdd, ne_eq, not_false_eq_true, Option.map_some, Option.bind_some, Option.map_none, Option.bind_none, true_and, and_true, Bool.not_true, Bool.not_false, Nat.reduceLeDiff, Nat.reduceMul, Nat.reduceSub, Nat.le_refl, Int.reduceToNat, Int.reduceLT, Int.reduceLE, Nat.one_mul, Nat.mul_one]
        obtain ⟨v3, m3, e4, e5, e6⟩ := e2.app (by_ := 8) (es := [.int .i64 x]) e3 (by omega) rfl rfl (by omega) (by omega)
        have f3 := app_full (k := 1) e4 rfl f2
        rw [e4]
        simp only [go_sem, Bool.false_and, new_set, Int.reduceBEq, Int.reduceBNe, Int.reduceNeg, not_true_eq_false, beq_self_eq_true, bne_self_eq_false, Bool.false_eq_true, if_false, if_true, Int.cast_ofNat_Int, decide_true, decide_false, reduceCtorEq, Nat.reduceEqDiff, Nat.reduceAdd, ne_eq, not_false_eq_true, Option.map_some, Option.bind_some, Option.map_none, Option.bind_none, true_and, and_true, Bool.not_true, Bool.not_false, Nat.reduceLeDiff, Nat.reduceMul, Nat.reduceSub, Nat.le_refl, Int.reduceToNat, Int.reduceLT, Int.reduceLE, Nat.one_mul, Nat.mul_one]
        obtain ⟨v4, c1, c2, c3, c4⟩ := (hs.keep hv.lt e6).from (hv.cut.keep hv.lt e6) (k := .i64) hk
        rw [Nat.mul_one, drk] at c2
        obtain ⟨v5, m5, e7, e8, e9⟩ := e5.appAll (by_ := 8) e6 c2 intsZ_one (by omega) (by omega) f3
        simp only [go_sem, Bool.false_and, new_set, Int.reduceBEq, Int.reduceBNe, Int.reduceNeg, not_true_eq_false, beq_self_eq_true, bne_self_eq_false, Bool.false_eq_true, if_false, if_true, Int.cast_ofNat_Int, decide_true, decide_false, reduceCtorEq, Nat.reduceEqDiff, Nat.reduceAdd, ne_eq, not_false_eq_true, Option.map_some, Option.bind_some, Option.map_none, Option.bind_none, true_and, and_true, Bool.not_true, Bool.not_false, Nat.reduceLeDiff, Nat.reduceMul, Nat.reduceSub, Nat.le_refl, Int.reduceToNat, Int.reduceLT, Int.reduceLE, Nat.one_mul, Nat.mul_one, c1]
        rw [e7]
        simp only [go_sem, Bool.false_and, new_set, Int.reduceBEq, Int.reduceBNe, Int.reduceNeg, not_true_eq_false, beq_self_eq_true, bne_self_eq_false, Bool.false_eq_true, if_false, if_true, Int.cast_ofNat_Int, decide_true, decide_false, reduceCtorEq, Nat.reduceEqDiff, Nat.reduceAdd, ne_eq, not_false_eq_true, Option.map_some, Option.bind_some, Option.map_none, Option.bind_none, true_and, and_true, Bool.not_true, Bool.not_false, Nat.reduceLeDiff, Nat.reduceMul, Nat.reduceSub, Nat.le_refl, Int.reduceToNat, Int.reduceLT, Int.reduceLE, Nat.one_mul, Nat.mul_one]
        refine ⟨⟨l.take k ++ [x] ++ l.drop k, ?_, fun y => ?_, by simp; omega, IntsV.own (n := k + 1 + (l.length - k)) (by rw [intsZ_append, intsZ_append]; exact e8) (by simp; omega)⟩, e9, fun b hb => .inr (e8.ge b hb)⟩
        · rw [List.append_assoc, Rise, List.pairwise_append]
          refine ⟨hr.sublist (List.take_sublist _ _), ?_, fun y hy z hz => ?_⟩
          · rw [List.singleton_append, List.pairwise_cons]
            refine ⟨fun z hz => ?_, hr.sublist (List.drop_sublist _ _)⟩
            exact hup z hz
          · have hyx : y < x := by
              obtain ⟨j, hj, rfl⟩ := List.getElem_of_mem hy
              rw [List.getElem_take]
              exact hlo j _ (by rw [List.length_take] at hj; omega)
            rcases List.mem_append.1 hz with h | h
            · rw [List.mem_singleton.1 h]; exact hyx
            · have := hup z h; omega
        · conv => rhs; rw [← List.take_append_drop k l]
          simp only [List.mem_append, List.mem_singleton]
          constructor
          · rintro ((h | h) | h)
            · exact .inl (.inl h)
            · exact .inr h
            · exact .inl (.inr h)
          · rintro ((h | h) | h)
            · exact .inl (.inl h)
            · exact .inr h
            · exact .inl (.inr h)
  · have hke : k = l.length := by omega
    have hkn : decide ((k : Int) < l.length) = false := by rw [decide_eq_false_iff_not]; omega
    have hup : ∀ z ∈ l.drop k, x < z := fun z hz => by rw [hke, List.drop_length] at hz; simp at hz
    simp only [go_sem, Bool.false_and, new_set, Int.reduceBEq, Int.reduceBNe, Int.reduceNeg, not_true_eq_false, beq_self_eq_true, bne_self_eq_false, Bool.false_eq_true, if_false, if_true, Int.cast_ofNat_Int, decide_true, decide_false, reduceCtorEq, Nat.reduceEqDiff, Nat.reduceAdd, ne_eq, not_false_eq_true, Option.map_some, Option.bind_some, Option.map_none, Option.bind_none, true_and, and_true, Bool.not_true, Bool.not_false, Nat.reduceLeDiff, Nat.reduceMul, Nat.reduceSub, Nat.le_refl, Int.reduceToNat, Int.reduceLT, Int.reduceLE, Nat.one_mul, Nat.mul_one, g1', hs.len, hkn]
    have hvx := hv
    obtain ⟨v1, b1, b2, b3, b4⟩ := (hs.keep hv.lt (Ext.new (m := _) (o := .cells [] (some 1)))).to (hv.cut.keep hv.lt Ext.new) (k := .i64) hk
    rw [Nat.mul_one, tkk] at b2
    obtain ⟨v2, m2, e1, e2, e3⟩ := app_copy (by_ := 8) b2 intsZ_one (by omega) (by omega)
    have f2 := app_full e1 b2.src.2 (by intro a p q e; cases e; rfl)
    simp only [go_sem, Bool.false_and, new_set, Int.reduceBEq, Int.reduceBNe, Int.reduceNeg, not_true_eq_false, beq_self_eq_true, bne_self_eq_false, Bool.false_eq_true, if_false, if_true, Int.cast_ofNat_Int, decide_true, decide_false, reduceCtorEq, Nat.reduceEqDiff, Nat.reduceAdd, ne_eq, not_false_eq_true, Option.map_some, Option.bind_some, Option.map_none, Option.bind_none, true_and, and_true, Bool.not_true, Bool.not_false, Nat.reduceLeDiff, Nat.reduceMul, Nat.reduceSub, Nat.le_refl, Int.reduceToNat, Int.reduceLT, Int.reduceLE, Nat.one_mul, Nat.mul_one, b1]
    rw [e1]
    simp only [go_sem, Bool.false_and, new_set, Int.reduceBEq, Int.reduceBNe, Int.reduceNeg, not_true_eq_false, beq_self_eq_true, bne_self_eq_false, Bool.false_eq_true, if_false, if_true, Int.cast_ofNat_Int, decide_true, decide_false, reduceCtorEq, Nat.reduceEqDiff, Nat.reduceAdd, ne_eq, not_false_eq_true, Option.map_some, Option.bind_some, Option.map_none, Option.bind_none, true_and, and_true, Bool.not_true, Bool.not_false, Nat.reduceLeDiff, Nat.reduceMul, Nat.reduceSub, Nat.le_refl, Int.reduceToNat, Int.reduceLT, Int.reduceLE, Nat.one_mul, Nat.mul_one]
    obtain ⟨v3, m3, e4, e5, e6⟩ := e2.app (by_ := 8) (es := [.int .i64 x]) e3 (by omega) rfl rfl (by omega) (by omega)
    have f3 := app_full (k := 1) e4 rfl f2
    rw [e4]
    simp only [go_sem, Bool.false_and, new_set, Int.reduceBEq, Int.reduceBNe, Int.reduceNeg, not_true_eq_false, beq_self_eq_true, bne_self_eq_false, Bool.false_eq_true, if_false, if_true, Int.cast_ofNat_Int, decide_true, decide_false, reduceCtorEq, Nat.reduceEqDiff, Nat.reduceAdd, ne_eq, not_false_eq_true, Option.map_some, Option.bind_some, Option.map_none, Option.bind_none, true_and, and_true, Bool.not_true, Bool.not_false, Nat.reduceLeDiff, Nat.reduceMul, Nat.reduceSub, Nat.le_refl, Int.reduceToNat, Int.reduceLT, Int.reduceLE, Nat.one_mul, Nat.mul_one]
    obtain ⟨v4, c1, c2, c3, c4⟩ := (hs.keep hv.lt e6).from (hv.cut.keep hv.lt e6) (k := .i64) hk
    rw [Nat.mul_one, drk] at c2
    obtain ⟨v5, m5, e7, e8, e9⟩ := e5.appAll (by_ := 8) e6 c2 intsZ_one (by omega) (by omega) f3
    simp only [go_sem, Bool.false_and, new_set, Int.reduceBEq, Int.reduceBNe, Int.reduceNeg, not_true_eq_false, beq_self_eq_true, bne_self_eq_false, Bool.false_eq_true, if_false, if_true, Int.cast_ofNat_Int, decide_true, decide_false, reduceCtorEq, Nat.reduceEqDiff, Nat.reduceAdd, ne_eq, not_false_eq_true, Option.map_some, Option.bind_some, Option.map_none, Option.bind_none, true_and, and_true, Bool.not_true, Bool.not_false, Nat.reduceLeDiff, Nat.reduceMul, Nat.reduceSub, Nat.le_refl, Int.reduceToNat, Int.reduceLT, Int.reduceLE, Nat.one_mul, Nat.mul_one, c1]
    rw [e7]
    simp only [go_sem, Bool.false_and, new_set, Int.reduceBEq, Int.reduceBNe, Int.reduceNeg, not_true_eq_false, beq_self_eq_true, bne_self_eq_false, Bool.false_eq_true, if_false, if_true, Int.cast_ofNat_Int, decide_true, decide_false, reduceCtorEq, Nat.reduceEqDiff, Nat.reduceAdd, ne_eq, not_false_eq_true, Option.map_some, Option.bind_some, Option.map_none, Option.bind_none, true_and, and_true, Bool.not_true, Bool.not_false, Nat.reduceLeDiff, Nat.reduceMul, Nat.reduceSub, Nat.le_refl, Int.reduceToNat, Int.reduceLT, Int.reduceLE, Nat.one_mul, Nat.mul_one]
    refine ⟨⟨l.take k ++ [x] ++ l.drop k, ?_, fun y => ?_, by simp; omega, IntsV.own (n := k + 1 + (l.length - k)) (by rw [intsZ_append, intsZ_append]; exact e8) (by simp; omega)⟩, e9, fun b hb => .inr (e8.ge b hb)⟩
    · rw [List.append_assoc, Rise, List.pairwise_append]
      refine ⟨hr.sublist (List.take_sublist _ _), ?_, fun y hy z hz => ?_⟩
      · rw [List.singleton_append, List.pairwise_cons]
        refine ⟨fun z hz => ?_, hr.sublist (List.drop_sublist _ _)⟩
        exact hup z hz
      · have hyx : y < x := by
          obtain ⟨j, hj, rfl⟩ := List.getElem_of_mem hy
          rw [List.getElem_take]
          exact hlo j _ (by rw [List.length_take] at hj; omega)
        rcases List.mem_append.1 hz with h | h
        · rw [List.mem_singleton.1 h]; exact hyx
        · have := hup z h; omega
    · conv => rhs; rw [← List.take_append_drop k l]
      simp only [List.mem_append, List.mem_singleton]
      constructor
      · rintro ((h | h) | h)
        · exact .inl (.inl h)
        · exact .inr h
        · exact .inl (.inr h)
      · rintro ((h | h) | h)
        · exact .inl (.inl h)
        · exact .inr h
        · exact .inl (.inr h)

/-- All ends of a row. -/
def EndsIn (a : List Sp) (E : List Int) : Prop := ∀ s ∈ a, s.1 ∈ E ∧ s.2 ∈ E

theorem EndsIn.more {a : List Sp} {E E' : List Int} (h : EndsIn a E) (k : ∀ y ∈ E, y ∈ E') : EndsIn a E' := fun s hs => ⟨k _ (h s hs).1, k _ (h s hs).2⟩

set_option maxHeartbeats 2000000 in
theorem refEnds {a b : List Sp} {va vbv : Value} (ha : Sl m 2 a.length (a.flatMap spV) va) (hab : SlLt m va) (hb : Sl m 2 b.length (b.flatMap spV) vbv) (hbb : SlLt m vbv) (hal : a.length < 10000) (hbl : b.length < 10000) :
    WC R F.ref05_ends [va, vbv] m fun r m' => (∃ E, Rise E ∧ EndsIn a E ∧ EndsIn b E ∧ E.length ≤ 2 * a.length + 2 * b.length ∧ IntsV m' E r) ∧ Ext m m' ∧ ∀ b ∈ vb r, m.next ≤ b := by
  refine WC.of R.ref05_ends rfl ?_
  simp only [RC.ref05_ends, go_sem, Bool.false_and, new_set, Int.reduceBEq, Int.reduceBNe, Int.reduceNeg, not_true_eq_false, beq_self_eq_true, bne_self_eq_false, Bool.false_eq_true, if_false, if_true, Int.cast_ofNat_Int, decide_true, decide_false, reduceCtorEq, Nat.reduceEqDiff, Nat.reduceAdd, ne_eq, not_false_eq_true, Option.map_some, Option.bind_some, Option.map_none, Option.bind_none, true_and, and_true, Bool.not_true, Bool.not_false, Nat.reduceLeDiff, Nat.reduceMul, Nat.reduceSub, Nat.le_refl, Int.reduceToNat, Int.reduceLT, Int.reduceLE, Nat.one_mul, Nat.mul_one]
  have hx0 : Ext m (m.new (.cells [] (some 1))) := Ext.new
  have hb0 : Bk (m.new (.cells [] (some 1))) m.next [] 1 := Bk.new
  generalize m.new (.cells [] (some 1)) = m0 at hx0 hb0 ⊢
  have hE0 : IntsV m0 [] (.slice (some ⟨m.next, 0, none⟩) 0 0) := ⟨.at (Nat.le_refl _) (by unfold aCells; rw [hb0.at_]; simp [intsZ]), hb0.lt, fun b' o n c e => by cases e; exact unitOk_own hb0.at_⟩
  refine WL.of (fun n e m' => ∃ (i : Nat) (E : List Int) (v : Value), i ≤ a.length ∧ n = a.length - i ∧ e = [(0, va), (1, vbv), (5, v), (6, .int .i64 i)] ∧ Rise E ∧ EndsIn (a.take i) E ∧ E.length ≤ 2 * i ∧ IntsV m' E v ∧ Ext m m' ∧ ∀ b ∈ vb v, m.next ≤ b) a.length
    ⟨0, [], _, by omega, by omega, by simp only [go_sem, Bool.false_and, new_set, Int.reduceBEq, Int.reduceBNe, Int.reduceNeg, not_true_eq_false, beq_self_eq_true, bne_self_eq_false, Bool.false_eq_true, if_false, if_true, Int.cast_ofNat_Int, decide_true, decide_false, reduceCtorEq, Nat.reduceEqDiff, Nat.reduceAdd, ne_eq, not_false_eq_true, Option.map_some, Option.bind_some, Option.map_none, Option.bind_none, true_and, and_true, Bool.not_true, Bool.not_false, Nat.reduceLeDiff, Nat.reduceMul, Nat.reduceSub, Nat.le_refl, Int.reduceToNat, Int.reduceLT, Int.reduceLE, Nat.one_mul, Nat.mul_one] <;> rfl, .nil, fun s hs => by simp at hs, by simp, hE0, hx0, by intro b hb; simp [vb] at hb; omega⟩ ?_
  rintro _ _ m1 ⟨i, E, v, hi, rfl, rfl, hR, hE, hEl, hv, hx1, hge⟩
  have ha1 := ha.keep hab hx1
  simp only [RB.ref05_ends_2, go_sem, Bool.false_and, new_set, Int.reduceBEq, Int.reduceBNe, Int.reduceNeg, not_true_eq_false, beq_self_eq_true, bne_self_eq_false, Bool.false_eq_true, if_false, if_true, Int.cast_ofNat_Int, decide_true, decide_false, reduceCtorEq, Nat.reduceEqDiff, Nat.reduceAdd, ne_eq, not_false_eq_true, Option.map_some, Option.bind_some, Option.map_none, Option.bind_none, true_and, and_true, Bool.not_true, Bool.not_false, Nat.reduceLeDiff, Nat.reduceMul, Nat.reduceSub, Nat.le_refl, Int.reduceToNat, Int.reduceLT, Int.reduceLE, Nat.one_mul, Nat.mul_one, ha1.len]
  refine gT.of (fun g1' => ?_) (fun g1' => ?_) <;> (have g1 := g1'; try simp only [decide_eq_true_eq, decide_eq_false_iff_not, beq_iff_eq, bne_iff_ne, beq_eq_false_iff_ne, ne_eq, Bool.not_eq_true', Bool.not_eq_false', bne_eq_false_iff_eq, Int.not_lt, Int.not_le] at g1)
  · have hil : i < a.length := by omega
    obtain ⟨p, o, a1, -, a3, a4⟩ := ha1.elem spV_len (k := .i64) hil
    have c1 : aLoad false 1 m1 (.pointer (some ⟨p, o + 0, none⟩)) = some (.int .i64 a[i].1) := a3 0 (by omega)
    have hpn : p < m1.next := a4 (hab.keep hx1)
    have c2 : aLoad false 1 m1 (.pointer (some ⟨p, o + 1, none⟩)) = some (.int .i64 a[i].2) := a3 1 (by omega)
    simp only [go_sem, Bool.false_and, new_set, Int.reduceBEq, Int.reduceBNe, Int.reduceNeg, not_true_eq_false, beq_self_eq_true, bne_self_eq_false, Bool.false_eq_true, if_false, if_true, Int.cast_ofNat_Int, decide_true, decide_false, reduceCtorEq, Nat.reduceEqDiff, Nat.reduceAdd, ne_eq, not_false_eq_true, Option.map_some, Option.bind_some, Option.map_none, Option.bind_none, true_and, and_true, Bool.not_true, Bool.not_false, Nat.reduceLeDiff, Nat.reduceMul, Nat.reduceSub, Nat.le_refl, Int.reduceToNat, Int.reduceLT, Int.reduceLE, Nat.one_mul, Nat.mul_one, g1', a1, c1, c2]
    refine gC.of (refWith hv hR (by omega)) ?_
    rintro v2 m2 ⟨⟨E2, hR2, hE2, hl2, hv2⟩, hx2, hg2⟩
    simp only [go_sem, Bool.false_and, new_set, Int.reduceBEq, Int.reduceBNe, Int.reduceNeg, not_true_eq_false, beq_self_eq_true, bne_self_eq_false, Bool.false_eq_true, if_false, if_true, Int.cast_ofNat_Int, decide_true, decide_false, reduceCtorEq, Nat.reduceEqDiff, Nat.reduceAdd, ne_eq, not_false_eq_true, Option.map_some, Option.bind_some, Option.map_none, Option.bind_none, true_and, and_true, Bool.not_true, Bool.not_false, Nat.reduceLeDiff, Nat.reduceMul, Nat.reduceSub, Nat.le_refl, Int.reduceToNat, Int.reduceLT, Int.reduceLE, Nat.one_mul, Nat.mul_one, a1, c2, watchOk_cons, watchOk_nil, blkOf_ptr, hx2.same p hpn]
    refine gC.of (refWith hv2 hR2 (by omega)) ?_
    rintro v3 m3 ⟨⟨E3, hR3, hE3, hl3, hv3⟩, hx3, hg3⟩
    simp only [go_sem, Bool.false_and, new_set, Int.reduceBEq, Int.reduceBNe, Int.reduceNeg, not_true_eq_false, beq_self_eq_true, bne_self_eq_false, Bool.false_eq_true, if_false, if_true, Int.cast_ofNat_Int, decide_true, decide_false, reduceCtorEq, Nat.reduceEqDiff, Nat.reduceAdd, ne_eq, not_false_eq_true, Option.map_some, Option.bind_some, Option.map_none, Option.bind_none, true_and, and_true, Bool.not_true, Bool.not_false, Nat.reduceLeDiff, Nat.reduceMul, Nat.reduceSub, Nat.le_refl, Int.reduceToNat, Int.reduceLT, Int.reduceLE, Nat.one_mul, Nat.mul_one, step1 (show i < 1000000 by omega)]
    refine ⟨a.length - (i + 1), by omega, i + 1, E3, v3, by omega, rfl, rfl, hR3, ?_, by omega, hv3, (hx1.trans hx2).trans hx3, fun b hb => by
      have := hx1.next; have := hx2.next
      rcases hg3 b hb with h | h
      · rcases hg2 b h with h | h
        · exact hge b h
        · omega
      · omega⟩
    rw [List.take_succ_eq_append_getElem hil]
    intro s hs
    rcases List.mem_append.1 hs with h | h
    · obtain ⟨h1, h2⟩ := hE s h
      exact ⟨(hE3 _).2 (.inl ((hE2 _).2 (.inl h1))), (hE3 _).2 (.inl ((hE2 _).2 (.inl h2)))⟩
    · rw [List.mem_singleton.1 h]
      exact ⟨(hE3 _).2 (.inl ((hE2 _).2 (.inr rfl))), (hE3 _).2 (.inr rfl)⟩
  · have : i = a.length := by omega
    subst this
    rw [List.take_length] at hE
    simp only [go_sem, Bool.false_and, new_set, Int.reduceBEq, Int.reduceBNe, Int.reduceNeg, not_true_eq_false, beq_self_eq_true, bne_self_eq_false, Bool.false_eq_true, if_false, if_true, Int.cast_ofNat_Int, decide_true, decide_false, reduceCtorEq, Nat.reduceEqDiff, Nat.reduceAdd, ne_eq, not_false_eq_true, Option.map_some, Option.bind_some, Option.map_none, Option.bind_none, true_and, and_true, Bool.not_true, Bool.not_false, Nat.reduceLeDiff, Nat.reduceMul, Nat.reduceSub, Nat.le_refl, Int.reduceToNat, Int.reduceLT, Int.reduceLE, Nat.one_mul, Nat.mul_one, g1']
    refine WL.of (fun n e m' => ∃ (i : Nat) (E : List Int) (v : Value), i ≤ b.length ∧ n = b.length - i ∧ e = [(1, vbv), (5, v), (7, .int .i64 i)] ∧ Rise E ∧ EndsIn a E ∧ EndsIn (b.take i) E ∧ E.length ≤ 2 * a.length + 2 * i ∧ IntsV m' E v ∧ Ext m m' ∧ ∀ b ∈ vb v, m.next ≤ b) b.length
      ⟨0, E, v, by omega, by omega, by simp only [go_sem, Bool.false_and, new_set, Int.reduceBEq, Int.reduceBNe, Int.reduceNeg, not_true_eq_false, beq_self_eq_true, bne_self_eq_false, Bool.false_eq_true, if_false, if_true, Int.cast_ofNat_Int, decide_true, decide_false, reduceCtorEq, Nat.reduceEqDiff, Nat.reduceAdd, ne_eq, not_false_eq_true, Option.map_some, Option.bind_some, Option.map_none, Option.bind_none, true_and, and_true, Bool.not_true, Bool.not_false, Nat.reduceLeDiff, Nat.reduceMul, Nat.reduceSub, Nat.le_refl, Int.reduceToNat, Int.reduceLT, Int.reduceLE, Nat.one_mul, Nat.mul_one] <;> rfl, hR, hE, fun s hs => by simp at hs, by omega, hv, hx1, hge⟩ ?_
    clear hR hE hEl hv hx1 ha1 hi hge
    rintro _ _ m1 ⟨i, E, v, hi, rfl, rfl, hR, hA, hE, hEl, hv, hx1, hge⟩
    have ha1 := hb.keep hbb hx1
    simp only [RB.ref05_ends_1, go_sem, Bool.false_and, new_set, Int.reduceBEq, Int.reduceBNe, Int.reduceNeg, not_true_eq_false, beq_self_eq_true, bne_self_eq_false, Bool.false_eq_true, if_false, if_true, Int.cast_ofNat_Int, decide_true, decide_false, reduceCtorEq, Nat.reduceEqDiff, Nat.reduceAdd, ne_eq, not_false_eq_true, Option.map_some, Option.bind_some, Option.map_none, Option.bind_none, true_and, and_true, Bool.not_true, Bool.not_false, Nat.reduceLeDiff, Nat.reduceMul, Nat.reduceSub, Nat.le_refl, Int.reduceToNat, Int.reduceLT, Int.reduceLE, Nat.one_mul, Nat.mul_one, ha1.len]
    refine gT.of (fun g2' => ?_) (fun g2' => ?_) <;> (have g2 := g2'; try simp only [decide_eq_true_eq, decide_eq_false_iff_not, beq_iff_eq, bne_iff_ne, beq_eq_false_iff_ne, ne_eq, Bool.not_eq_true', Bool.not_eq_false', bne_eq_false_iff_eq, Int.not_lt, Int.not_le] at g2)
    · have hil : i < b.length := by omega
      obtain ⟨p, o, a1, -, a3, a4⟩ := ha1.elem spV_len (k := .i64) hil
      have c1 : aLoad false 1 m1 (.pointer (some ⟨p, o + 0, none⟩)) = some (.int .i64 b[i].1) := a3 0 (by omega)
      have hpn : p < m1.next := a4 (hbb.keep hx1)
      have c2 : aLoad false 1 m1 (.pointer (some ⟨p, o + 1, none⟩)) = some (.int .i64 b[i].2) := a3 1 (by omega)
      simp only [go_sem, Bool.false_and, new_set, Int.reduceBEq, Int.reduceBNe, Int.reduceNeg, not_true_eq_false, beq_self_eq_true, bne_self_eq_false, Bool.false_eq_true, if_false, if_true, Int.cast_ofNat_Int, decide_true, decide_false, reduceCtorEq, Nat.reduceEqDiff, Nat.reduceAdd, ne_eq, not_false_eq_true, Option.map_some, Option.bind_some, Option.map_none, Option.bind_none, true_and, and_true, Bool.not_true, Bool.not_false, Nat.reduceLeDiff, Nat.reduceMul, Nat.reduceSub, Nat.le_refl, Int.reduceToNat, Int.reduceLT, Int.reduceLE, Nat.one_mul, Nat.mul_one, g2', a1, c1, c2]
      refine gC.of (refWith hv hR (by omega)) ?_
      rintro v2 m2 ⟨⟨E2, hR2, hE2, hl2, hv2⟩, hx2, hg2⟩
      simp only [go_sem, Bool.false_and, new_set, Int.reduceBEq, Int.reduceBNe, Int.reduceNeg, not_true_eq_false, beq_self_eq_true, bne_self_eq_false, Bool.false_eq_true, if_false, if_true, Int.cast_ofNat_Int, decide_true, decide_false, reduceCtorEq, Nat.reduceEqDiff, Nat.reduceAdd, ne_eq, not_false_eq_true, Option.map_some, Option.bind_some, Option.map_none, Option.bind_none, true_and, and_true, Bool.not_true, Bool.not_false, Nat.reduceLeDiff, Nat.reduceMul, Nat.reduceSub, Nat.le_refl, Int.reduceToNat, Int.reduceLT, Int.reduceLE, Nat.one_mul, Nat.mul_one, a1, c2, watchOk_cons, watchOk_nil, blkOf_ptr, hx2.same p hpn]
      refine gC.of (refWith hv2 hR2 (by omega)) ?_
      rintro v3 m3 ⟨⟨E3, hR3, hE3, hl3, hv3⟩, hx3, hg3⟩
      simp only [go_sem, Bool.false_and, new_set, Int.reduceBEq, Int.reduceBNe, Int.reduceNeg, not_true_eq_false, beq_self_eq_true, bne_self_eq_false, Bool.false_eq_true, if_false, if_true, Int.cast_ofNat_Int, decide_true, decide_false, reduceCtorEq, Nat.reduceEqDiff, Nat.reduceAdd, ne_eq, not_false_eq_true, Option.map_some, Option.bind_some, Option.map_none, Option.bind_none, true_and, and_true, Bool.not_true, Bool.not_false, Nat.reduceLeDiff, Nat.reduceMul, Nat.reduceSub, Nat.le_refl, Int.reduceToNat, Int.reduceLT, Int.reduceLE, Nat.one_mul, Nat.mul_one, step1 (show i < 1000000 by omega)]
      refine ⟨b.length - (i + 1), by omega, i + 1, E3, v3, by omega, rfl, rfl, hR3, hA.more fun y hy => (hE3 _).2 (.inl ((hE2 _).2 (.inl hy))), ?_, by omega, hv3, (hx1.trans hx2).trans hx3, fun b hb => by
      have := hx1.next; have := hx2.next
      rcases hg3 b hb with h | h
      · rcases hg2 b h with h | h
        · exact hge b h
        · omega
      · omega⟩
      rw [List.take_succ_eq_append_getElem hil]
      intro s hs
      rcases List.mem_append.1 hs with h | h
      · obtain ⟨h1, h2⟩ := hE s h
        exact ⟨(hE3 _).2 (.inl ((hE2 _).2 (.inl h1))), (hE3 _).2 (.inl ((hE2 _).2 (.inl h2)))⟩
      · rw [List.mem_singleton.1 h]
        exact ⟨(hE3 _).2 (.inl ((hE2 _).2 (.inr rfl))), (hE3 _).2 (.inr rfl)⟩
    · have : i = b.length := by omega
      subst this
      rw [List.take_length] at hE
      simp only [go_sem, Bool.false_and, new_set, Int.reduceBEq, Int.reduceBNe, Int.reduceNeg, not_true_eq_false, beq_self_eq_true, bne_self_eq_false, Bool.false_eq_true, if_false, if_true, Int.cast_ofNat_Int, decide_true, decide_false, reduceCtorEq, Nat.reduceEqDiff, Nat.reduceAdd, ne_eq, not_false_eq_true, Option.map_some, Option.bind_some, Option.map_none, Option.bind_none, true_and, and_true, Bool.not_true, Bool.not_false, Nat.reduceLeDiff, Nat.reduceMul, Nat.reduceSub, Nat.le_refl, Int.reduceToNat, Int.reduceLT, Int.reduceLE, Nat.one_mul, Nat.mul_one, g2']
      exact ⟨⟨E, hR, hA, hE, by omega, hv⟩, hx1, hge⟩
end Go.Am


/- Spans: the reference's row of what is in. -/
set_option linter.unusedVariables false
set_option linter.unusedSimpArgs false
namespace Go.Am
variable {m : Mem}

def kindOf (k : Int) (p q : Bool) : Bool := if k = 1 then p && q else if k = 2 then p && !q else p || q
def KIn (k : Int) (a b : List Sp) (x : Int) : Prop := kindOf k (hasS a x) (hasS b x) = true

theorem rise_lt {E : List Int} (h : Rise E) {i j : Nat} (hi : i < E.length) (hj : j < E.length) (hij : i < j) : E[i] < E[j] := (List.pairwise_iff_getElem.1 h) i j hi hj hij
theorem rise_le {E : List Int} (h : Rise E) {i j : Nat} (hi : i < E.length) (hj : j < E.length) (hij : i ≤ j) : E[i] ≤ E[j] := by
  by_cases e : i = j
  · subst e; omega
  · have := rise_lt h hi hj (by omega); omega

/-- Between two ends all numbers are alike. -/
theorem seg {a : List Sp} {E : List Int} (hR : Rise E) (hE : EndsIn a E) {i : Nat} (hi : i + 1 < E.length) {x : Int} (h1 : E[i] ≤ x) (h2 : x < E[i + 1]) : hasS a x = hasS a E[i] := by
  have side : ∀ y ∈ E, (y ≤ x ↔ y ≤ E[i]) := fun y hy => by
    obtain ⟨j, hj, rfl⟩ := List.getElem_of_mem hy
    by_cases h : j ≤ i
    · have := rise_le hR hj (show i < E.length by omega) h
      constructor <;> intro <;> omega
    · have := rise_le hR hi hj (show i + 1 ≤ j by omega)
      constructor <;> intro <;> omega
  refine hasS_eq ?_
  unfold InS
  constructor
  · rintro ⟨s, hs, h3, h4⟩
    obtain ⟨e1, e2⟩ := hE s hs
    have k1 := side _ e1
    have k2 := side _ e2
    exact ⟨s, hs, k1.1 h3, by omega⟩
  · rintro ⟨s, hs, h3, h4⟩
    obtain ⟨e1, e2⟩ := hE s hs
    have k1 := side _ e1
    have k2 := side _ e2
    exact ⟨s, hs, k1.2 h3, by omega⟩

theorem KIn.seg {k : Int} {a b : List Sp} {E : List Int} (hR : Rise E) (hA : EndsIn a E) (hB : EndsIn b E) {i : Nat} (hi : i + 1 < E.length) {x : Int} (h1 : E[i] ≤ x) (h2 : x < E[i + 1]) : KIn k a b x ↔ KIn k a b E[i] := by
  unfold KIn; rw [Go.Am.seg hR hA hi h1 h2, Go.Am.seg hR hB hi h1 h2]

theorem KIn.some {k : Int} {a b : List Sp} {x : Int} (h : KIn k a b x) : InS a x ∨ InS b x := by
  rw [← hasS_iff, ← hasS_iff]
  unfold KIn kindOf at h
  split at h
  · rw [Bool.and_eq_true] at h; exact .inl h.1
  · split at h
    · rw [Bool.and_eq_true] at h; exact .inl h.1
    · rw [Bool.or_eq_true] at h; exact h
theorem KIn.ends {k : Int} {a b : List Sp} {E : List Int} (hA : EndsIn a E) (hB : EndsIn b E) {x : Int} (h : KIn k a b x) : ∃ y ∈ E, ∃ z ∈ E, y ≤ x ∧ x < z := by
  rcases h.some with ⟨s, hs, h1⟩ | ⟨s, hs, h1⟩
  · exact ⟨s.1, (hA s hs).1, s.2, (hA s hs).2, h1⟩
  · exact ⟨s.1, (hB s hs).1, s.2, (hB s hs).2, h1⟩

/-- What stands behind the ends that were looked at. -/
structure OpI (k : Int) (a b : List Sp) (E : List Int) (i : Nat) (r : List Sp) : Prop where
  rt : Rt r
  mem : ∀ h : i < E.length, ∀ x, InS r x ↔ KIn k a b x ∧ x < E[i]
  last : ∀ h : i < E.length, ∀ t ∈ r, t.2 ≤ E[i]
  len : r.length ≤ i

theorem OpI.start {k : Int} {a b : List Sp} {E : List Int} (hR : Rise E) (hA : EndsIn a E) (hB : EndsIn b E) : OpI k a b E 0 [] :=
  ⟨Rt.nil, fun h x => ⟨fun h => absurd h InS.nil, fun ⟨h1, h2⟩ => by
    obtain ⟨y, hy, z, hz, h3, h4⟩ := h1.ends hA hB
    obtain ⟨j, hj, rfl⟩ := List.getElem_of_mem hy
    have := rise_le hR h hj (Nat.zero_le _)
    omega⟩, by simp, by simp⟩
theorem OpI.end {k : Int} {a b : List Sp} {E : List Int} {i : Nat} {r : List Sp} (h : OpI k a b E i r) (hR : Rise E) (hA : EndsIn a E) (hB : EndsIn b E) (hi : E.length ≤ i + 1) (hz : i < E.length ∨ E.length = 0) (hi0 : E.length = 0 → i = 0) : Rt r ∧ ∀ x, InS r x ↔ KIn k a b x := by
  refine ⟨h.rt, fun x => ?_⟩
  by_cases h0 : i < E.length
  · rw [h.mem h0]
    refine ⟨fun h => h.1, fun h1 => ⟨h1, ?_⟩⟩
    obtain ⟨y, hy, z, hz, h3, h4⟩ := h1.ends hA hB
    obtain ⟨j, hj, rfl⟩ := List.getElem_of_mem hz
    have := rise_le hR hj h0 (by omega)
    omega
  · have h2 : E.length = 0 := hz.resolve_left h0
    have hi0 : i = 0 := hi0 h2
    have hr : r = [] := List.eq_nil_of_length_eq_zero (by have := h.len; omega)
    rw [hr]
    refine ⟨fun h => absurd h InS.nil, fun h1 => ?_⟩
    obtain ⟨y, hy, -⟩ := h1.ends hA hB
    rw [List.eq_nil_of_length_eq_zero h2] at hy; simp at hy
theorem OpI.no {k : Int} {a b : List Sp} {E : List Int} {i : Nat} {r : List Sp} (h : OpI k a b E i r) (hR : Rise E) (hA : EndsIn a E) (hB : EndsIn b E) (hi : i + 1 < E.length) (hn : ¬ KIn k a b E[i]) : OpI k a b E (i + 1) r := by
  refine ⟨h.rt, fun _ x => ?_, fun _ t ht => ?_, by have := h.len; omega⟩
  · rw [h.mem (by omega)]
    have := rise_lt hR (show i < E.length by omega) hi (by omega)
    refine ⟨fun h => ⟨h.1, by omega⟩, fun ⟨h1, h2⟩ => ⟨h1, ?_⟩⟩
    by_cases h3 : x < E[i]
    · exact h3
    · exact absurd ((KIn.seg hR hA hB hi (by omega) h2).1 h1) hn
  · have := rise_lt hR (show i < E.length by omega) hi (by omega)
    have := h.last (by omega) t ht
    omega
theorem OpI.put {k : Int} {a b : List Sp} {E : List Int} {i : Nat} {r : List Sp} (h : OpI k a b E i r) (hR : Rise E) (hA : EndsIn a E) (hB : EndsIn b E) (hi : i + 1 < E.length) (hn : KIn k a b E[i]) (hl : ∀ t ∈ r, t.2 ≠ E[i]) : OpI k a b E (i + 1) (r ++ [(E[i], E[i + 1])]) := by
  have hlt := rise_lt hR (show i < E.length by omega) hi (by omega)
  have hl0 := h.last (by omega)
  refine ⟨h.rt.put hlt fun t ht => ?_, fun _ x => ?_, fun _ t ht => ?_, by have := h.len; simp; omega⟩
  · have := hl t ht; have := hl0 t ht
    show t.2 < E[i]; omega
  · rw [InS.snoc, h.mem (by omega)]
    constructor
    · rintro (⟨h1, h2⟩ | ⟨h1, h2⟩)
      · exact ⟨h1, by omega⟩
      · exact ⟨(KIn.seg hR hA hB hi h1 h2).2 hn, h2⟩
    · rintro ⟨h1, h2⟩
      by_cases h3 : x < E[i]
      · exact .inl ⟨h1, h3⟩
      · exact .inr ⟨by show E[i] ≤ x; omega, h2⟩
  · rcases List.mem_append.1 ht with h | h
    · have := hl0 t h; omega
    · rw [List.mem_singleton.1 h]; show E[i + 1] ≤ E[i + 1]; omega
theorem OpI.more {k : Int} {a b : List Sp} {E : List Int} {i : Nat} {r : List Sp} {t : Sp} (h : OpI k a b E i (r ++ [t])) (hR : Rise E) (hA : EndsIn a E) (hB : EndsIn b E) (hi : i + 1 < E.length) (hn : KIn k a b E[i]) (hl : t.2 = E[i]) : OpI k a b E (i + 1) (r ++ [(t.1, E[i + 1])]) := by
  have hlt := rise_lt hR (show i < E.length by omega) hi (by omega)
  have hl0 := h.last (by omega)
  have ht1 := (Rt.snoc.1 h.rt).2.1
  refine ⟨h.rt.more (by omega), fun _ x => ?_, fun _ u hu => ?_, by have := h.len; simp at this ⊢; omega⟩
  · have hm := h.mem (by omega) x
    rw [InS.snoc] at hm ⊢
    constructor
    · rintro (h1 | ⟨h1, h2⟩)
      · have := hm.1 (.inl h1)
        exact ⟨this.1, by omega⟩
      · by_cases h3 : x < E[i]
        · have := hm.1 (.inr ⟨h1, by omega⟩)
          exact ⟨this.1, by omega⟩
        · exact ⟨(KIn.seg hR hA hB hi (by omega) h2).2 hn, h2⟩
    · rintro ⟨h1, h2⟩
      by_cases h3 : x < E[i]
      · rcases hm.2 ⟨h1, h3⟩ with h | h
        · exact .inl h
        · exact .inr ⟨h.1, h2⟩
      · exact .inr ⟨by show t.1 ≤ x; omega, h2⟩
  · rcases List.mem_append.1 hu with h | h
    · have := hl0 u (by simp [h]); omega
    · rw [List.mem_singleton.1 h]; show E[i + 1] ≤ E[i + 1]; omega

set_option maxHeartbeats 4000000 in
theorem refOp {k : Int} {a b : List Sp} {va vbv : Value} (ha : Sl m 2 a.length (a.flatMap spV) va) (hab : SlLt m va) (hb : Sl m 2 b.length (b.flatMap spV) vbv) (hbb : SlLt m vbv) (hal : a.length < 10000) (hbl : b.length < 10000) :
    WC R F.ref05_Op [.int .i64 k, va, vbv] m fun rv m' => ∃ r, (Rt r ∧ ∀ x, InS r x ↔ KIn k a b x) ∧ r.length ≤ 100000 ∧ Own m m' 2 r.length (r.flatMap spV) rv ∧ Ext m m' := by
  refine WC.of R.ref05_Op rfl ?_
  simp only [RC.ref05_Op, go_sem, Bool.false_and, new_set, Int.reduceBEq, Int.reduceBNe, Int.reduceNeg, not_true_eq_false, beq_self_eq_true, bne_self_eq_false, Bool.false_eq_true, if_false, if_true, Int.cast_ofNat_Int, decide_true, decide_false, reduceCtorEq, Nat.reduceEqDiff, Nat.reduceAdd, ne_eq, not_false_eq_true, Option.map_some, Option.bind_some, Option.map_none, Option.bind_none, true_and, and_true, Bool.not_true, Bool.not_false, Nat.reduceLeDiff, Nat.reduceMul, Nat.reduceSub, Nat.le_refl, Int.reduceToNat, Int.reduceLT, Int.reduceLE, Nat.one_mul, Nat.mul_one]
  have hx0 : Ext m (m.new (.cells [] (some 2))) := Ext.new
  have hb0 : Bk (m.new (.cells [] (some 2))) m.next [] 2 := Bk.new
  have hn0 : (m.new (.cells [] (some 2))).next = m.next + 1 := rfl
  generalize m.new (.cells [] (some 2)) = m0 at hx0 hb0 hn0 ⊢
  refine gC.of (refEnds (ha.keep hab hx0) (hab.keep hx0) (hb.keep hbb hx0) (hbb.keep hx0) hal hbl) ?_
  rintro ev m1 ⟨⟨E, hR, hA, hB, hEl, hE⟩, hx1, hge⟩
  have hqE : SlOff [m.next] ev := SlOff.vb_iff.2 fun b hb => by have := hge b hb; simp; omega
  have hb1 := hb0.keep hx1
  have hO0 : OwnQ m m1 m1 m.next 2 0 [] (.slice (some ⟨m.next, 0, none⟩) 0 0) :=
    ⟨.at (all := []) (Nat.le_refl _) hb1.lt (Nat.le_refl _) hb1.at_ rfl rfl rfl, Upd.refl _ _, fun b hb => .inl (by simpa [vb] using hb), hx0.trans hx1⟩
  simp only [go_sem, Bool.false_and, new_set, Int.reduceBEq, Int.reduceBNe, Int.reduceNeg, not_true_eq_false, beq_self_eq_true, bne_self_eq_false, Bool.false_eq_true, if_false, if_true, Int.cast_ofNat_Int, decide_true, decide_false, reduceCtorEq, Nat.reduceEqDiff, Nat.reduceAdd, ne_eq, not_false_eq_true, Option.map_some, Option.bind_some, Option.map_none, Option.bind_none, true_and, and_true, Bool.not_true, Bool.not_false, Nat.reduceLeDiff, Nat.reduceMul, Nat.reduceSub, Nat.le_refl, Int.reduceToNat, Int.reduceLT, Int.reduceLE, Nat.one_mul, Nat.mul_one]
  refine WL.of (fun n e m' => ∃ (i : Nat) (r : List Sp) (rv : Value), (i < E.length ∨ E.length = 0) ∧ (E.length = 0 → i = 0) ∧ n = E.length - i ∧ e = [(0, .int .i64 k), (1, va), (2, vbv), (7, rv), (8, ev), (9, .int .i64 i)] ∧
      OpI k a b E i r ∧ OwnQ m m1 m' m.next 2 r.length (r.flatMap spV) rv) E.length
    ⟨0, [], _, by omega, by omega, by omega, by simp only [go_sem, Bool.false_and, new_set, Int.reduceBEq, Int.reduceBNe, Int.reduceNeg, not_true_eq_false, beq_self_eq_true, bne_self_eq_false, Bool.false_eq_true, if_false, if_true, Int.cast_ofNat_Int, decide_true, decide_false, reduceCtorEq, Nat.reduceEqDiff, Nat.reduceAdd, ne_eq, not_false_eq_true, Option.map_some, Option.bind_some, Option.map_none, Option.bind_none, true_and, and_true, Bool.not_true, Bool.not_false, Nat.reduceLeDiff, Nat.reduceMul, Nat.reduceSub, Nat.le_refl, Int.reduceToNat, Int.reduceLT, Int.reduceLE, Nat.one_mul, Nat.mul_one] <;> rfl, OpI.start hR hA hB, hO0⟩ ?_
  rintro _ _ m2 ⟨i, r, rv, hi, hi0, rfl, rfl, hI, hO⟩
  have hEs : Sl m2 1 E.length (intsZ E) ev := hE.sl.upd hE.lt hqE hO.upd
  have hElt : SlLt m2 ev := hE.lt.upd hO.upd
  have s1 := step1 (show i < 1000000 by omega)
  have hrl := hI.len
  simp only [RB.ref05_Op_1, go_sem, Bool.false_and, new_set, Int.reduceBEq, Int.reduceBNe, Int.reduceNeg, not_true_eq_false, beq_self_eq_true, bne_self_eq_false, Bool.false_eq_true, if_false, if_true, Int.cast_ofNat_Int, decide_true, decide_false, reduceCtorEq, Nat.reduceEqDiff, Nat.reduceAdd, ne_eq, not_false_eq_true, Option.map_some, Option.bind_some, Option.map_none, Option.bind_none, true_and, and_true, Bool.not_true, Bool.not_false, Nat.reduceLeDiff, Nat.reduceMul, Nat.reduceSub, Nat.le_refl, Int.reduceToNat, Int.reduceLT, Int.reduceLE, Nat.one_mul, Nat.mul_one, s1, hEs.len]
  refine gT.of (fun g1' => ?_) (fun g1' => ?_) <;> (have g1 := g1'; try simp only [decide_eq_true_eq, decide_eq_false_iff_not, beq_iff_eq, bne_iff_ne, beq_eq_false_iff_ne, ne_eq, Bool.not_eq_true', Bool.not_eq_false', bne_eq_false_iff_eq, Int.not_lt, Int.not_le] at g1)
  · have hil : i + 1 < E.length := by omega
    obtain ⟨p, a1, a2⟩ := hEs.get (k := .i64) (show i < E.length by omega)
    obtain ⟨p', a1', a2'⟩ := hEs.get (k := .i64) hil
    rw [intsZ_get (show i < E.length by omega)] at a2
    rw [intsZ_get hil] at a2'
    simp only [go_sem, Bool.false_and, new_set, Int.reduceBEq, Int.reduceBNe, Int.reduceNeg, not_true_eq_false, beq_self_eq_true, bne_self_eq_false, Bool.false_eq_true, if_false, if_true, Int.cast_ofNat_Int, decide_true, decide_false, reduceCtorEq, Nat.reduceEqDiff, Nat.reduceAdd, ne_eq, not_false_eq_true, Option.map_some, Option.bind_some, Option.map_none, Option.bind_none, true_and, and_true, Bool.not_true, Bool.not_false, Nat.reduceLeDiff, Nat.reduceMul, Nat.reduceSub, Nat.le_refl, Int.reduceToNat, Int.reduceLT, Int.reduceLE, Nat.one_mul, Nat.mul_one, g1', a1, a2]
    refine gC.of (refHas (ha.keep hab hO.ext) (by omega)) ?_
    rintro _ _ ⟨rfl, hm⟩
    subst hm
    simp only [go_sem, Bool.false_and, new_set, Int.reduceBEq, Int.reduceBNe, Int.reduceNeg, not_true_eq_false, beq_self_eq_true, bne_self_eq_false, Bool.false_eq_true, if_false, if_true, Int.cast_ofNat_Int, decide_true, decide_false, reduceCtorEq, Nat.reduceEqDiff, Nat.reduceAdd, ne_eq, not_false_eq_true, Option.map_some, Option.bind_some, Option.map_none, Option.bind_none, true_and, and_true, Bool.not_true, Bool.not_false, Nat.reduceLeDiff, Nat.reduceMul, Nat.reduceSub, Nat.le_refl, Int.reduceToNat, Int.reduceLT, Int.reduceLE, Nat.one_mul, Nat.mul_one, a1, a2]
    refine gC.of (refHas (hb.keep hbb hO.ext) (by omega)) ?_
    rintro _ _ ⟨rfl, hm⟩
    subst hm
    have hK : KIn k a b E[i] ↔ kindOf k (hasS a E[i]) (hasS b E[i]) = true := Iff.rfl
    generalize hasS a E[i] = p1, hasS b E[i] = q1 at hK ⊢
    have hk3 : ((k == 1) = true ∧ kindOf k p1 q1 = (p1 && q1)) ∨ ((k == 1) = false ∧ (k == 2) = true ∧ kindOf k p1 q1 = (p1 && !q1)) ∨ ((k == 1) = false ∧ (k == 2) = false ∧ kindOf k p1 q1 = (p1 || q1)) := by
      unfold kindOf
      by_cases h1 : k = 1
      · exact .inl ⟨by simp [h1], by simp [h1]⟩
      · by_cases h2 : k = 2
        · exact .inr (.inl ⟨by simp [h2], by simp [h2], by simp [h2]⟩)
        · exact .inr (.inr ⟨by simp [h1], by simp [h2], by simp [h1, h2]⟩)
    have k12 : (k == 1) = true → (k == 2) = false := fun h => by simp at h; subst h; rfl
    have hno : kindOf k p1 q1 = false → OpI k a b E (i + 1) r := fun h => hI.no hR hA hB hil (by rw [hK, h]; simp)
    have hyes : kindOf k p1 q1 = true → KIn k a b E[i] := fun h => hK.2 h
    clear hK
    rcases hk3 with ⟨e1, e3⟩ | ⟨e1, e2, e3⟩ | ⟨e1, e2, e3⟩ <;> (try have e2 := k12 e1) <;> rw [e3] at hno hyes <;> clear e3 k12 <;> cases p1 <;> cases q1 <;> simp only [go_sem, Bool.false_and, new_set, Int.reduceBEq, Int.reduceBNe, Int.reduceNeg, not_true_eq_false, beq_self_eq_true, bne_self_eq_false, Bool.false_eq_true, if_false, if_true, Int.cast_ofNat_Int, decide_true, decide_false, reduceCtorEq, Nat.reduceEqDiff, Nat.reduceAdd, ne_eq, not_false_eq_true, Option.map_some, Option.bind_some, Option.map_none, Option.bind_none, true_and, and_true, Bool.not_true, Bool.not_false, Nat.reduceLeDiff, Nat.reduceMul, Nat.reduceSub, Nat.le_refl, Int.reduceToNat, Int.reduceLT, Int.reduceLE, Nat.one_mul, Nat.mul_one, e1, e2, s1] <;>
      first
      | exact ⟨E.length - (i + 1), by omega, i + 1, r, rv, .inl (by omega), by omega, rfl, rfl, hno rfl, hO⟩
      | skip
    all_goals (replace hyes := hyes rfl; clear hno)
    all_goals simp only [go_sem, Bool.false_and, new_set, Int.reduceBEq, Int.reduceBNe, Int.reduceNeg, not_true_eq_false, beq_self_eq_true, bne_self_eq_false, Bool.false_eq_true, if_false, if_true, Int.cast_ofNat_Int, decide_true, decide_false, reduceCtorEq, Nat.reduceEqDiff, Nat.reduceAdd, ne_eq, not_false_eq_true, Option.map_some, Option.bind_some, Option.map_none, Option.bind_none, true_and, and_true, Bool.not_true, Bool.not_false, Nat.reduceLeDiff, Nat.reduceMul, Nat.reduceSub, Nat.le_refl, Int.reduceToNat, Int.reduceLT, Int.reduceLE, Nat.one_mul, Nat.mul_one, hO.own.sl.len]
    all_goals obtain ⟨v', m', f1, f2⟩ := hO.appD (by_ := 16) (N := 14) (s := 11) (t := 12) (es := spV (E[i], E[i + 1])) rfl rfl (by omega) (by omega) (by omega) (by omega)
    all_goals rw [← spSnoc, show r.length + 1 = (r ++ [(E[i], E[i + 1])]).length by simp] at f2
    all_goals have putA : (∀ t ∈ r, t.2 ≠ E[i]) → OpI k a b E (i + 1) (r ++ [(E[i], E[i + 1])]) := fun h => hI.put hR hA hB hil hyes h
    all_goals simp only [spV] at f1
    all_goals rcases snoc_or r with hr | ⟨r0, t, hr⟩
    all_goals first
    | have e0 : decide (0 < (r.length : Int)) = false := by subst hr; rfl
      simp only [go_sem, Bool.false_and, new_set, Int.reduceBEq, Int.reduceBNe, Int.reduceNeg, not_true_eq_false, beq_self_eq_true, bne_self_eq_false, Bool.false_eq_true, if_false, if_true, Int.cast_ofNat_Int, decide_true, decide_false, reduceCtorEq, Nat.reduceEqDiff, Nat.reduceAdd, ne_eq, not_false_eq_true, Option.map_some, Option.bind_some, Option.map_none, Option.bind_none, true_and, and_true, Bool.not_true, Bool.not_false, Nat.reduceLeDiff, Nat.reduceMul, Nat.reduceSub, Nat.le_refl, Int.reduceToNat, Int.reduceLT, Int.reduceLE, Nat.one_mul, Nat.mul_one, e0, a1, a2, s1, a1', a2']
      rw [f1]
      simp only [go_sem, Bool.false_and, new_set, Int.reduceBEq, Int.reduceBNe, Int.reduceNeg, not_true_eq_false, beq_self_eq_true, bne_self_eq_false, Bool.false_eq_true, if_false, if_true, Int.cast_ofNat_Int, decide_true, decide_false, reduceCtorEq, Nat.reduceEqDiff, Nat.reduceAdd, ne_eq, not_false_eq_true, Option.map_some, Option.bind_some, Option.map_none, Option.bind_none, true_and, and_true, Bool.not_true, Bool.not_false, Nat.reduceLeDiff, Nat.reduceMul, Nat.reduceSub, Nat.le_refl, Int.reduceToNat, Int.reduceLT, Int.reduceLE, Nat.one_mul, Nat.mul_one, s1]
      exact ⟨E.length - (i + 1), by omega, i + 1, r ++ [(E[i], E[i + 1])], v', .inl (by omega), by omega, rfl, rfl, putA (by subst hr; simp), f2⟩
    | have hrn : r.length = r0.length + 1 := by subst hr; simp
      have e0 : decide (0 < (r.length : Int)) = true := by rw [decide_eq_true_eq]; omega
      have w1 : IntKind.wrap .i64 ((r.length : Int) - 1) = ((r0.length : Nat) : Int) := by rw [wrap_i64 (by omega) (by omega)]; omega
      have hri : r0.length < r.length := by omega
      obtain ⟨b2, o2, d1, -, d3, -⟩ := hO.own.sl.elem spV_len (k := .i64) hri
      have hrt0 : r[r0.length] = t := by subst hr; simp
      rw [hrt0] at d3
      have d4 : aLoad false 1 _ (.pointer (some ⟨b2, o2 + 1, none⟩)) = some (.int .i64 t.2) := d3 1 (by omega)
      simp only [go_sem, Bool.false_and, new_set, Int.reduceBEq, Int.reduceBNe, Int.reduceNeg, not_true_eq_false, beq_self_eq_true, bne_self_eq_false, Bool.false_eq_true, if_false, if_true, Int.cast_ofNat_Int, decide_true, decide_false, reduceCtorEq, Nat.reduceEqDiff, Nat.reduceAdd, ne_eq, not_false_eq_true, Option.map_some, Option.bind_some, Option.map_none, Option.bind_none, true_and, and_true, Bool.not_true, Bool.not_false, Nat.reduceLeDiff, Nat.reduceMul, Nat.reduceSub, Nat.le_refl, Int.reduceToNat, Int.reduceLT, Int.reduceLE, Nat.one_mul, Nat.mul_one, e0, w1, d1, d4, a1, a2]
      refine gT.of (fun g2' => ?_) (fun g2' => ?_) <;> (have g2 := g2'; try simp only [decide_eq_true_eq, decide_eq_false_iff_not, beq_iff_eq, bne_iff_ne, beq_eq_false_iff_ne, ne_eq, Bool.not_eq_true', Bool.not_eq_false', bne_eq_false_iff_eq, Int.not_lt, Int.not_le] at g2)
      · obtain ⟨b3, mp, p1, p2, p3⟩ := hO.put (k := .i64) (o := 1) (w := .int .i64 E[i + 1]) hri (by omega) rfl rfl
        rw [d1] at p1
        cases p1
        simp only [go_sem, Bool.false_and, new_set, Int.reduceBEq, Int.reduceBNe, Int.reduceNeg, not_true_eq_false, beq_self_eq_true, bne_self_eq_false, Bool.false_eq_true, if_false, if_true, Int.cast_ofNat_Int, decide_true, decide_false, reduceCtorEq, Nat.reduceEqDiff, Nat.reduceAdd, ne_eq, not_false_eq_true, Option.map_some, Option.bind_some, Option.map_none, Option.bind_none, true_and, and_true, Bool.not_true, Bool.not_false, Nat.reduceLeDiff, Nat.reduceMul, Nat.reduceSub, Nat.le_refl, Int.reduceToNat, Int.reduceLT, Int.reduceLE, Nat.one_mul, Nat.mul_one, g2', d1, w1, s1, a1', a2', p2]
        rw [show r.flatMap spV = (r0 ++ [t]).flatMap spV by rw [hr], spSet] at p3
        have hlr : r.length = (r0 ++ [(t.1, E[i + 1])]).length := by simp [hrn]
        rw [hlr] at p3
        refine ⟨E.length - (i + 1), by omega, i + 1, r0 ++ [(t.1, E[i + 1])], rv, .inl (by omega), by omega, rfl, rfl, ?_, p3⟩
        subst hr
        exact hI.more hR hA hB hil hyes g2
      · simp only [go_sem, Bool.false_and, new_set, Int.reduceBEq, Int.reduceBNe, Int.reduceNeg, not_true_eq_false, beq_self_eq_true, bne_self_eq_false, Bool.false_eq_true, if_false, if_true, Int.cast_ofNat_Int, decide_true, decide_false, reduceCtorEq, Nat.reduceEqDiff, Nat.reduceAdd, ne_eq, not_false_eq_true, Option.map_some, Option.bind_some, Option.map_none, Option.bind_none, true_and, and_true, Bool.not_true, Bool.not_false, Nat.reduceLeDiff, Nat.reduceMul, Nat.reduceSub, Nat.le_refl, Int.reduceToNat, Int.reduceLT, Int.reduceLE, Nat.one_mul, Nat.mul_one, g2', a1, a2, s1, a1', a2']
        rw [f1]
        simp only [go_sem, Bool.false_and, new_set, Int.reduceBEq, Int.reduceBNe, Int.reduceNeg, not_true_eq_false, beq_self_eq_true, bne_self_eq_false, Bool.false_eq_true, if_false, if_true, Int.cast_ofNat_Int, decide_true, decide_false, reduceCtorEq, Nat.reduceEqDiff, Nat.reduceAdd, ne_eq, not_false_eq_true, Option.map_some, Option.bind_some, Option.map_none, Option.bind_none, true_and, and_true, Bool.not_true, Bool.not_false, Nat.reduceLeDiff, Nat.reduceMul, Nat.reduceSub, Nat.le_refl, Int.reduceToNat, Int.reduceLT, Int.reduceLE, Nat.one_mul, Nat.mul_one, s1]
        exact ⟨E.length - (i + 1), by omega, i + 1, r ++ [(E[i], E[i + 1])], v', .inl (by omega), by omega, rfl, rfl, putA (fun u hu => by
          subst hr
          have h1 := hI.rt.last hu
          have h2 := hI.last (by omega) t (by simp)
          have h3 : ¬ t.2 = E[i] := g2
          omega), f2⟩
  · simp only [go_sem, Bool.false_and, new_set, Int.reduceBEq, Int.reduceBNe, Int.reduceNeg, not_true_eq_false, beq_self_eq_true, bne_self_eq_false, Bool.false_eq_true, if_false, if_true, Int.cast_ofNat_Int, decide_true, decide_false, reduceCtorEq, Nat.reduceEqDiff, Nat.reduceAdd, ne_eq, not_false_eq_true, Option.map_some, Option.bind_some, Option.map_none, Option.bind_none, true_and, and_true, Bool.not_true, Bool.not_false, Nat.reduceLeDiff, Nat.reduceMul, Nat.reduceSub, Nat.le_refl, Int.reduceToNat, Int.reduceLT, Int.reduceLE, Nat.one_mul, Nat.mul_one, g1']
    obtain ⟨h1, h2⟩ := hI.end hR hA hB (by omega) hi hi0
    exact ⟨r, ⟨h1, h2⟩, by omega, hO.own, hO.ext⟩
end Go.Am
