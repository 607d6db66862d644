/- Parts of the proofs of the statements of this seat: TablePlanX1, TablePlanX2, TablePlanX3, TablePlanX4, TablePlanX5, TablePlanM3, AmSl3, TableD, TableW, TableW2, TableW3. No conditions. -/
import Derived.Test.YtnnebejpegfkbaaDoorTableTwicePart4
import Derived.Test.YtnnebejpegfkbaaDoorTableTwicePart6
set_option linter.unusedVariables false
set_option linter.unusedSimpArgs false

/- PlanX1 over the table of table (relayset.py). -/
set_option linter.unusedVariables false
set_option linter.unusedSimpArgs false
namespace Go.Am
open Classical
variable {m : Mem}

def orW (l : List Pc) : BitVec 64 := l.foldl (fun a y => a ||| y.2) 0#64
theorem orW_succ {l : List Pc} {i : Nat} (h : i < l.length) : orW (l.take (i + 1)) = orW (l.take i) ||| l[i].2 := foldl_take h
def pcIn (p : PlanD) (ps : List Pc) (i : Nat) : Prop := ∃ h : i < ps.length, (ps[i].2 &&& ~~~ allB (fr p.frame).toNat) = 0#64 ∧ (ps[i].2 &&& orW (ps.take i)) = 0#64
def pcsP (p : PlanD) (x : Pl) : Prop := (∀ i, i < x.pieces.length → pcOk p x.pieces i ∧ pcIn p x.pieces i) ∧ 1 < x.pieces.length ∧ x.core = 0 ∧ (pop (orW x.pieces) : Int) = x.share

theorem PcV.prev {m : Mem} {l : List Pc} {v : Value} (h : PcV m l v) {i : Nat} (hi : i < l.length) : ∃ b o, aIdxS 2 v (.int .i64 i) = some (.pointer (some ⟨b, o, none⟩)) ∧ ∀ m', Ext m m' → aLoad false 1 m' (.pointer (some ⟨b, o, none⟩)) = some (.int .i64 l[i].1) := by
  obtain ⟨b, o, a1, a2, a3, a4⟩ := h.elem hi
  refine ⟨b, o, a1, fun m' hm => ?_⟩
  obtain ⟨b', o', c1, c2, c3, c4⟩ := (h.keep hm).elem hi
  rw [a1] at c1; cases c1
  have := c3 0 (by omega)
  simpa [pcV] using this

set_option maxHeartbeats 4000000 in
theorem pieces_spec {p : PlanD} {x : Pl} {v w : Value} (hv : PlanV m p v) (hw : PlV m x w) (hl : x.pieces.length < 1000000) : WC R F.plan_pieces [v, w] m fun r m' => r = .bool (decide (pcsP p x)) ∧ Ext m m' := by
  refine WC.of R.plan_pieces rfl ?_
  obtain ⟨pv, rfl, hp⟩ := hv
  obtain ⟨qv, rfl, hq⟩ := hw
  simp only [RC.plan_pieces, planV, plV, go_sem, Bool.false_and, new_set, Int.reduceBEq, Int.reduceBNe, Int.reduceNeg, not_true_eq_false, beq_self_eq_true, bne_self_eq_false, Bool.false_eq_true, if_false, if_true, Int.cast_ofNat_Int, decide_true, decide_false, reduceCtorEq, Nat.reduceEqDiff, Nat.reduceAdd, ne_eq, not_false_eq_true, Option.map_some, Option.bind_some, Option.map_none, Option.bind_none, true_and, and_true, Bool.not_true, Bool.not_false, Nat.reduceLeDiff, Nat.reduceMul, Nat.reduceSub, Nat.le_refl, Int.reduceToNat, Int.reduceLT, Int.reduceLE, Nat.one_mul, Nat.mul_one, hp.one, hq.one]
  have hx : Ext m (m.new (.cells [.int .i64 p.frame, u32 p.cores, pv] (some 3))) := Ext.new
  have hb : Bk (m.new (.cells [.int .i64 p.frame, u32 p.cores, pv] (some 3))) m.next [.int .i64 p.frame, u32 p.cores, pv] 3 := Bk.new
  generalize m.new (.cells [.int .i64 p.frame, u32 p.cores, pv] (some 3)) = m1 at hx hb ⊢
  have hx2 : Ext m1 (m1.new (.cells [.int .i64 x.unit, .int .i64 x.share, .int .i64 x.core, qv] (some 4))) := Ext.new
  have hb2 : Bk (m1.new (.cells [.int .i64 x.unit, .int .i64 x.share, .int .i64 x.core, qv] (some 4))) m1.next [.int .i64 x.unit, .int .i64 x.share, .int .i64 x.core, qv] 4 := Bk.new
  generalize m1.new (.cells [.int .i64 x.unit, .int .i64 x.share, .int .i64 x.core, qv] (some 4)) = m2 at hx2 hb2 ⊢
  have hb := hb.keep hx2
  have hp := (hp.keep hx).keep hx2
  have hq := (hq.keep hx).keep hx2
  try simp only [go_sem, Bool.false_and, new_set, Int.reduceBEq, Int.reduceBNe, Int.reduceNeg, not_true_eq_false, beq_self_eq_true, bne_self_eq_false, Bool.false_eq_true, if_false, if_true, Int.cast_ofNat_Int, decide_true, decide_false, reduceCtorEq, Nat.reduceEqDiff, Nat.reduceAdd, ne_eq, not_false_eq_true, Option.map_some, Option.bind_some, Option.map_none, Option.bind_none, true_and, and_true, Bool.not_true, Bool.not_false, Nat.reduceLeDiff, Nat.reduceMul, Nat.reduceSub, Nat.le_refl, Int.reduceToNat, Int.reduceLT, Int.reduceLE, Nat.one_mul, Nat.mul_one, load_w, load_a, store_b, idxS_b, set_blk, new_blk, set_next, new_next, len_s, ldW_c, ldA_c, stB_c, toArr_one, size_one, toList_toArr, size_toArr, List.length_cons, List.length_nil, List.getElem?_cons_zero, List.getElem?_cons_succ, Nat.zero_add, Nat.add_zero, hb2.at_, hq.len]
  refine WL.of (fun n e m' => ∃ i : Nat, i ≤ x.pieces.length ∧ n = x.pieces.length - i ∧ e = [(2, pt m.next), (3, pt m1.next), (5, u64 (orW (x.pieces.take i))), (9, qv), (10, .int .i64 x.pieces.length), (11, .int .i64 i)] ∧ (∀ j, j < i → pcOk p x.pieces j ∧ pcIn p x.pieces j) ∧ Ext m2 m') x.pieces.length
    ⟨0, by omega, by omega, by simp only [go_sem, Bool.false_and, new_set, Int.reduceBEq, Int.reduceBNe, Int.reduceNeg, not_true_eq_false, beq_self_eq_true, bne_self_eq_false, Bool.false_eq_true, if_false, if_true, Int.cast_ofNat_Int, decide_true, decide_false, reduceCtorEq, Nat.reduceEqDiff, Nat.reduceAdd, ne_eq, not_false_eq_true, Option.map_some, Option.bind_some, Option.map_none, Option.bind_none, true_and, and_true, Bool.not_true, Bool.not_false, Nat.reduceLeDiff, Nat.reduceMul, Nat.reduceSub, Nat.le_refl, Int.reduceToNat, Int.reduceLT, Int.reduceLE, Nat.one_mul, Nat.mul_one] <;> rfl, fun j hj => by omega, Ext.refl _⟩ ?_
  rintro _ _ m3 ⟨i, hi, rfl, rfl, hall, hx3⟩
  have hq3 := hq.keep hx3
  have hb3 := hb2.keep hx3
  have hc3 := hb.keep hx3
  simp only [RB.plan_pieces_1, pt, go_sem, Bool.false_and, new_set, Int.reduceBEq, Int.reduceBNe, Int.reduceNeg, not_true_eq_false, beq_self_eq_true, bne_self_eq_false, Bool.false_eq_true, if_false, if_true, Int.cast_ofNat_Int, decide_true, decide_false, reduceCtorEq, Nat.reduceEqDiff, Nat.reduceAdd, ne_eq, not_false_eq_true, Option.map_some, Option.bind_some, Option.map_none, Option.bind_none, true_and, and_true, Bool.not_true, Bool.not_false, Nat.reduceLeDiff, Nat.reduceMul, Nat.reduceSub, Nat.le_refl, Int.reduceToNat, Int.reduceLT, Int.reduceLE, Nat.one_mul, Nat.mul_one]
  refine gT.of (fun h4' => ?_) (fun h4' => ?_) <;> (have h4 := h4'; try simp only [decide_eq_true_eq, decide_eq_false_iff_not, beq_iff_eq, bne_iff_ne, beq_eq_false_iff_ne, ne_eq, Bool.not_eq_true', Bool.not_eq_false', bne_eq_false_iff_eq, Int.not_lt, Int.not_le] at h4)
  · have hil : i < x.pieces.length := by omega
    obtain ⟨b, o, a1, a2, a3, a4⟩ := hq3.elem hil
    have bad : ¬ (pcOk p x.pieces i ∧ pcIn p x.pieces i) → ¬ pcsP p x := fun h h2 => h (h2.1 i hil)
    have hdef : pcOk p x.pieces i ↔ (hasC p x.pieces[i].1 = true ∧ (∀ h : 0 < i, (x.pieces[i - 1]'(by omega)).1 < x.pieces[i].1) ∧ x.pieces[i].2 ≠ 0#64) := ⟨fun ⟨_, h⟩ => h, fun h => ⟨hil, h⟩⟩
    have hdef2 : pcIn p x.pieces i ↔ ((x.pieces[i].2 &&& ~~~ allB (fr p.frame).toNat) = 0#64 ∧ (x.pieces[i].2 &&& orW (x.pieces.take i)) = 0#64) := ⟨fun ⟨_, h⟩ => h, fun h => ⟨hil, h⟩⟩
    have hprev : ∀ h : 0 < i, ∃ b' o', aIdxS 2 qv (.int .i64 (i - 1 : Nat)) = some (.pointer (some ⟨b', o', none⟩)) ∧ ∀ m', Ext m3 m' → aLoad false 1 m' (.pointer (some ⟨b', o', none⟩)) = some (.int .i64 (x.pieces[i - 1]'(by omega)).1) := fun h => hq3.prev (by omega)
    have hor := orW_succ hil
    generalize hy : x.pieces[i] = y at *
    simp only [pcV] at a2
    try simp only [go_sem, Bool.false_and, new_set, Int.reduceBEq, Int.reduceBNe, Int.reduceNeg, not_true_eq_false, beq_self_eq_true, bne_self_eq_false, Bool.false_eq_true, if_false, if_true, Int.cast_ofNat_Int, decide_true, decide_false, reduceCtorEq, Nat.reduceEqDiff, Nat.reduceAdd, ne_eq, not_false_eq_true, Option.map_some, Option.bind_some, Option.map_none, Option.bind_none, true_and, and_true, Bool.not_true, Bool.not_false, Nat.reduceLeDiff, Nat.reduceMul, Nat.reduceSub, Nat.le_refl, Int.reduceToNat, Int.reduceLT, Int.reduceLE, Nat.one_mul, Nat.mul_one, load_w, load_a, store_b, idxS_b, set_blk, new_blk, set_next, new_next, len_s, ldW_c, ldA_c, stB_c, toArr_one, size_one, toList_toArr, size_toArr, List.length_cons, List.length_nil, List.getElem?_cons_zero, List.getElem?_cons_succ, Nat.zero_add, Nat.add_zero, hb3.at_, hc3.at_, hb3.ne, hc3.ne, a1, a2]
    have hx4 : Ext m3 (m3.new (.cells [.int .i64 y.1, u64 y.2] (some 2))) := Ext.new
    have hb4 : Bk (m3.new (.cells [.int .i64 y.1, u64 y.2] (some 2))) m3.next [.int .i64 y.1, u64 y.2] 2 := Bk.new
    generalize m3.new (.cells [.int .i64 y.1, u64 y.2] (some 2)) = m4 at hx4 hb4 ⊢
    have hb5 := hb3.keep hx4
    have hc5 := hc3.keep hx4
    try simp only [go_sem, Bool.false_and, new_set, Int.reduceBEq, Int.reduceBNe, Int.reduceNeg, not_true_eq_false, beq_self_eq_true, bne_self_eq_false, Bool.false_eq_true, if_false, if_true, Int.cast_ofNat_Int, decide_true, decide_false, reduceCtorEq, Nat.reduceEqDiff, Nat.reduceAdd, ne_eq, not_false_eq_true, Option.map_some, Option.bind_some, Option.map_none, Option.bind_none, true_and, and_true, Bool.not_true, Bool.not_false, Nat.reduceLeDiff, Nat.reduceMul, Nat.reduceSub, Nat.le_refl, Int.reduceToNat, Int.reduceLT, Int.reduceLE, Nat.one_mul, Nat.mul_one, load_w, load_a, store_b, idxS_b, set_blk, new_blk, set_next, new_next, len_s, ldW_c, ldA_c, stB_c, toArr_one, size_one, toList_toArr, size_toArr, List.length_cons, List.length_nil, List.getElem?_cons_zero, List.getElem?_cons_succ, Nat.zero_add, Nat.add_zero, hb4.at_, hb5.at_, hc5.at_]
    refine gC.of (has_spec (p := p) ⟨pv, rfl, (hp.keep hx3).keep hx4⟩) ?_
    rintro _ m5 ⟨rfl, hx5⟩
    simp only [go_sem, Bool.false_and, new_set, Int.reduceBEq, Int.reduceBNe, Int.reduceNeg, not_true_eq_false, beq_self_eq_true, bne_self_eq_false, Bool.false_eq_true, if_false, if_true, Int.cast_ofNat_Int, decide_true, decide_false, reduceCtorEq, Nat.reduceEqDiff, Nat.reduceAdd, ne_eq, not_false_eq_true, Option.map_some, Option.bind_some, Option.map_none, Option.bind_none, true_and, and_true, Bool.not_true, Bool.not_false, Nat.reduceLeDiff, Nat.reduceMul, Nat.reduceSub, Nat.le_refl, Int.reduceToNat, Int.reduceLT, Int.reduceLE, Nat.one_mul, Nat.mul_one]
    have hb6 := hb5.keep hx5
    have hb7 := hb4.keep hx5
    have hc7 := hc5.keep hx5
    have hxx : Ext m2 m5 := hx3.trans (hx4.trans hx5)
    have hX : Ext m m5 := hx.trans (hx2.trans hxx)
    have fin2 : pcOk p x.pieces i → pcIn p x.pieces i → ∀ j, j < i + 1 → pcOk p x.pieces j ∧ pcIn p x.pieces j := by
      intro q1 q2 j hj
      by_cases e : j = i
      · subst e; exact ⟨q1, q2⟩
      · exact hall j (by omega)
    have s1 := step1 (show i < 1000000 by omega)
    have key : pcOk p x.pieces i → gT (decide (y.2 &&& ~~~ allB (fr p.frame).toNat ≠ 0#64)) False False → True := fun _ _ => trivial
    try simp only [go_sem, Bool.false_and, new_set, Int.reduceBEq, Int.reduceBNe, Int.reduceNeg, not_true_eq_false, beq_self_eq_true, bne_self_eq_false, Bool.false_eq_true, if_false, if_true, Int.cast_ofNat_Int, decide_true, decide_false, reduceCtorEq, Nat.reduceEqDiff, Nat.reduceAdd, ne_eq, not_false_eq_true, Option.map_some, Option.bind_some, Option.map_none, Option.bind_none, true_and, and_true, Bool.not_true, Bool.not_false, Nat.reduceLeDiff, Nat.reduceMul, Nat.reduceSub, Nat.le_refl, Int.reduceToNat, Int.reduceLT, Int.reduceLE, Nat.one_mul, Nat.mul_one, load_w, load_a, store_b, idxS_b, set_blk, new_blk, set_next, new_next, len_s, ldW_c, ldA_c, stB_c, toArr_one, size_one, toList_toArr, size_toArr, List.length_cons, List.length_nil, List.getElem?_cons_zero, List.getElem?_cons_succ, Nat.zero_add, Nat.add_zero, hb6.at_, hb7.at_, hb4.at_, hb5.at_]
    refine gT.of (fun h5' => ?_) (fun h5' => ?_) <;> (have h5 := h5'; try simp only [decide_eq_true_eq, decide_eq_false_iff_not, beq_iff_eq, bne_iff_ne, beq_eq_false_iff_ne, ne_eq, Bool.not_eq_true', Bool.not_eq_false', bne_eq_false_iff_eq, Int.not_lt, Int.not_le] at h5)
    · try simp only [go_sem, Bool.false_and, new_set, Int.reduceBEq, Int.reduceBNe, Int.reduceNeg, not_true_eq_false, beq_self_eq_true, bne_self_eq_false, Bool.false_eq_true, if_false, if_true, Int.cast_ofNat_Int, decide_true, decide_false, reduceCtorEq, Nat.reduceEqDiff, Nat.reduceAdd, ne_eq, not_false_eq_true, Option.map_some, Option.bind_some, Option.map_none, Option.bind_none, true_and, and_true, Bool.not_true, Bool.not_false, Nat.reduceLeDiff, Nat.reduceMul, Nat.reduceSub, Nat.le_refl, Int.reduceToNat, Int.reduceLT, Int.reduceLE, Nat.one_mul, Nat.mul_one, load_w, load_a, store_b, idxS_b, set_blk, new_blk, set_next, new_next, len_s, ldW_c, ldA_c, stB_c, toArr_one, size_one, toList_toArr, size_toArr, List.length_cons, List.length_nil, List.getElem?_cons_zero, List.getElem?_cons_succ, Nat.zero_add, Nat.add_zero, h5', hb6.at_, hb7.at_]
      exact ⟨fin_no (bad fun h => by rw [hdef] at h; simp [h.1.1] at h5), hX⟩
    · have g5 : hasC p y.1 = true := by simpa using h5'
      try simp only [go_sem, Bool.false_and, new_set, Int.reduceBEq, Int.reduceBNe, Int.reduceNeg, not_true_eq_false, beq_self_eq_true, bne_self_eq_false, Bool.false_eq_true, if_false, if_true, Int.cast_ofNat_Int, decide_true, decide_false, reduceCtorEq, Nat.reduceEqDiff, Nat.reduceAdd, ne_eq, not_false_eq_true, Option.map_some, Option.bind_some, Option.map_none, Option.bind_none, true_and, and_true, Bool.not_true, Bool.not_false, Nat.reduceLeDiff, Nat.reduceMul, Nat.reduceSub, Nat.le_refl, Int.reduceToNat, Int.reduceLT, Int.reduceLE, Nat.one_mul, Nat.mul_one, load_w, load_a, store_b, idxS_b, set_blk, new_blk, set_next, new_next, len_s, ldW_c, ldA_c, stB_c, toArr_one, size_one, toList_toArr, size_toArr, List.length_cons, List.length_nil, List.getElem?_cons_zero, List.getElem?_cons_succ, Nat.zero_add, Nat.add_zero, h5', g5, hb6.at_, hb7.at_]
      refine gT.of (fun h6' => ?_) (fun h6' => ?_) <;> (have h6 := h6'; try simp only [decide_eq_true_eq, decide_eq_false_iff_not, beq_iff_eq, bne_iff_ne, beq_eq_false_iff_ne, ne_eq, Bool.not_eq_true', Bool.not_eq_false', bne_eq_false_iff_eq, Int.not_lt, Int.not_le] at h6)
      · obtain ⟨b', o', c1, c2⟩ := hprev (by omega)
        have c3 := c2 m5 (hx4.trans hx5)
        try simp only [go_sem, Bool.false_and, new_set, Int.reduceBEq, Int.reduceBNe, Int.reduceNeg, not_true_eq_false, beq_self_eq_true, bne_self_eq_false, Bool.false_eq_true, if_false, if_true, Int.cast_ofNat_Int, decide_true, decide_false, reduceCtorEq, Nat.reduceEqDiff, Nat.reduceAdd, ne_eq, not_false_eq_true, Option.map_some, Option.bind_some, Option.map_none, Option.bind_none, true_and, and_true, Bool.not_true, Bool.not_false, Nat.reduceLeDiff, Nat.reduceMul, Nat.reduceSub, Nat.le_refl, Int.reduceToNat, Int.reduceLT, Int.reduceLE, Nat.one_mul, Nat.mul_one, load_w, load_a, store_b, idxS_b, set_blk, new_blk, set_next, new_next, len_s, ldW_c, ldA_c, stB_c, toArr_one, size_one, toList_toArr, size_toArr, List.length_cons, List.length_nil, List.getElem?_cons_zero, List.getElem?_cons_succ, Nat.zero_add, Nat.add_zero, h6', hb6.at_, hb7.at_, sub1 (show 0 < i by omega) (show i < 1000000 by omega), c1, c3]
        refine gT.of (fun h7' => ?_) (fun h7' => ?_) <;> (have h7 := h7'; try simp only [decide_eq_true_eq, decide_eq_false_iff_not, beq_iff_eq, bne_iff_ne, beq_eq_false_iff_ne, ne_eq, Bool.not_eq_true', Bool.not_eq_false', bne_eq_false_iff_eq, Int.not_lt, Int.not_le] at h7)
        · try simp only [go_sem, Bool.false_and, new_set, Int.reduceBEq, Int.reduceBNe, Int.reduceNeg, not_true_eq_false, beq_self_eq_true, bne_self_eq_false, Bool.false_eq_true, if_false, if_true, Int.cast_ofNat_Int, decide_true, decide_false, reduceCtorEq, Nat.reduceEqDiff, Nat.reduceAdd, ne_eq, not_false_eq_true, Option.map_some, Option.bind_some, Option.map_none, Option.bind_none, true_and, and_true, Bool.not_true, Bool.not_false, Nat.reduceLeDiff, Nat.reduceMul, Nat.reduceSub, Nat.le_refl, Int.reduceToNat, Int.reduceLT, Int.reduceLE, Nat.one_mul, Nat.mul_one, load_w, load_a, store_b, idxS_b, set_blk, new_blk, set_next, new_next, len_s, ldW_c, ldA_c, stB_c, toArr_one, size_one, toList_toArr, size_toArr, List.length_cons, List.length_nil, List.getElem?_cons_zero, List.getElem?_cons_succ, Nat.zero_add, Nat.add_zero, h7']
          exact ⟨fin_no (bad fun h => by rw [hdef] at h; have := h.1.2.1 (by omega); omega), hX⟩
        · try simp only [go_sem, Bool.false_and, new_set, Int.reduceBEq, Int.reduceBNe, Int.reduceNeg, not_true_eq_false, beq_self_eq_true, bne_self_eq_false, Bool.false_eq_true, if_false, if_true, Int.cast_ofNat_Int, decide_true, decide_false, reduceCtorEq, Nat.reduceEqDiff, Nat.reduceAdd, ne_eq, not_false_eq_true, Option.map_some, Option.bind_some, Option.map_none, Option.bind_none, true_and, and_true, Bool.not_true, Bool.not_false, Nat.reduceLeDiff, Nat.reduceMul, Nat.reduceSub, Nat.le_refl, Int.reduceToNat, Int.reduceLT, Int.reduceLE, Nat.one_mul, Nat.mul_one, load_w, load_a, store_b, idxS_b, set_blk, new_blk, set_next, new_next, len_s, ldW_c, ldA_c, stB_c, toArr_one, size_one, toList_toArr, size_toArr, List.length_cons, List.length_nil, List.getElem?_cons_zero, List.getElem?_cons_succ, Nat.zero_add, Nat.add_zero, h7', hb7.at_]
          refine gT.of (fun h8' => ?_) (fun h8' => ?_) <;> (have h8 := h8'; try simp only [decide_eq_true_eq, decide_eq_false_iff_not, beq_iff_eq, bne_iff_ne, beq_eq_false_iff_ne, ne_eq, Bool.not_eq_true', Bool.not_eq_false', bne_eq_false_iff_eq, Int.not_lt, Int.not_le] at h8)
          · try simp only [go_sem, Bool.false_and, new_set, Int.reduceBEq, Int.reduceBNe, Int.reduceNeg, not_true_eq_false, beq_self_eq_true, bne_self_eq_false, Bool.false_eq_true, if_false, if_true, Int.cast_ofNat_Int, decide_true, decide_false, reduceCtorEq, Nat.reduceEqDiff, Nat.reduceAdd, ne_eq, not_false_eq_true, Option.map_some, Option.bind_some, Option.map_none, Option.bind_none, true_and, and_true, Bool.not_true, Bool.not_false, Nat.reduceLeDiff, Nat.reduceMul, Nat.reduceSub, Nat.le_refl, Int.reduceToNat, Int.reduceLT, Int.reduceLE, Nat.one_mul, Nat.mul_one, load_w, load_a, store_b, idxS_b, set_blk, new_blk, set_next, new_next, len_s, ldW_c, ldA_c, stB_c, toArr_one, size_one, toList_toArr, size_toArr, List.length_cons, List.length_nil, List.getElem?_cons_zero, List.getElem?_cons_succ, Nat.zero_add, Nat.add_zero, h8']
            exact ⟨fin_no (bad fun h => by rw [hdef] at h; exact h.1.2.2 h8), hX⟩
          · have gok : pcOk p x.pieces i := hdef.2 ⟨g5, fun h => by omega, h8⟩
            try simp only [go_sem, Bool.false_and, new_set, Int.reduceBEq, Int.reduceBNe, Int.reduceNeg, not_true_eq_false, beq_self_eq_true, bne_self_eq_false, Bool.false_eq_true, if_false, if_true, Int.cast_ofNat_Int, decide_true, decide_false, reduceCtorEq, Nat.reduceEqDiff, Nat.reduceAdd, ne_eq, not_false_eq_true, Option.map_some, Option.bind_some, Option.map_none, Option.bind_none, true_and, and_true, Bool.not_true, Bool.not_false, Nat.reduceLeDiff, Nat.reduceMul, Nat.reduceSub, Nat.le_refl, Int.reduceToNat, Int.reduceLT, Int.reduceLE, Nat.one_mul, Nat.mul_one, load_w, load_a, store_b, idxS_b, set_blk, new_blk, set_next, new_next, len_s, ldW_c, ldA_c, stB_c, toArr_one, size_one, toList_toArr, size_toArr, List.length_cons, List.length_nil, List.getElem?_cons_zero, List.getElem?_cons_succ, Nat.zero_add, Nat.add_zero, h8', hb7.at_, hc7.at_]
            refine gC.of mask_All_spec ?_
            rintro _ m_ ⟨rfl, hm_⟩
            replace hm_ := hm_.symm
            subst hm_
            simp only [go_sem, Bool.false_and, new_set, Int.reduceBEq, Int.reduceBNe, Int.reduceNeg, not_true_eq_false, beq_self_eq_true, bne_self_eq_false, Bool.false_eq_true, if_false, if_true, Int.cast_ofNat_Int, decide_true, decide_false, reduceCtorEq, Nat.reduceEqDiff, Nat.reduceAdd, ne_eq, not_false_eq_true, Option.map_some, Option.bind_some, Option.map_none, Option.bind_none, true_and, and_true, Bool.not_true, Bool.not_false, Nat.reduceLeDiff, Nat.reduceMul, Nat.reduceSub, Nat.le_refl, Int.reduceToNat, Int.reduceLT, Int.reduceLE, Nat.one_mul, Nat.mul_one]
            try simp only [go_sem, Bool.false_and, new_set, Int.reduceBEq, Int.reduceBNe, Int.reduceNeg, not_true_eq_false, beq_self_eq_true, bne_self_eq_false, Bool.false_eq_true, if_false, if_true, Int.cast_ofNat_Int, decide_true, decide_false, reduceCtorEq, Nat.reduceEqDiff, Nat.reduceAdd, ne_eq, not_false_eq_true, Option.map_some, Option.bind_some, Option.map_none, Option.bind_none, true_and, and_true, Bool.not_true, Bool.not_false, Nat.reduceLeDiff, Nat.reduceMul, Nat.reduceSub, Nat.le_refl, Int.reduceToNat, Int.reduceLT, Int.reduceLE, Nat.one_mul, Nat.mul_one, load_w, load_a, store_b, idxS_b, set_blk, new_blk, set_next, new_next, len_s, ldW_c, ldA_c, stB_c, toArr_one, size_one, toList_toArr, size_toArr, List.length_cons, List.length_nil, List.getElem?_cons_zero, List.getElem?_cons_succ, Nat.zero_add, Nat.add_zero, hb7.at_, hc7.at_]
            refine gT.of (fun h9' => ?_) (fun h9' => ?_) <;> (have h9 := h9'; try simp only [decide_eq_true_eq, decide_eq_false_iff_not, beq_iff_eq, bne_iff_ne, beq_eq_false_iff_ne, ne_eq, Bool.not_eq_true', Bool.not_eq_false', bne_eq_false_iff_eq, Int.not_lt, Int.not_le] at h9)
            · try simp only [go_sem, Bool.false_and, new_set, Int.reduceBEq, Int.reduceBNe, Int.reduceNeg, not_true_eq_false, beq_self_eq_true, bne_self_eq_false, Bool.false_eq_true, if_false, if_true, Int.cast_ofNat_Int, decide_true, decide_false, reduceCtorEq, Nat.reduceEqDiff, Nat.reduceAdd, ne_eq, not_false_eq_true, Option.map_some, Option.bind_some, Option.map_none, Option.bind_none, true_and, and_true, Bool.not_true, Bool.not_false, Nat.reduceLeDiff, Nat.reduceMul, Nat.reduceSub, Nat.le_refl, Int.reduceToNat, Int.reduceLT, Int.reduceLE, Nat.one_mul, Nat.mul_one, load_w, load_a, store_b, idxS_b, set_blk, new_blk, set_next, new_next, len_s, ldW_c, ldA_c, stB_c, toArr_one, size_one, toList_toArr, size_toArr, List.length_cons, List.length_nil, List.getElem?_cons_zero, List.getElem?_cons_succ, Nat.zero_add, Nat.add_zero, h9']
              exact ⟨fin_no (bad fun h => by rw [hdef2] at h; exact h9 h.2.1), hX⟩
            · try simp only [go_sem, Bool.false_and, new_set, Int.reduceBEq, Int.reduceBNe, Int.reduceNeg, not_true_eq_false, beq_self_eq_true, bne_self_eq_false, Bool.false_eq_true, if_false, if_true, Int.cast_ofNat_Int, decide_true, decide_false, reduceCtorEq, Nat.reduceEqDiff, Nat.reduceAdd, ne_eq, not_false_eq_true, Option.map_some, Option.bind_some, Option.map_none, Option.bind_none, true_and, and_true, Bool.not_true, Bool.not_false, Nat.reduceLeDiff, Nat.reduceMul, Nat.reduceSub, Nat.le_refl, Int.reduceToNat, Int.reduceLT, Int.reduceLE, Nat.one_mul, Nat.mul_one, load_w, load_a, store_b, idxS_b, set_blk, new_blk, set_next, new_next, len_s, ldW_c, ldA_c, stB_c, toArr_one, size_one, toList_toArr, size_toArr, List.length_cons, List.length_nil, List.getElem?_cons_zero, List.getElem?_cons_succ, Nat.zero_add, Nat.add_zero, h9', hb7.at_]
              refine gT.of (fun h10' => ?_) (fun h10' => ?_) <;> (have h10 := h10'; try simp only [decide_eq_true_eq, decide_eq_false_iff_not, beq_iff_eq, bne_iff_ne, beq_eq_false_iff_ne, ne_eq, Bool.not_eq_true', Bool.not_eq_false', bne_eq_false_iff_eq, Int.not_lt, Int.not_le] at h10)
              · try simp only [go_sem, Bool.false_and, new_set, Int.reduceBEq, Int.reduceBNe, Int.reduceNeg, not_true_eq_false, beq_self_eq_true, bne_self_eq_false, Bool.false_eq_true, if_false, if_true, Int.cast_ofNat_Int, decide_true, decide_false, reduceCtorEq, Nat.reduceEqDiff, Nat.reduceAdd, ne_eq, not_false_eq_true, Option.map_some, Option.bind_some, Option.map_none, Option.bind_none, true_and, and_true, Bool.not_true, Bool.not_false, Nat.reduceLeDiff, Nat.reduceMul, Nat.reduceSub, Nat.le_refl, Int.reduceToNat, Int.reduceLT, Int.reduceLE, Nat.one_mul, Nat.mul_one, load_w, load_a, store_b, idxS_b, set_blk, new_blk, set_next, new_next, len_s, ldW_c, ldA_c, stB_c, toArr_one, size_one, toList_toArr, size_toArr, List.length_cons, List.length_nil, List.getElem?_cons_zero, List.getElem?_cons_succ, Nat.zero_add, Nat.add_zero, h10']
                exact ⟨fin_no (bad fun h => by rw [hdef2] at h; exact h10 h.2.2), hX⟩
              · try simp only [go_sem, Bool.false_and, new_set, Int.reduceBEq, Int.reduceBNe, Int.reduceNeg, not_true_eq_false, beq_self_eq_true, bne_self_eq_false, Bool.false_eq_true, if_false, if_true, Int.cast_ofNat_Int, decide_true, decide_false, reduceCtorEq, Nat.reduceEqDiff, Nat.reduceAdd, ne_eq, not_false_eq_true, Option.map_some, Option.bind_some, Option.map_none, Option.bind_none, true_and, and_true, Bool.not_true, Bool.not_false, Nat.reduceLeDiff, Nat.reduceMul, Nat.reduceSub, Nat.le_refl, Int.reduceToNat, Int.reduceLT, Int.reduceLE, Nat.one_mul, Nat.mul_one, load_w, load_a, store_b, idxS_b, set_blk, new_blk, set_next, new_next, len_s, ldW_c, ldA_c, stB_c, toArr_one, size_one, toList_toArr, size_toArr, List.length_cons, List.length_nil, List.getElem?_cons_zero, List.getElem?_cons_succ, Nat.zero_add, Nat.add_zero, h10', hb7.at_, s1]
                refine ⟨x.pieces.length - (i + 1), by omega, i + 1, by omega, rfl, by rw [hor], fin2 gok (hdef2.2 ⟨Decidable.not_not.1 h9, Decidable.not_not.1 h10⟩), hxx⟩
      · try simp only [go_sem, Bool.false_and, new_set, Int.reduceBEq, Int.reduceBNe, Int.reduceNeg, not_true_eq_false, beq_self_eq_true, bne_self_eq_false, Bool.false_eq_true, if_false, if_true, Int.cast_ofNat_Int, decide_true, decide_false, reduceCtorEq, Nat.reduceEqDiff, Nat.reduceAdd, ne_eq, not_false_eq_true, Option.map_some, Option.bind_some, Option.map_none, Option.bind_none, true_and, and_true, Bool.not_true, Bool.not_false, Nat.reduceLeDiff, Nat.reduceMul, Nat.reduceSub, Nat.le_refl, Int.reduceToNat, Int.reduceLT, Int.reduceLE, Nat.one_mul, Nat.mul_one, load_w, load_a, store_b, idxS_b, set_blk, new_blk, set_next, new_next, len_s, ldW_c, ldA_c, stB_c, toArr_one, size_one, toList_toArr, size_toArr, List.length_cons, List.length_nil, List.getElem?_cons_zero, List.getElem?_cons_succ, Nat.zero_add, Nat.add_zero, h6', hb7.at_]
        refine gT.of (fun h8' => ?_) (fun h8' => ?_) <;> (have h8 := h8'; try simp only [decide_eq_true_eq, decide_eq_false_iff_not, beq_iff_eq, bne_iff_ne, beq_eq_false_iff_ne, ne_eq, Bool.not_eq_true', Bool.not_eq_false', bne_eq_false_iff_eq, Int.not_lt, Int.not_le] at h8)
        · try simp only [go_sem, Bool.false_and, new_set, Int.reduceBEq, Int.reduceBNe, Int.reduceNeg, not_true_eq_false, beq_self_eq_true, bne_self_eq_false, Bool.false_eq_true, if_false, if_true, Int.cast_ofNat_Int, decide_true, decide_false, reduceCtorEq, Nat.reduceEqDiff, Nat.reduceAdd, ne_eq, not_false_eq_true, Option.map_some, Option.bind_some, Option.map_none, Option.bind_none, true_and, and_true, Bool.not_true, Bool.not_false, Nat.reduceLeDiff, Nat.reduceMul, Nat.reduceSub, Nat.le_refl, Int.reduceToNat, Int.reduceLT, Int.reduceLE, Nat.one_mul, Nat.mul_one, load_w, load_a, store_b, idxS_b, set_blk, new_blk, set_next, new_next, len_s, ldW_c, ldA_c, stB_c, toArr_one, size_one, toList_toArr, size_toArr, List.length_cons, List.length_nil, List.getElem?_cons_zero, List.getElem?_cons_succ, Nat.zero_add, Nat.add_zero, h8']
          exact ⟨fin_no (bad fun h => by rw [hdef] at h; exact h.1.2.2 h8), hX⟩
        · have gok : pcOk p x.pieces i := hdef.2 ⟨g5, fun h => by omega, h8⟩
          try simp only [go_sem, Bool.false_and, new_set, Int.reduceBEq, Int.reduceBNe, Int.reduceNeg, not_true_eq_false, beq_self_eq_true, bne_self_eq_false, Bool.false_eq_true, if_false, if_true, Int.cast_ofNat_Int, decide_true, decide_false, reduceCtorEq, Nat.reduceEqDiff, Nat.reduceAdd, ne_eq, not_false_eq_true, Option.map_some, Option.bind_some, Option.map_none, Option.bind_none, true_and, and_true, Bool.not_true, Bool.not_false, Nat.reduceLeDiff, Nat.reduceMul, Nat.reduceSub, Nat.le_refl, Int.reduceToNat, Int.reduceLT, Int.reduceLE, Nat.one_mul, Nat.mul_one, load_w, load_a, store_b, idxS_b, set_blk, new_blk, set_next, new_next, len_s, ldW_c, ldA_c, stB_c, toArr_one, size_one, toList_toArr, size_toArr, List.length_cons, List.length_nil, List.getElem?_cons_zero, List.getElem?_cons_succ, Nat.zero_add, Nat.add_zero, h8', hb7.at_, hc7.at_]
          refine gC.of mask_All_spec ?_
          rintro _ m_ ⟨rfl, hm_⟩
          replace hm_ := hm_.symm
          subst hm_
          simp only [go_sem, Bool.false_and, new_set, Int.reduceBEq, Int.reduceBNe, Int.reduceNeg, not_true_eq_false, beq_self_eq_true, bne_self_eq_false, Bool.false_eq_true, if_false, if_true, Int.cast_ofNat_Int, decide_true, decide_false, reduceCtorEq, Nat.reduceEqDiff, Nat.reduceAdd, ne_eq, not_false_eq_true, Option.map_some, Option.bind_some, Option.map_none, Option.bind_none, true_and, and_true, Bool.not_true, Bool.not_false, Nat.reduceLeDiff, Nat.reduceMul, Nat.reduceSub, Nat.le_refl, Int.reduceToNat, Int.reduceLT, Int.reduceLE, Nat.one_mul, Nat.mul_one]
          try simp only [go_sem, Bool.false_and, new_set, Int.reduceBEq, Int.reduceBNe, Int.reduceNeg, not_true_eq_false, beq_self_eq_true, bne_self_eq_false, Bool.false_eq_true, if_false, if_true, Int.cast_ofNat_Int, decide_true, decide_false, reduceCtorEq, Nat.reduceEqDiff, Nat.reduceAdd, ne_eq, not_false_eq_true, Option.map_some, Option.bind_some, Option.map_none, Option.bind_none, true_and, and_true, Bool.not_true, Bool.not_false, Nat.reduceLeDiff, Nat.reduceMul, Nat.reduceSub, Nat.le_refl, Int.reduceToNat, Int.reduceLT, Int.reduceLE, Nat.one_mul, Nat.mul_one, load_w, load_a, store_b, idxS_b, set_blk, new_blk, set_next, new_next, len_s, ldW_c, ldA_c, stB_c, toArr_one, size_one, toList_toArr, size_toArr, List.length_cons, List.length_nil, List.getElem?_cons_zero, List.getElem?_cons_succ, Nat.zero_add, Nat.add_zero, hb7.at_, hc7.at_]
          refine gT.of (fun h9' => ?_) (fun h9' => ?_) <;> (have h9 := h9'; try simp only [decide_eq_true_eq, decide_eq_false_iff_not, beq_iff_eq, bne_iff_ne, beq_eq_false_iff_ne, ne_eq, Bool.not_eq_true', Bool.not_eq_false', bne_eq_false_iff_eq, Int.not_lt, Int.not_le] at h9)
          · try simp only [go_sem, Bool.false_and, new_set, Int.reduceBEq, Int.reduceBNe, Int.reduceNeg, not_true_eq_false, beq_self_eq_true, bne_self_eq_false, Bool.false_eq_true, if_false, if_true, Int.cast_ofNat_Int, decide_true, decide_false, reduceCtorEq, Nat.reduceEqDiff, Nat.reduceAdd, ne_eq, not_false_eq_true, Option.map_some, Option.bind_some, Option.map_none, Option.bind_none, true_and, and_true, Bool.not_true, Bool.not_false, Nat.reduceLeDiff, Nat.reduceMul, Nat.reduceSub, Nat.le_refl, Int.reduceToNat, Int.reduceLT, Int.reduceLE, Nat.one_mul, Nat.mul_one, load_w, load_a, store_b, idxS_b, set_blk, new_blk, set_next, new_next, len_s, ldW_c, ldA_c, stB_c, toArr_one, size_one, toList_toArr, size_toArr, List.length_cons, List.length_nil, List.getElem?_cons_zero, List.getElem?_cons_succ, Nat.zero_add, Nat.add_zero, h9']
            exact ⟨fin_no (bad fun h => by rw [hdef2] at h; exact h9 h.2.1), hX⟩
          · try simp only [go_sem, Bool.false_and, new_set, Int.reduceBEq, Int.reduceBNe, Int.reduceNeg, not_true_eq_false, beq_self_eq_true, bne_self_eq_false, Bool.false_eq_true, if_false, if_true, Int.cast_ofNat_Int, decide_true, decide_false, reduceCtorEq, Nat.reduceEqDiff, Nat.reduceAdd, ne_eq, not_false_eq_true, Option.map_some, Option.bind_some, Option.map_none, Option.bind_none, true_and, and_true, Bool.not_true, Bool.not_false, Nat.reduceLeDiff, Nat.reduceMul, Nat.reduceSub, Nat.le_refl, Int.reduceToNat, Int.reduceLT, Int.reduceLE, Nat.one_mul, Nat.mul_one, load_w, load_a, store_b, idxS_b, set_blk, new_blk, set_next, new_next, len_s, ldW_c, ldA_c, stB_c, toArr_one, size_one, toList_toArr, size_toArr, List.length_cons, List.length_nil, List.getElem?_cons_zero, List.getElem?_cons_succ, Nat.zero_add, Nat.add_zero, h9', hb7.at_]
            refine gT.of (fun h10' => ?_) (fun h10' => ?_) <;> (have h10 := h10'; try simp only [decide_eq_true_eq, decide_eq_false_iff_not, beq_iff_eq, bne_iff_ne, beq_eq_false_iff_ne, ne_eq, Bool.not_eq_true', Bool.not_eq_false', bne_eq_false_iff_eq, Int.not_lt, Int.not_le] at h10)
            · try simp only [go_sem, Bool.false_and, new_set, Int.reduceBEq, Int.reduceBNe, Int.reduceNeg, not_true_eq_false, beq_self_eq_true, bne_self_eq_false, Bool.false_eq_true, if_false, if_true, Int.cast_ofNat_Int, decide_true, decide_false, reduceCtorEq, Nat.reduceEqDiff, Nat.reduceAdd, ne_eq, not_false_eq_true, Option.map_some, Option.bind_some, Option.map_none, Option.bind_none, true_and, and_true, Bool.not_true, Bool.not_false, Nat.reduceLeDiff, Nat.reduceMul, Nat.reduceSub, Nat.le_refl, Int.reduceToNat, Int.reduceLT, Int.reduceLE, Nat.one_mul, Nat.mul_one, load_w, load_a, store_b, idxS_b, set_blk, new_blk, set_next, new_next, len_s, ldW_c, ldA_c, stB_c, toArr_one, size_one, toList_toArr, size_toArr, List.length_cons, List.length_nil, List.getElem?_cons_zero, List.getElem?_cons_succ, Nat.zero_add, Nat.add_zero, h10']
              exact ⟨fin_no (bad fun h => by rw [hdef2] at h; exact h10 h.2.2), hX⟩
            · try simp only [go_sem, Bool.false_and, new_set, Int.reduceBEq, Int.reduceBNe, Int.reduceNeg, not_true_eq_false, beq_self_eq_true, bne_self_eq_false, Bool.false_eq_true, if_false, if_true, Int.cast_ofNat_Int, decide_true, decide_false, reduceCtorEq, Nat.reduceEqDiff, Nat.reduceAdd, ne_eq, not_false_eq_true, Option.map_some, Option.bind_some, Option.map_none, Option.bind_none, true_and, and_true, Bool.not_true, Bool.not_false, Nat.reduceLeDiff, Nat.reduceMul, Nat.reduceSub, Nat.le_refl, Int.reduceToNat, Int.reduceLT, Int.reduceLE, Nat.one_mul, Nat.mul_one, load_w, load_a, store_b, idxS_b, set_blk, new_blk, set_next, new_next, len_s, ldW_c, ldA_c, stB_c, toArr_one, size_one, toList_toArr, size_toArr, List.length_cons, List.length_nil, List.getElem?_cons_zero, List.getElem?_cons_succ, Nat.zero_add, Nat.add_zero, h10', hb7.at_, s1]
              refine ⟨x.pieces.length - (i + 1), by omega, i + 1, by omega, rfl, by rw [hor], fin2 gok (hdef2.2 ⟨Decidable.not_not.1 h9, Decidable.not_not.1 h10⟩), hxx⟩
  · have hil : i = x.pieces.length := by omega
    have pcs : ∀ j, j < x.pieces.length → pcOk p x.pieces j ∧ pcIn p x.pieces j := fun j hj => hall j (by omega)
    have hX : Ext m m3 := hx.trans (hx2.trans hx3)
    rw [List.take_of_length_le (show x.pieces.length ≤ i by omega)]
    try simp only [go_sem, Bool.false_and, new_set, Int.reduceBEq, Int.reduceBNe, Int.reduceNeg, not_true_eq_false, beq_self_eq_true, bne_self_eq_false, Bool.false_eq_true, if_false, if_true, Int.cast_ofNat_Int, decide_true, decide_false, reduceCtorEq, Nat.reduceEqDiff, Nat.reduceAdd, ne_eq, not_false_eq_true, Option.map_some, Option.bind_some, Option.map_none, Option.bind_none, true_and, and_true, Bool.not_true, Bool.not_false, Nat.reduceLeDiff, Nat.reduceMul, Nat.reduceSub, Nat.le_refl, Int.reduceToNat, Int.reduceLT, Int.reduceLE, Nat.one_mul, Nat.mul_one, load_w, load_a, store_b, idxS_b, set_blk, new_blk, set_next, new_next, len_s, ldW_c, ldA_c, stB_c, toArr_one, size_one, toList_toArr, size_toArr, List.length_cons, List.length_nil, List.getElem?_cons_zero, List.getElem?_cons_succ, Nat.zero_add, Nat.add_zero, h4', hb3.at_, hq3.len]
    refine gT.of (fun h6' => ?_) (fun h6' => ?_) <;> (have h6 := h6'; try simp only [decide_eq_true_eq, decide_eq_false_iff_not, beq_iff_eq, bne_iff_ne, beq_eq_false_iff_ne, ne_eq, Bool.not_eq_true', Bool.not_eq_false', bne_eq_false_iff_eq, Int.not_lt, Int.not_le] at h6)
    · try simp only [go_sem, Bool.false_and, new_set, Int.reduceBEq, Int.reduceBNe, Int.reduceNeg, not_true_eq_false, beq_self_eq_true, bne_self_eq_false, Bool.false_eq_true, if_false, if_true, Int.cast_ofNat_Int, decide_true, decide_false, reduceCtorEq, Nat.reduceEqDiff, Nat.reduceAdd, ne_eq, not_false_eq_true, Option.map_some, Option.bind_some, Option.map_none, Option.bind_none, true_and, and_true, Bool.not_true, Bool.not_false, Nat.reduceLeDiff, Nat.reduceMul, Nat.reduceSub, Nat.le_refl, Int.reduceToNat, Int.reduceLT, Int.reduceLE, Nat.one_mul, Nat.mul_one, load_w, load_a, store_b, idxS_b, set_blk, new_blk, set_next, new_next, len_s, ldW_c, ldA_c, stB_c, toArr_one, size_one, toList_toArr, size_toArr, List.length_cons, List.length_nil, List.getElem?_cons_zero, List.getElem?_cons_succ, Nat.zero_add, Nat.add_zero, h6', hb3.at_]
      refine gT.of (fun h7' => ?_) (fun h7' => ?_) <;> (have h7 := h7'; try simp only [decide_eq_true_eq, decide_eq_false_iff_not, beq_iff_eq, bne_iff_ne, beq_eq_false_iff_ne, ne_eq, Bool.not_eq_true', Bool.not_eq_false', bne_eq_false_iff_eq, Int.not_lt, Int.not_le] at h7)
      · try simp only [go_sem, Bool.false_and, new_set, Int.reduceBEq, Int.reduceBNe, Int.reduceNeg, not_true_eq_false, beq_self_eq_true, bne_self_eq_false, Bool.false_eq_true, if_false, if_true, Int.cast_ofNat_Int, decide_true, decide_false, reduceCtorEq, Nat.reduceEqDiff, Nat.reduceAdd, ne_eq, not_false_eq_true, Option.map_some, Option.bind_some, Option.map_none, Option.bind_none, true_and, and_true, Bool.not_true, Bool.not_false, Nat.reduceLeDiff, Nat.reduceMul, Nat.reduceSub, Nat.le_refl, Int.reduceToNat, Int.reduceLT, Int.reduceLE, Nat.one_mul, Nat.mul_one, load_w, load_a, store_b, idxS_b, set_blk, new_blk, set_next, new_next, len_s, ldW_c, ldA_c, stB_c, toArr_one, size_one, toList_toArr, size_toArr, List.length_cons, List.length_nil, List.getElem?_cons_zero, List.getElem?_cons_succ, Nat.zero_add, Nat.add_zero, h7', hb3.at_]
        refine gC.of mask_Count_spec ?_
        rintro _ m_ ⟨rfl, hm_⟩
        replace hm_ := hm_.symm
        subst hm_
        simp only [go_sem, Bool.false_and, new_set, Int.reduceBEq, Int.reduceBNe, Int.reduceNeg, not_true_eq_false, beq_self_eq_true, bne_self_eq_false, Bool.false_eq_true, if_false, if_true, Int.cast_ofNat_Int, decide_true, decide_false, reduceCtorEq, Nat.reduceEqDiff, Nat.reduceAdd, ne_eq, not_false_eq_true, Option.map_some, Option.bind_some, Option.map_none, Option.bind_none, true_and, and_true, Bool.not_true, Bool.not_false, Nat.reduceLeDiff, Nat.reduceMul, Nat.reduceSub, Nat.le_refl, Int.reduceToNat, Int.reduceLT, Int.reduceLE, Nat.one_mul, Nat.mul_one]
        try simp only [go_sem, Bool.false_and, new_set, Int.reduceBEq, Int.reduceBNe, Int.reduceNeg, not_true_eq_false, beq_self_eq_true, bne_self_eq_false, Bool.false_eq_true, if_false, if_true, Int.cast_ofNat_Int, decide_true, decide_false, reduceCtorEq, Nat.reduceEqDiff, Nat.reduceAdd, ne_eq, not_false_eq_true, Option.map_some, Option.bind_some, Option.map_none, Option.bind_none, true_and, and_true, Bool.not_true, Bool.not_false, Nat.reduceLeDiff, Nat.reduceMul, Nat.reduceSub, Nat.le_refl, Int.reduceToNat, Int.reduceLT, Int.reduceLE, Nat.one_mul, Nat.mul_one, load_w, load_a, store_b, idxS_b, set_blk, new_blk, set_next, new_next, len_s, ldW_c, ldA_c, stB_c, toArr_one, size_one, toList_toArr, size_toArr, List.length_cons, List.length_nil, List.getElem?_cons_zero, List.getElem?_cons_succ, Nat.zero_add, Nat.add_zero, hb3.at_]
        refine ⟨fin_iff ?_, hX⟩
        rw [beq_iff_eq]
        exact ⟨fun h => ⟨pcs, by omega, by omega, h⟩, fun h => h.2.2.2⟩
      · try simp only [go_sem, Bool.false_and, new_set, Int.reduceBEq, Int.reduceBNe, Int.reduceNeg, not_true_eq_false, beq_self_eq_true, bne_self_eq_false, Bool.false_eq_true, if_false, if_true, Int.cast_ofNat_Int, decide_true, decide_false, reduceCtorEq, Nat.reduceEqDiff, Nat.reduceAdd, ne_eq, not_false_eq_true, Option.map_some, Option.bind_some, Option.map_none, Option.bind_none, true_and, and_true, Bool.not_true, Bool.not_false, Nat.reduceLeDiff, Nat.reduceMul, Nat.reduceSub, Nat.le_refl, Int.reduceToNat, Int.reduceLT, Int.reduceLE, Nat.one_mul, Nat.mul_one, load_w, load_a, store_b, idxS_b, set_blk, new_blk, set_next, new_next, len_s, ldW_c, ldA_c, stB_c, toArr_one, size_one, toList_toArr, size_toArr, List.length_cons, List.length_nil, List.getElem?_cons_zero, List.getElem?_cons_succ, Nat.zero_add, Nat.add_zero, h7']
        exact ⟨fin_no fun h => by have := h.2.2.1; omega, hX⟩
    · try simp only [go_sem, Bool.false_and, new_set, Int.reduceBEq, Int.reduceBNe, Int.reduceNeg, not_true_eq_false, beq_self_eq_true, bne_self_eq_false, Bool.false_eq_true, if_false, if_true, Int.cast_ofNat_Int, decide_true, decide_false, reduceCtorEq, Nat.reduceEqDiff, Nat.reduceAdd, ne_eq, not_false_eq_true, Option.map_some, Option.bind_some, Option.map_none, Option.bind_none, true_and, and_true, Bool.not_true, Bool.not_false, Nat.reduceLeDiff, Nat.reduceMul, Nat.reduceSub, Nat.le_refl, Int.reduceToNat, Int.reduceLT, Int.reduceLE, Nat.one_mul, Nat.mul_one, load_w, load_a, store_b, idxS_b, set_blk, new_blk, set_next, new_next, len_s, ldW_c, ldA_c, stB_c, toArr_one, size_one, toList_toArr, size_toArr, List.length_cons, List.length_nil, List.getElem?_cons_zero, List.getElem?_cons_succ, Nat.zero_add, Nat.add_zero, h6']
      exact ⟨fin_no fun h => by have := h.2.1; omega, hX⟩
end Go.Am


/- PlanX2 over the table of table (relayset.py). -/
set_option linter.unusedVariables false
set_option linter.unusedSimpArgs false
namespace Go.Am
open Classical
variable {m : Mem}

def placeP (p : PlanD) (x : Pl) : Prop := isU x.unit ∧ 1 ≤ x.share ∧ x.share ≤ p.frame ∧ (x.pieces.length = 0 → hasC p x.core = true) ∧ (x.pieces.length ≠ 0 → pcsP p x)

theorem place_spec {p : PlanD} {x : Pl} {v w : Value} (hv : PlanV m p v) (hw : PlV m x w) (hl : x.pieces.length < 1000000) : WC R F.plan_place [v, w] m fun r m' => r = .bool (decide (placeP p x)) ∧ Ext m m' := by
  refine WC.of R.plan_place rfl ?_
  obtain ⟨pv, rfl, hp⟩ := hv
  obtain ⟨qv, rfl, hq⟩ := hw
  simp only [RC.plan_place, planV, plV, go_sem, Bool.false_and, new_set, Int.reduceBEq, Int.reduceBNe, Int.reduceNeg, not_true_eq_false, beq_self_eq_true, bne_self_eq_false, Bool.false_eq_true, if_false, if_true, Int.cast_ofNat_Int, decide_true, decide_false, reduceCtorEq, Nat.reduceEqDiff, Nat.reduceAdd, ne_eq, not_false_eq_true, Option.map_some, Option.bind_some, Option.map_none, Option.bind_none, true_and, and_true, Bool.not_true, Bool.not_false, Nat.reduceLeDiff, Nat.reduceMul, Nat.reduceSub, Nat.le_refl, Int.reduceToNat, Int.reduceLT, Int.reduceLE, Nat.one_mul, Nat.mul_one, hp.one, hq.one]
  have hx : Ext m (m.new (.cells [.int .i64 p.frame, u32 p.cores, pv] (some 3))) := Ext.new
  have hb : Bk (m.new (.cells [.int .i64 p.frame, u32 p.cores, pv] (some 3))) m.next [.int .i64 p.frame, u32 p.cores, pv] 3 := Bk.new
  generalize m.new (.cells [.int .i64 p.frame, u32 p.cores, pv] (some 3)) = m1 at hx hb ⊢
  have hx2 : Ext m1 (m1.new (.cells [.int .i64 x.unit, .int .i64 x.share, .int .i64 x.core, qv] (some 4))) := Ext.new
  have hb2 : Bk (m1.new (.cells [.int .i64 x.unit, .int .i64 x.share, .int .i64 x.core, qv] (some 4))) m1.next [.int .i64 x.unit, .int .i64 x.share, .int .i64 x.core, qv] 4 := Bk.new
  generalize m1.new (.cells [.int .i64 x.unit, .int .i64 x.share, .int .i64 x.core, qv] (some 4)) = m2 at hx2 hb2 ⊢
  have hb := hb.keep hx2
  have hp := (hp.keep hx).keep hx2
  have hq := (hq.keep hx).keep hx2
  have hX := hx.trans hx2
  try simp only [go_sem, Bool.false_and, new_set, Int.reduceBEq, Int.reduceBNe, Int.reduceNeg, not_true_eq_false, beq_self_eq_true, bne_self_eq_false, Bool.false_eq_true, if_false, if_true, Int.cast_ofNat_Int, decide_true, decide_false, reduceCtorEq, Nat.reduceEqDiff, Nat.reduceAdd, ne_eq, not_false_eq_true, Option.map_some, Option.bind_some, Option.map_none, Option.bind_none, true_and, and_true, Bool.not_true, Bool.not_false, Nat.reduceLeDiff, Nat.reduceMul, Nat.reduceSub, Nat.le_refl, Int.reduceToNat, Int.reduceLT, Int.reduceLE, Nat.one_mul, Nat.mul_one, load_w, load_a, store_b, idxS_b, set_blk, new_blk, set_next, new_next, len_s, ldW_c, ldA_c, stB_c, toArr_one, size_one, toList_toArr, size_toArr, List.length_cons, List.length_nil, List.getElem?_cons_zero, List.getElem?_cons_succ, Nat.zero_add, Nat.add_zero, hb2.at_]
  refine gC.of Kind_spec ?_
  rintro _ m_ ⟨hu, hm_⟩
  replace hm_ := hm_.symm
  subst hm_
  rcases hu with ⟨hu, rfl⟩ | ⟨hu, rfl⟩
  · try simp only [go_sem, Bool.false_and, new_set, Int.reduceBEq, Int.reduceBNe, Int.reduceNeg, not_true_eq_false, beq_self_eq_true, bne_self_eq_false, Bool.false_eq_true, if_false, if_true, Int.cast_ofNat_Int, decide_true, decide_false, reduceCtorEq, Nat.reduceEqDiff, Nat.reduceAdd, ne_eq, not_false_eq_true, Option.map_some, Option.bind_some, Option.map_none, Option.bind_none, true_and, and_true, Bool.not_true, Bool.not_false, Nat.reduceLeDiff, Nat.reduceMul, Nat.reduceSub, Nat.le_refl, Int.reduceToNat, Int.reduceLT, Int.reduceLE, Nat.one_mul, Nat.mul_one, load_w, load_a, store_b, idxS_b, set_blk, new_blk, set_next, new_next, len_s, ldW_c, ldA_c, stB_c, toArr_one, size_one, toList_toArr, size_toArr, List.length_cons, List.length_nil, List.getElem?_cons_zero, List.getElem?_cons_succ, Nat.zero_add, Nat.add_zero, hb2.at_, aExt0, aExt1, aExt2]
    refine gT.of (fun h1' => ?_) (fun h1' => ?_) <;> (have h1 := h1'; try simp only [decide_eq_true_eq, decide_eq_false_iff_not, beq_iff_eq, bne_iff_ne, beq_eq_false_iff_ne, ne_eq, Bool.not_eq_true', Bool.not_eq_false', bne_eq_false_iff_eq, Int.not_lt, Int.not_le] at h1)
    · try simp only [go_sem, Bool.false_and, new_set, Int.reduceBEq, Int.reduceBNe, Int.reduceNeg, not_true_eq_false, beq_self_eq_true, bne_self_eq_false, Bool.false_eq_true, if_false, if_true, Int.cast_ofNat_Int, decide_true, decide_false, reduceCtorEq, Nat.reduceEqDiff, Nat.reduceAdd, ne_eq, not_false_eq_true, Option.map_some, Option.bind_some, Option.map_none, Option.bind_none, true_and, and_true, Bool.not_true, Bool.not_false, Nat.reduceLeDiff, Nat.reduceMul, Nat.reduceSub, Nat.le_refl, Int.reduceToNat, Int.reduceLT, Int.reduceLE, Nat.one_mul, Nat.mul_one, load_w, load_a, store_b, idxS_b, set_blk, new_blk, set_next, new_next, len_s, ldW_c, ldA_c, stB_c, toArr_one, size_one, toList_toArr, size_toArr, List.length_cons, List.length_nil, List.getElem?_cons_zero, List.getElem?_cons_succ, Nat.zero_add, Nat.add_zero, hb2.at_, h1']
      exact ⟨fin_no fun h => by have := h.2.1; omega, hX⟩
    · try simp only [go_sem, Bool.false_and, new_set, Int.reduceBEq, Int.reduceBNe, Int.reduceNeg, not_true_eq_false, beq_self_eq_true, bne_self_eq_false, Bool.false_eq_true, if_false, if_true, Int.cast_ofNat_Int, decide_true, decide_false, reduceCtorEq, Nat.reduceEqDiff, Nat.reduceAdd, ne_eq, not_false_eq_true, Option.map_some, Option.bind_some, Option.map_none, Option.bind_none, true_and, and_true, Bool.not_true, Bool.not_false, Nat.reduceLeDiff, Nat.reduceMul, Nat.reduceSub, Nat.le_refl, Int.reduceToNat, Int.reduceLT, Int.reduceLE, Nat.one_mul, Nat.mul_one, load_w, load_a, store_b, idxS_b, set_blk, new_blk, set_next, new_next, len_s, ldW_c, ldA_c, stB_c, toArr_one, size_one, toList_toArr, size_toArr, List.length_cons, List.length_nil, List.getElem?_cons_zero, List.getElem?_cons_succ, Nat.zero_add, Nat.add_zero, hb2.at_, hb.at_, h1']
      refine gT.of (fun h2' => ?_) (fun h2' => ?_) <;> (have h2 := h2'; try simp only [decide_eq_true_eq, decide_eq_false_iff_not, beq_iff_eq, bne_iff_ne, beq_eq_false_iff_ne, ne_eq, Bool.not_eq_true', Bool.not_eq_false', bne_eq_false_iff_eq, Int.not_lt, Int.not_le] at h2)
      · try simp only [go_sem, Bool.false_and, new_set, Int.reduceBEq, Int.reduceBNe, Int.reduceNeg, not_true_eq_false, beq_self_eq_true, bne_self_eq_false, Bool.false_eq_true, if_false, if_true, Int.cast_ofNat_Int, decide_true, decide_false, reduceCtorEq, Nat.reduceEqDiff, Nat.reduceAdd, ne_eq, not_false_eq_true, Option.map_some, Option.bind_some, Option.map_none, Option.bind_none, true_and, and_true, Bool.not_true, Bool.not_false, Nat.reduceLeDiff, Nat.reduceMul, Nat.reduceSub, Nat.le_refl, Int.reduceToNat, Int.reduceLT, Int.reduceLE, Nat.one_mul, Nat.mul_one, load_w, load_a, store_b, idxS_b, set_blk, new_blk, set_next, new_next, len_s, ldW_c, ldA_c, stB_c, toArr_one, size_one, toList_toArr, size_toArr, List.length_cons, List.length_nil, List.getElem?_cons_zero, List.getElem?_cons_succ, Nat.zero_add, Nat.add_zero, h2']
        exact ⟨fin_no fun h => by have := h.2.2.1; omega, hX⟩
      · try simp only [go_sem, Bool.false_and, new_set, Int.reduceBEq, Int.reduceBNe, Int.reduceNeg, not_true_eq_false, beq_self_eq_true, bne_self_eq_false, Bool.false_eq_true, if_false, if_true, Int.cast_ofNat_Int, decide_true, decide_false, reduceCtorEq, Nat.reduceEqDiff, Nat.reduceAdd, ne_eq, not_false_eq_true, Option.map_some, Option.bind_some, Option.map_none, Option.bind_none, true_and, and_true, Bool.not_true, Bool.not_false, Nat.reduceLeDiff, Nat.reduceMul, Nat.reduceSub, Nat.le_refl, Int.reduceToNat, Int.reduceLT, Int.reduceLE, Nat.one_mul, Nat.mul_one, load_w, load_a, store_b, idxS_b, set_blk, new_blk, set_next, new_next, len_s, ldW_c, ldA_c, stB_c, toArr_one, size_one, toList_toArr, size_toArr, List.length_cons, List.length_nil, List.getElem?_cons_zero, List.getElem?_cons_succ, Nat.zero_add, Nat.add_zero, h2', hb2.at_]
        refine gC.of (split_spec (x := x) ⟨qv, rfl, hq⟩) ?_
        rintro _ m3 ⟨rfl, hx3⟩
        simp only [go_sem, Bool.false_and, new_set, Int.reduceBEq, Int.reduceBNe, Int.reduceNeg, not_true_eq_false, beq_self_eq_true, bne_self_eq_false, Bool.false_eq_true, if_false, if_true, Int.cast_ofNat_Int, decide_true, decide_false, reduceCtorEq, Nat.reduceEqDiff, Nat.reduceAdd, ne_eq, not_false_eq_true, Option.map_some, Option.bind_some, Option.map_none, Option.bind_none, true_and, and_true, Bool.not_true, Bool.not_false, Nat.reduceLeDiff, Nat.reduceMul, Nat.reduceSub, Nat.le_refl, Int.reduceToNat, Int.reduceLT, Int.reduceLE, Nat.one_mul, Nat.mul_one]
        have hb2 := hb2.keep hx3
        have hb := hb.keep hx3
        have hp := hp.keep hx3
        have hq := hq.keep hx3
        refine gT.of (fun h3' => ?_) (fun h3' => ?_) <;> (have h3 := h3'; try simp only [decide_eq_true_eq, decide_eq_false_iff_not, beq_iff_eq, bne_iff_ne, beq_eq_false_iff_ne, ne_eq, Bool.not_eq_true', Bool.not_eq_false', bne_eq_false_iff_eq, Int.not_lt, Int.not_le] at h3)
        · try simp only [go_sem, Bool.false_and, new_set, Int.reduceBEq, Int.reduceBNe, Int.reduceNeg, not_true_eq_false, beq_self_eq_true, bne_self_eq_false, Bool.false_eq_true, if_false, if_true, Int.cast_ofNat_Int, decide_true, decide_false, reduceCtorEq, Nat.reduceEqDiff, Nat.reduceAdd, ne_eq, not_false_eq_true, Option.map_some, Option.bind_some, Option.map_none, Option.bind_none, true_and, and_true, Bool.not_true, Bool.not_false, Nat.reduceLeDiff, Nat.reduceMul, Nat.reduceSub, Nat.le_refl, Int.reduceToNat, Int.reduceLT, Int.reduceLE, Nat.one_mul, Nat.mul_one, load_w, load_a, store_b, idxS_b, set_blk, new_blk, set_next, new_next, len_s, ldW_c, ldA_c, stB_c, toArr_one, size_one, toList_toArr, size_toArr, List.length_cons, List.length_nil, List.getElem?_cons_zero, List.getElem?_cons_succ, Nat.zero_add, Nat.add_zero, h3', hb2.at_, hb.at_]
          refine gC.of (pieces_spec (p := p) (x := x) ⟨pv, rfl, hp⟩ ⟨qv, rfl, hq⟩ hl) ?_
          rintro _ m4 ⟨rfl, hx4⟩
          simp only [go_sem, Bool.false_and, new_set, Int.reduceBEq, Int.reduceBNe, Int.reduceNeg, not_true_eq_false, beq_self_eq_true, bne_self_eq_false, Bool.false_eq_true, if_false, if_true, Int.cast_ofNat_Int, decide_true, decide_false, reduceCtorEq, Nat.reduceEqDiff, Nat.reduceAdd, ne_eq, not_false_eq_true, Option.map_some, Option.bind_some, Option.map_none, Option.bind_none, true_and, and_true, Bool.not_true, Bool.not_false, Nat.reduceLeDiff, Nat.reduceMul, Nat.reduceSub, Nat.le_refl, Int.reduceToNat, Int.reduceLT, Int.reduceLE, Nat.one_mul, Nat.mul_one]
          exact ⟨fin_iff (by rw [decide_eq_true_eq]; exact ⟨fun h => ⟨hu, by omega, by omega, fun _ => by omega, fun _ => h⟩, fun h => h.2.2.2.2 (by omega)⟩), hX.trans (hx3.trans hx4)⟩
        · try simp only [go_sem, Bool.false_and, new_set, Int.reduceBEq, Int.reduceBNe, Int.reduceNeg, not_true_eq_false, beq_self_eq_true, bne_self_eq_false, Bool.false_eq_true, if_false, if_true, Int.cast_ofNat_Int, decide_true, decide_false, reduceCtorEq, Nat.reduceEqDiff, Nat.reduceAdd, ne_eq, not_false_eq_true, Option.map_some, Option.bind_some, Option.map_none, Option.bind_none, true_and, and_true, Bool.not_true, Bool.not_false, Nat.reduceLeDiff, Nat.reduceMul, Nat.reduceSub, Nat.le_refl, Int.reduceToNat, Int.reduceLT, Int.reduceLE, Nat.one_mul, Nat.mul_one, load_w, load_a, store_b, idxS_b, set_blk, new_blk, set_next, new_next, len_s, ldW_c, ldA_c, stB_c, toArr_one, size_one, toList_toArr, size_toArr, List.length_cons, List.length_nil, List.getElem?_cons_zero, List.getElem?_cons_succ, Nat.zero_add, Nat.add_zero, h3', hb2.at_, hb.at_]
          refine gC.of (has_spec (p := p) (c := x.core) ⟨pv, rfl, hp⟩) ?_
          rintro _ m4 ⟨rfl, hx4⟩
          simp only [go_sem, Bool.false_and, new_set, Int.reduceBEq, Int.reduceBNe, Int.reduceNeg, not_true_eq_false, beq_self_eq_true, bne_self_eq_false, Bool.false_eq_true, if_false, if_true, Int.cast_ofNat_Int, decide_true, decide_false, reduceCtorEq, Nat.reduceEqDiff, Nat.reduceAdd, ne_eq, not_false_eq_true, Option.map_some, Option.bind_some, Option.map_none, Option.bind_none, true_and, and_true, Bool.not_true, Bool.not_false, Nat.reduceLeDiff, Nat.reduceMul, Nat.reduceSub, Nat.le_refl, Int.reduceToNat, Int.reduceLT, Int.reduceLE, Nat.one_mul, Nat.mul_one]
          exact ⟨fin_iff ⟨fun h => ⟨hu, by omega, by omega, fun _ => h, fun _ => by omega⟩, fun h => h.2.2.2.1 (by omega)⟩, hX.trans (hx3.trans hx4)⟩
  · try simp only [go_sem, Bool.false_and, new_set, Int.reduceBEq, Int.reduceBNe, Int.reduceNeg, not_true_eq_false, beq_self_eq_true, bne_self_eq_false, Bool.false_eq_true, if_false, if_true, Int.cast_ofNat_Int, decide_true, decide_false, reduceCtorEq, Nat.reduceEqDiff, Nat.reduceAdd, ne_eq, not_false_eq_true, Option.map_some, Option.bind_some, Option.map_none, Option.bind_none, true_and, and_true, Bool.not_true, Bool.not_false, Nat.reduceLeDiff, Nat.reduceMul, Nat.reduceSub, Nat.le_refl, Int.reduceToNat, Int.reduceLT, Int.reduceLE, Nat.one_mul, Nat.mul_one, load_w, load_a, store_b, idxS_b, set_blk, new_blk, set_next, new_next, len_s, ldW_c, ldA_c, stB_c, toArr_one, size_one, toList_toArr, size_toArr, List.length_cons, List.length_nil, List.getElem?_cons_zero, List.getElem?_cons_succ, Nat.zero_add, Nat.add_zero]
    exact ⟨fin_no fun h => hu h.1, hX⟩

/-! ### windows that meet nowhere -/
def wAt (ps : List Pc) (c : Int) : BitVec 64 := winPc c 0#64 ps
def apartP (ps : List Pc) : Prop := ∀ i (h : i < ps.length), (wAt (ps.take i) ps[i].1 &&& ps[i].2) = 0#64
theorem wAt_snoc {ps : List Pc} {y : Pc} {c : Int} : wAt (ps ++ [y]) c = if y.1 = c then wAt ps c ||| y.2 else wAt ps c := by
  unfold wAt winPc; rw [List.foldl_append]; rfl
theorem apartP_snoc {ps : List Pc} {y : Pc} : apartP (ps ++ [y]) ↔ apartP ps ∧ (wAt ps y.1 &&& y.2) = 0#64 := by
  constructor
  · intro h
    refine ⟨fun i hi => ?_, ?_⟩
    · have := h i (by simp; omega)
      rw [List.getElem_append_left hi, List.take_append_of_le_length (by omega)] at this
      exact this
    · have := h ps.length (by simp)
      simpa using this
  · rintro ⟨h1, h2⟩ i hi
    by_cases e : i < ps.length
    · rw [List.getElem_append_left e, List.take_append_of_le_length (by omega)]; exact h1 i e
    · have : i = ps.length := by simp at hi; omega
      subst this
      simpa using h2
theorem apartP_pre {a b : List Pc} (h : apartP (a ++ b)) : apartP a := fun i hi => by
  have := h i (by simp; omega)
  rw [List.getElem_append_left hi, List.take_append_of_le_length (by omega)] at this
  exact this

def preP (l : List Pl) (i : Nat) : List Pc := (l.take i).flatMap (·.pieces)
theorem preP_succ {l : List Pl} {i : Nat} (h : i < l.length) : preP l (i + 1) = preP l i ++ l[i].pieces := by
  unfold preP; rw [List.take_succ_eq_append_getElem h, List.flatMap_append]; simp

/-- The words of sixteen cores. -/
structure Met (m : Mem) (b : Nat) (ps : List Pc) : Prop where
  wit : ∃ W : List (BitVec 64), Bk m b (W.map u64) 16 ∧ W.length = 16 ∧ ∀ c (h : c < W.length), W[c] = wAt ps (c : Nat)
theorem Met.keep {m m' : Mem} {b : Nat} {ps : List Pc} (h : Met m b ps) (hx : Ext m m') : Met m' b ps := let ⟨W, a, l, c⟩ := h.wit; ⟨W, a.keep hx, l, c⟩
theorem Met.get {m : Mem} {b : Nat} {ps : List Pc} (h : Met m b ps) {c : Int} (h0 : 0 ≤ c) (h1 : c < 16) : ldW (m.blk b) c.toNat = some (u64 (wAt ps c)) := by
  obtain ⟨W, a, l, g⟩ := h.wit
  rw [a.at_, ldW_c, List.getElem?_map, List.getElem?_eq_getElem (by omega), Option.map_some, g _ (by omega)]
  congr 3; omega
theorem Met.ne {m : Mem} {b : Nat} {ps : List Pc} (h : Met m b ps) : (b = m.next) = False := let ⟨_, a, _, _⟩ := h.wit; a.ne
theorem load_ext {m m' : Mem} {w : Bool} {u b o : Nat} (hx : Ext m m') (hb : b < m.next) : aLoad w u m' (.pointer (some ⟨b, o, none⟩)) = aLoad w u m (.pointer (some ⟨b, o, none⟩)) := by
  simp only [aLoad, aCells, hx.same b hb]
theorem got_eq {α : Type} {o : Option α} {a : α} {Q : α → Prop} (h : o = some a) (k : Q a) : Got o Q := ⟨a, h, k⟩
theorem Met.put {m : Mem} {b : Nat} {ps : List Pc} (h : Met m b ps) {y : Pc} (h0 : 0 ≤ y.1) (h1 : y.1 < 16) :
    ∃ m', stB m b (m.blk b) y.1.toNat [u64 (wAt ps y.1 ||| y.2)] = some m' ∧ Met m' b (ps ++ [y]) ∧ ∀ m0, Ext m0 m → m0.next ≤ b → Ext m0 m' := by
  obtain ⟨W, a, l, g⟩ := h.wit
  refine ⟨m.set b (some (.cells ((W.set y.1.toNat (wAt ps y.1 ||| y.2)).map u64) (some 16))), ?_, ⟨W.set y.1.toNat (wAt ps y.1 ||| y.2), ⟨by simp [Mem.set], by simpa [Mem.set] using a.lt⟩, by simp [l], fun c hc => ?_⟩, fun m0 hx hb => hx.set hb⟩
  · rw [a.at_, stB_c, if_pos ⟨by simp; omega, rfl⟩, writeL_set (by simp; omega), List.map_set]
  · rw [List.getElem_set, wAt_snoc]
    by_cases e : y.1 = (c : Int)
    · rw [if_pos (by omega), if_pos e, e]
    · rw [if_neg (by omega), if_neg e]
      exact g c (by simpa using hc)

theorem apart1p_loop {m0 : Mem} {x : Pl} {pv qv : Value} {b i n : Nat} {pre : List Pc} (hx0 : Ext m0 m) (hq : PcV m0 x.pieces qv) (hM : Met m b pre) (hb : m0.next ≤ b) (hap : apartP pre) (hl : x.pieces.length < 1000000) (hc : ∀ y ∈ x.pieces, 0 ≤ y.1 ∧ y.1 < 16) :
    WL R [3, 9, 10, 11, 16, 17, 18] RB.plan_apart_1 [(3, pt b), (9, pv), (10, .int .i64 n), (11, .int .i64 i), (16, qv), (17, .int .i64 x.pieces.length), (18, .int .i64 0)] m fun z e m' =>
      (z = .ret ∧ e = [(2, .bool false)] ∧ ¬ apartP (pre ++ x.pieces) ∧ Ext m0 m') ∨ (z = .exit 2 ∧ e = [(3, pt b), (9, pv), (10, .int .i64 n), (11, .int .i64 i), (16, qv), (17, .int .i64 x.pieces.length), (18, .int .i64 x.pieces.length), (19, .bool false)] ∧ Met m' b (pre ++ x.pieces) ∧ apartP (pre ++ x.pieces) ∧ Ext m0 m') := by
  refine WL.of (fun r e m' => ∃ j : Nat, j ≤ x.pieces.length ∧ r = x.pieces.length - j ∧ e = [(3, pt b), (9, pv), (10, .int .i64 n), (11, .int .i64 i), (16, qv), (17, .int .i64 x.pieces.length), (18, .int .i64 j)] ∧ Met m' b (pre ++ x.pieces.take j) ∧ apartP (pre ++ x.pieces.take j) ∧ Ext m0 m') x.pieces.length
    ⟨0, by omega, by omega, by simp only [go_sem, Bool.false_and, new_set, Int.reduceBEq, Int.reduceBNe, Int.reduceNeg, not_true_eq_false, beq_self_eq_true, bne_self_eq_false, Bool.false_eq_true, if_false, if_true, Int.cast_ofNat_Int, decide_true, decide_false, reduceCtorEq, Nat.reduceEqDiff, Nat.reduceAdd, ne_eq, not_false_eq_true, Option.map_some, Option.bind_some, Option.map_none, Option.bind_none, true_and, and_true, Bool.not_true, Bool.not_false, Nat.reduceLeDiff, Nat.reduceMul, Nat.reduceSub, Nat.le_refl, Int.reduceToNat, Int.reduceLT, Int.reduceLE, Nat.one_mul, Nat.mul_one] <;> rfl, by simpa using hM, by simpa using hap, hx0⟩ ?_
  rintro _ _ m3 ⟨j, hj, rfl, rfl, hM3, hap3, hx3⟩
  have hq3 := hq.keep hx3
  simp only [RB.plan_apart_1, pt, go_sem, Bool.false_and, new_set, Int.reduceBEq, Int.reduceBNe, Int.reduceNeg, not_true_eq_false, beq_self_eq_true, bne_self_eq_false, Bool.false_eq_true, if_false, if_true, Int.cast_ofNat_Int, decide_true, decide_false, reduceCtorEq, Nat.reduceEqDiff, Nat.reduceAdd, ne_eq, not_false_eq_true, Option.map_some, Option.bind_some, Option.map_none, Option.bind_none, true_and, and_true, Bool.not_true, Bool.not_false, Nat.reduceLeDiff, Nat.reduceMul, Nat.reduceSub, Nat.le_refl, Int.reduceToNat, Int.reduceLT, Int.reduceLE, Nat.one_mul, Nat.mul_one]
  refine gT.of (fun h1' => ?_) (fun h1' => ?_) <;> (have h1 := h1'; try simp only [decide_eq_true_eq, decide_eq_false_iff_not, beq_iff_eq, bne_iff_ne, beq_eq_false_iff_ne, ne_eq, Bool.not_eq_true', Bool.not_eq_false', bne_eq_false_iff_eq, Int.not_lt, Int.not_le] at h1)
  · have hjl : j < x.pieces.length := by omega
    obtain ⟨bb, o, a1, a2, a3, a4⟩ := hq3.elem hjl
    have hy := hc _ (List.getElem_mem hjl)
    have htk : x.pieces.take (j + 1) = x.pieces.take j ++ [x.pieces[j]] := List.take_succ_eq_append_getElem hjl
    have hdr : x.pieces = x.pieces.take j ++ [x.pieces[j]] ++ x.pieces.drop (j + 1) := by rw [← htk, List.take_append_drop]
    have s1 := step1 (show j < 1000000 by omega)
    generalize hyy : x.pieces[j] = y at *
    simp only [pcV] at a2
    have g3 := hM3.get hy.1 hy.2
    have n3 := hM3.ne
    try simp only [go_sem, Bool.false_and, new_set, Int.reduceBEq, Int.reduceBNe, Int.reduceNeg, not_true_eq_false, beq_self_eq_true, bne_self_eq_false, Bool.false_eq_true, if_false, if_true, Int.cast_ofNat_Int, decide_true, decide_false, reduceCtorEq, Nat.reduceEqDiff, Nat.reduceAdd, ne_eq, not_false_eq_true, Option.map_some, Option.bind_some, Option.map_none, Option.bind_none, true_and, and_true, Bool.not_true, Bool.not_false, Nat.reduceLeDiff, Nat.reduceMul, Nat.reduceSub, Nat.le_refl, Int.reduceToNat, Int.reduceLT, Int.reduceLE, Nat.one_mul, Nat.mul_one, load_w, load_a, store_b, idxS_b, set_blk, new_blk, set_next, new_next, len_s, ldW_c, ldA_c, stB_c, toArr_one, size_one, toList_toArr, size_toArr, List.length_cons, List.length_nil, List.getElem?_cons_zero, List.getElem?_cons_succ, Nat.zero_add, Nat.add_zero, a1, a2, hy.1, hy.2, g3, n3]
    have hx4 : Ext m3 (m3.new (.cells [.int .i64 y.1, u64 y.2] (some 2))) := Ext.new
    have hb4 : Bk (m3.new (.cells [.int .i64 y.1, u64 y.2] (some 2))) m3.next [.int .i64 y.1, u64 y.2] 2 := Bk.new
    generalize m3.new (.cells [.int .i64 y.1, u64 y.2] (some 2)) = m4 at hx4 hb4 ⊢
    have hM4 := hM3.keep hx4
    have g := hM4.get hy.1 hy.2
    try simp only [go_sem, Bool.false_and, new_set, Int.reduceBEq, Int.reduceBNe, Int.reduceNeg, not_true_eq_false, beq_self_eq_true, bne_self_eq_false, Bool.false_eq_true, if_false, if_true, Int.cast_ofNat_Int, decide_true, decide_false, reduceCtorEq, Nat.reduceEqDiff, Nat.reduceAdd, ne_eq, not_false_eq_true, Option.map_some, Option.bind_some, Option.map_none, Option.bind_none, true_and, and_true, Bool.not_true, Bool.not_false, Nat.reduceLeDiff, Nat.reduceMul, Nat.reduceSub, Nat.le_refl, Int.reduceToNat, Int.reduceLT, Int.reduceLE, Nat.one_mul, Nat.mul_one, load_w, load_a, store_b, idxS_b, set_blk, new_blk, set_next, new_next, len_s, ldW_c, ldA_c, stB_c, toArr_one, size_one, toList_toArr, size_toArr, List.length_cons, List.length_nil, List.getElem?_cons_zero, List.getElem?_cons_succ, Nat.zero_add, Nat.add_zero, hb4.at_, hy.1, hy.2, g]
    refine gT.of (fun h2' => ?_) (fun h2' => ?_) <;> (have h2 := h2'; try simp only [decide_eq_true_eq, decide_eq_false_iff_not, beq_iff_eq, bne_iff_ne, beq_eq_false_iff_ne, ne_eq, Bool.not_eq_true', Bool.not_eq_false', bne_eq_false_iff_eq, Int.not_lt, Int.not_le] at h2)
    · try simp only [go_sem, Bool.false_and, new_set, Int.reduceBEq, Int.reduceBNe, Int.reduceNeg, not_true_eq_false, beq_self_eq_true, bne_self_eq_false, Bool.false_eq_true, if_false, if_true, Int.cast_ofNat_Int, decide_true, decide_false, reduceCtorEq, Nat.reduceEqDiff, Nat.reduceAdd, ne_eq, not_false_eq_true, Option.map_some, Option.bind_some, Option.map_none, Option.bind_none, true_and, and_true, Bool.not_true, Bool.not_false, Nat.reduceLeDiff, Nat.reduceMul, Nat.reduceSub, Nat.le_refl, Int.reduceToNat, Int.reduceLT, Int.reduceLE, Nat.one_mul, Nat.mul_one, load_w, load_a, store_b, idxS_b, set_blk, new_blk, set_next, new_next, len_s, ldW_c, ldA_c, stB_c, toArr_one, size_one, toList_toArr, size_toArr, List.length_cons, List.length_nil, List.getElem?_cons_zero, List.getElem?_cons_succ, Nat.zero_add, Nat.add_zero, h2']
      refine .inl ⟨fun h => ?_, hx3.trans hx4⟩
      rw [hdr, ← List.append_assoc, ← List.append_assoc] at h
      exact h2 (apartP_snoc.1 (apartP_pre h)).2
    · try simp only [go_sem, Bool.false_and, new_set, Int.reduceBEq, Int.reduceBNe, Int.reduceNeg, not_true_eq_false, beq_self_eq_true, bne_self_eq_false, Bool.false_eq_true, if_false, if_true, Int.cast_ofNat_Int, decide_true, decide_false, reduceCtorEq, Nat.reduceEqDiff, Nat.reduceAdd, ne_eq, not_false_eq_true, Option.map_some, Option.bind_some, Option.map_none, Option.bind_none, true_and, and_true, Bool.not_true, Bool.not_false, Nat.reduceLeDiff, Nat.reduceMul, Nat.reduceSub, Nat.le_refl, Int.reduceToNat, Int.reduceLT, Int.reduceLE, Nat.one_mul, Nat.mul_one, load_w, load_a, store_b, idxS_b, set_blk, new_blk, set_next, new_next, len_s, ldW_c, ldA_c, stB_c, toArr_one, size_one, toList_toArr, size_toArr, List.length_cons, List.length_nil, List.getElem?_cons_zero, List.getElem?_cons_succ, Nat.zero_add, Nat.add_zero, h2', hb4.at_, hy.1, hy.2, g]
      obtain ⟨m5, q1, q2, q3⟩ := hM4.put hy.1 hy.2
      refine got_eq q1 ?_
      try simp only [go_sem, Bool.false_and, new_set, Int.reduceBEq, Int.reduceBNe, Int.reduceNeg, not_true_eq_false, beq_self_eq_true, bne_self_eq_false, Bool.false_eq_true, if_false, if_true, Int.cast_ofNat_Int, decide_true, decide_false, reduceCtorEq, Nat.reduceEqDiff, Nat.reduceAdd, ne_eq, not_false_eq_true, Option.map_some, Option.bind_some, Option.map_none, Option.bind_none, true_and, and_true, Bool.not_true, Bool.not_false, Nat.reduceLeDiff, Nat.reduceMul, Nat.reduceSub, Nat.le_refl, Int.reduceToNat, Int.reduceLT, Int.reduceLE, Nat.one_mul, Nat.mul_one, load_w, load_a, store_b, idxS_b, set_blk, new_blk, set_next, new_next, len_s, ldW_c, ldA_c, stB_c, toArr_one, size_one, toList_toArr, size_toArr, List.length_cons, List.length_nil, List.getElem?_cons_zero, List.getElem?_cons_succ, Nat.zero_add, Nat.add_zero, s1]
      refine ⟨x.pieces.length - (j + 1), by omega, j + 1, by omega, rfl, rfl, ?_, ?_, q3 _ (hx3.trans hx4) hb⟩
      · rw [htk, ← List.append_assoc]; exact q2
      · rw [htk, ← List.append_assoc, apartP_snoc]; exact ⟨hap3, Decidable.not_not.1 h2⟩
  · have : j = x.pieces.length := by omega
    subst this
    rw [List.take_length] at hM3 hap3
    try simp only [go_sem, Bool.false_and, new_set, Int.reduceBEq, Int.reduceBNe, Int.reduceNeg, not_true_eq_false, beq_self_eq_true, bne_self_eq_false, Bool.false_eq_true, if_false, if_true, Int.cast_ofNat_Int, decide_true, decide_false, reduceCtorEq, Nat.reduceEqDiff, Nat.reduceAdd, ne_eq, not_false_eq_true, Option.map_some, Option.bind_some, Option.map_none, Option.bind_none, true_and, and_true, Bool.not_true, Bool.not_false, Nat.reduceLeDiff, Nat.reduceMul, Nat.reduceSub, Nat.le_refl, Int.reduceToNat, Int.reduceLT, Int.reduceLE, Nat.one_mul, Nat.mul_one, load_w, load_a, store_b, idxS_b, set_blk, new_blk, set_next, new_next, len_s, ldW_c, ldA_c, stB_c, toArr_one, size_one, toList_toArr, size_toArr, List.length_cons, List.length_nil, List.getElem?_cons_zero, List.getElem?_cons_succ, Nat.zero_add, Nat.add_zero, h1']
    exact .inr ⟨hM3, hap3, hx3⟩

theorem apart_spec {p : PlanD} {v : Value} (hv : PlanV m p v) (hl : p.places.length < 1000000) (hp1 : ∀ x ∈ p.places, x.pieces.length < 1000000) (hc : ∀ x ∈ p.places, ∀ y ∈ x.pieces, 0 ≤ y.1 ∧ y.1 < 16) :
    WC R F.plan_apart [v] m fun r m' => r = .bool (decide (apartP (preP p.places p.places.length))) ∧ Ext m m' := by
  refine WC.of R.plan_apart rfl ?_
  obtain ⟨pv, rfl, hp⟩ := hv
  simp only [RC.plan_apart, planV, go_sem, Bool.false_and, new_set, Int.reduceBEq, Int.reduceBNe, Int.reduceNeg, not_true_eq_false, beq_self_eq_true, bne_self_eq_false, Bool.false_eq_true, if_false, if_true, Int.cast_ofNat_Int, decide_true, decide_false, reduceCtorEq, Nat.reduceEqDiff, Nat.reduceAdd, ne_eq, not_false_eq_true, Option.map_some, Option.bind_some, Option.map_none, Option.bind_none, true_and, and_true, Bool.not_true, Bool.not_false, Nat.reduceLeDiff, Nat.reduceMul, Nat.reduceSub, Nat.le_refl, Int.reduceToNat, Int.reduceLT, Int.reduceLE, Nat.one_mul, Nat.mul_one, hp.one]
  have hx : Ext m (m.new (.cells [.int .i64 p.frame, u32 p.cores, pv] (some 3))) := Ext.new
  have hb : Bk (m.new (.cells [.int .i64 p.frame, u32 p.cores, pv] (some 3))) m.next [.int .i64 p.frame, u32 p.cores, pv] 3 := Bk.new
  generalize m.new (.cells [.int .i64 p.frame, u32 p.cores, pv] (some 3)) = m1 at hx hb ⊢
  have hp1' := hp.keep hx
  have hbn := hb.ne
  try simp only [go_sem, Bool.false_and, new_set, Int.reduceBEq, Int.reduceBNe, Int.reduceNeg, not_true_eq_false, beq_self_eq_true, bne_self_eq_false, Bool.false_eq_true, if_false, if_true, Int.cast_ofNat_Int, decide_true, decide_false, reduceCtorEq, Nat.reduceEqDiff, Nat.reduceAdd, ne_eq, not_false_eq_true, Option.map_some, Option.bind_some, Option.map_none, Option.bind_none, true_and, and_true, Bool.not_true, Bool.not_false, Nat.reduceLeDiff, Nat.reduceMul, Nat.reduceSub, Nat.le_refl, Int.reduceToNat, Int.reduceLT, Int.reduceLE, Nat.one_mul, Nat.mul_one, load_w, load_a, store_b, idxS_b, set_blk, new_blk, set_next, new_next, len_s, ldW_c, ldA_c, stB_c, toArr_one, size_one, toList_toArr, size_toArr, List.length_cons, List.length_nil, List.getElem?_cons_zero, List.getElem?_cons_succ, Nat.zero_add, Nat.add_zero, hb.at_, hbn, hp1'.len]
  have hx2 : Ext m1 (m1.new (.cells [u64 0#64, u64 0#64, u64 0#64, u64 0#64, u64 0#64, u64 0#64, u64 0#64, u64 0#64, u64 0#64, u64 0#64, u64 0#64, u64 0#64, u64 0#64, u64 0#64, u64 0#64, u64 0#64] (some 16))) := Ext.new
  have hb2 : Bk (m1.new (.cells [u64 0#64, u64 0#64, u64 0#64, u64 0#64, u64 0#64, u64 0#64, u64 0#64, u64 0#64, u64 0#64, u64 0#64, u64 0#64, u64 0#64, u64 0#64, u64 0#64, u64 0#64, u64 0#64] (some 16))) m1.next [u64 0#64, u64 0#64, u64 0#64, u64 0#64, u64 0#64, u64 0#64, u64 0#64, u64 0#64, u64 0#64, u64 0#64, u64 0#64, u64 0#64, u64 0#64, u64 0#64, u64 0#64, u64 0#64] 16 := Bk.new
  generalize m1.new (.cells [u64 0#64, u64 0#64, u64 0#64, u64 0#64, u64 0#64, u64 0#64, u64 0#64, u64 0#64, u64 0#64, u64 0#64, u64 0#64, u64 0#64, u64 0#64, u64 0#64, u64 0#64, u64 0#64] (some 16)) = m2 at hx2 hb2 ⊢
  have hb2' := hb.keep hx2
  have hM2 : Met m2 m1.next [] := ⟨List.replicate 16 0#64, hb2, rfl, fun c hc => by rw [List.getElem_replicate]; rfl⟩
  try simp only [go_sem, Bool.false_and, new_set, Int.reduceBEq, Int.reduceBNe, Int.reduceNeg, not_true_eq_false, beq_self_eq_true, bne_self_eq_false, Bool.false_eq_true, if_false, if_true, Int.cast_ofNat_Int, decide_true, decide_false, reduceCtorEq, Nat.reduceEqDiff, Nat.reduceAdd, ne_eq, not_false_eq_true, Option.map_some, Option.bind_some, Option.map_none, Option.bind_none, true_and, and_true, Bool.not_true, Bool.not_false, Nat.reduceLeDiff, Nat.reduceMul, Nat.reduceSub, Nat.le_refl, Int.reduceToNat, Int.reduceLT, Int.reduceLE, Nat.one_mul, Nat.mul_one, load_w, load_a, store_b, idxS_b, set_blk, new_blk, set_next, new_next, len_s, ldW_c, ldA_c, stB_c, toArr_one, size_one, toList_toArr, size_toArr, List.length_cons, List.length_nil, List.getElem?_cons_zero, List.getElem?_cons_succ, Nat.zero_add, Nat.add_zero, hb2'.at_, hp1'.len]
  refine WL.of (fun n e m' => ∃ i : Nat, i ≤ p.places.length ∧ n = p.places.length - i ∧ e = [(3, pt m1.next), (9, pv), (10, .int .i64 p.places.length), (11, .int .i64 i)] ∧ Met m' m1.next (preP p.places i) ∧ apartP (preP p.places i) ∧ Ext m1 m') p.places.length
    ⟨0, by omega, by omega, by simp only [go_sem, Bool.false_and, new_set, Int.reduceBEq, Int.reduceBNe, Int.reduceNeg, not_true_eq_false, beq_self_eq_true, bne_self_eq_false, Bool.false_eq_true, if_false, if_true, Int.cast_ofNat_Int, decide_true, decide_false, reduceCtorEq, Nat.reduceEqDiff, Nat.reduceAdd, ne_eq, not_false_eq_true, Option.map_some, Option.bind_some, Option.map_none, Option.bind_none, true_and, and_true, Bool.not_true, Bool.not_false, Nat.reduceLeDiff, Nat.reduceMul, Nat.reduceSub, Nat.le_refl, Int.reduceToNat, Int.reduceLT, Int.reduceLE, Nat.one_mul, Nat.mul_one] <;> rfl, by simpa [preP] using hM2, by intro k hk; simp [preP] at hk, hx2⟩ ?_
  rintro _ _ m3 ⟨i, hi, rfl, rfl, hM, hap, hx3⟩
  have hp3 := hp1'.keep hx3
  simp only [RB.plan_apart_2, pt, go_sem, Bool.false_and, new_set, Int.reduceBEq, Int.reduceBNe, Int.reduceNeg, not_true_eq_false, beq_self_eq_true, bne_self_eq_false, Bool.false_eq_true, if_false, if_true, Int.cast_ofNat_Int, decide_true, decide_false, reduceCtorEq, Nat.reduceEqDiff, Nat.reduceAdd, ne_eq, not_false_eq_true, Option.map_some, Option.bind_some, Option.map_none, Option.bind_none, true_and, and_true, Bool.not_true, Bool.not_false, Nat.reduceLeDiff, Nat.reduceMul, Nat.reduceSub, Nat.le_refl, Int.reduceToNat, Int.reduceLT, Int.reduceLE, Nat.one_mul, Nat.mul_one]
  refine gT.of (fun h1' => ?_) (fun h1' => ?_) <;> (have h1 := h1'; try simp only [decide_eq_true_eq, decide_eq_false_iff_not, beq_iff_eq, bne_iff_ne, beq_eq_false_iff_ne, ne_eq, Bool.not_eq_true', Bool.not_eq_false', bne_eq_false_iff_eq, Int.not_lt, Int.not_le] at h1)
  · have hil : i < p.places.length := by omega
    obtain ⟨b, o, qv, a1, a2, a3, a4, a5⟩ := hp1'.elem hil
    rw [← load_ext hx3 a5] at a2
    have hpre := preP_succ hil
    have hmem := List.getElem_mem hil
    have hpl := hp1 _ hmem
    have hcc := hc _ hmem
    have s1 := step1 (show i < 1000000 by omega)
    have hrest : preP p.places p.places.length = preP p.places (i + 1) ++ (p.places.drop (i + 1)).flatMap (·.pieces) := by
      unfold preP
      rw [← List.flatMap_append, List.take_length, List.take_append_drop]
    generalize p.places[i] = x at *
    simp only [plV] at a2
    try simp only [go_sem, Bool.false_and, new_set, Int.reduceBEq, Int.reduceBNe, Int.reduceNeg, not_true_eq_false, beq_self_eq_true, bne_self_eq_false, Bool.false_eq_true, if_false, if_true, Int.cast_ofNat_Int, decide_true, decide_false, reduceCtorEq, Nat.reduceEqDiff, Nat.reduceAdd, ne_eq, not_false_eq_true, Option.map_some, Option.bind_some, Option.map_none, Option.bind_none, true_and, and_true, Bool.not_true, Bool.not_false, Nat.reduceLeDiff, Nat.reduceMul, Nat.reduceSub, Nat.le_refl, Int.reduceToNat, Int.reduceLT, Int.reduceLE, Nat.one_mul, Nat.mul_one, load_w, load_a, store_b, idxS_b, set_blk, new_blk, set_next, new_next, len_s, ldW_c, ldA_c, stB_c, toArr_one, size_one, toList_toArr, size_toArr, List.length_cons, List.length_nil, List.getElem?_cons_zero, List.getElem?_cons_succ, Nat.zero_add, Nat.add_zero, a1, a2, a4.one]
    have hx4 : Ext m3 (m3.new (.cells [.int .i64 x.unit, .int .i64 x.share, .int .i64 x.core, qv] (some 4))) := Ext.new
    have hb4 : Bk (m3.new (.cells [.int .i64 x.unit, .int .i64 x.share, .int .i64 x.core, qv] (some 4))) m3.next [.int .i64 x.unit, .int .i64 x.share, .int .i64 x.core, qv] 4 := Bk.new
    generalize m3.new (.cells [.int .i64 x.unit, .int .i64 x.share, .int .i64 x.core, qv] (some 4)) = m4 at hx4 hb4 ⊢
    try simp only [go_sem, Bool.false_and, new_set, Int.reduceBEq, Int.reduceBNe, Int.reduceNeg, not_true_eq_false, beq_self_eq_true, bne_self_eq_false, Bool.false_eq_true, if_false, if_true, Int.cast_ofNat_Int, decide_true, decide_false, reduceCtorEq, Nat.reduceEqDiff, Nat.reduceAdd, ne_eq, not_false_eq_true, Option.map_some, Option.bind_some, Option.map_none, Option.bind_none, true_and, and_true, Bool.not_true, Bool.not_false, Nat.reduceLeDiff, Nat.reduceMul, Nat.reduceSub, Nat.le_refl, Int.reduceToNat, Int.reduceLT, Int.reduceLE, Nat.one_mul, Nat.mul_one, load_w, load_a, store_b, idxS_b, set_blk, new_blk, set_next, new_next, len_s, ldW_c, ldA_c, stB_c, toArr_one, size_one, toList_toArr, size_toArr, List.length_cons, List.length_nil, List.getElem?_cons_zero, List.getElem?_cons_succ, Nat.zero_add, Nat.add_zero, hb4.at_, a4.len]
    have hx34 : Ext m1 m4 := hx3.trans hx4
    refine WL.mono (apart1p_loop (m0 := m1) (x := x) (b := m1.next) (pre := preP p.places i) hx34 a4 (hM.keep hx4) (Nat.le_refl _) hap hpl hcc) ?_
    rintro _ _ m5 (⟨rfl, rfl, hno, hx5⟩ | ⟨rfl, rfl, hM5, hap5, hx5⟩)
    · try simp only [go_sem, Bool.false_and, new_set, Int.reduceBEq, Int.reduceBNe, Int.reduceNeg, not_true_eq_false, beq_self_eq_true, bne_self_eq_false, Bool.false_eq_true, if_false, if_true, Int.cast_ofNat_Int, decide_true, decide_false, reduceCtorEq, Nat.reduceEqDiff, Nat.reduceAdd, ne_eq, not_false_eq_true, Option.map_some, Option.bind_some, Option.map_none, Option.bind_none, true_and, and_true, Bool.not_true, Bool.not_false, Nat.reduceLeDiff, Nat.reduceMul, Nat.reduceSub, Nat.le_refl, Int.reduceToNat, Int.reduceLT, Int.reduceLE, Nat.one_mul, Nat.mul_one, load_w, load_a, store_b, idxS_b, set_blk, new_blk, set_next, new_next, len_s, ldW_c, ldA_c, stB_c, toArr_one, size_one, toList_toArr, size_toArr, List.length_cons, List.length_nil, List.getElem?_cons_zero, List.getElem?_cons_succ, Nat.zero_add, Nat.add_zero]
      exact ⟨fin_no fun h => by rw [hrest, hpre] at h; exact hno (apartP_pre h), hx.trans hx5⟩
    · simp only [pt]
      try simp only [go_sem, Bool.false_and, new_set, Int.reduceBEq, Int.reduceBNe, Int.reduceNeg, not_true_eq_false, beq_self_eq_true, bne_self_eq_false, Bool.false_eq_true, if_false, if_true, Int.cast_ofNat_Int, decide_true, decide_false, reduceCtorEq, Nat.reduceEqDiff, Nat.reduceAdd, ne_eq, not_false_eq_true, Option.map_some, Option.bind_some, Option.map_none, Option.bind_none, true_and, and_true, Bool.not_true, Bool.not_false, Nat.reduceLeDiff, Nat.reduceMul, Nat.reduceSub, Nat.le_refl, Int.reduceToNat, Int.reduceLT, Int.reduceLE, Nat.one_mul, Nat.mul_one, load_w, load_a, store_b, idxS_b, set_blk, new_blk, set_next, new_next, len_s, ldW_c, ldA_c, stB_c, toArr_one, size_one, toList_toArr, size_toArr, List.length_cons, List.length_nil, List.getElem?_cons_zero, List.getElem?_cons_succ, Nat.zero_add, Nat.add_zero, s1]
      exact ⟨p.places.length - (i + 1), by omega, i + 1, by omega, rfl, rfl, by rw [hpre]; exact hM5, by rw [hpre]; exact hap5, hx5⟩
  · have : i = p.places.length := by omega
    subst this
    try simp only [go_sem, Bool.false_and, new_set, Int.reduceBEq, Int.reduceBNe, Int.reduceNeg, not_true_eq_false, beq_self_eq_true, bne_self_eq_false, Bool.false_eq_true, if_false, if_true, Int.cast_ofNat_Int, decide_true, decide_false, reduceCtorEq, Nat.reduceEqDiff, Nat.reduceAdd, ne_eq, not_false_eq_true, Option.map_some, Option.bind_some, Option.map_none, Option.bind_none, true_and, and_true, Bool.not_true, Bool.not_false, Nat.reduceLeDiff, Nat.reduceMul, Nat.reduceSub, Nat.le_refl, Int.reduceToNat, Int.reduceLT, Int.reduceLE, Nat.one_mul, Nat.mul_one, load_w, load_a, store_b, idxS_b, set_blk, new_blk, set_next, new_next, len_s, ldW_c, ldA_c, stB_c, toArr_one, size_one, toList_toArr, size_toArr, List.length_cons, List.length_nil, List.getElem?_cons_zero, List.getElem?_cons_succ, Nat.zero_add, Nat.add_zero, h1']
    exact ⟨fin_yes hap, hx.trans hx3⟩
end Go.Am


/- PlanX3 over the table of table (relayset.py). -/
set_option linter.unusedVariables false
set_option linter.unusedSimpArgs false
namespace Go.Am
open Classical
variable {m : Mem}

def plC (p : PlanD) (i : Nat) : Prop := ∃ h : i < p.places.length, placeP p p.places[i] ∧ ∀ h : 0 < i, (p.places[i - 1]'(by omega)).unit < p.places[i].unit
def CheckP (p : PlanD) : Prop :=
  2 ≤ p.frame ∧ p.frame ≤ 64 ∧ p.cores ≠ 0#32 ∧ p.cores >>> 16 = 0#32 ∧ (∀ i, i < p.places.length → plC p i) ∧ apartP (preP p.places p.places.length) ∧ p.places.countP isSp < (csP p 16).length ∧
  ∀ c ∈ csP p 16, 0 ≤ leftP p (c : Nat)

theorem plC_r {p : PlanD} (h : 2 ≤ p.frame) (h2 : p.frame ≤ 64) (hl : PlanL p) (ha : ∀ i, i < p.places.length → plC p i) : PlanR p := by
  refine ⟨hl.len, hl.pcs, fun x hx => ?_, by omega, h2⟩
  obtain ⟨i, hi, rfl⟩ := List.getElem_of_mem hx
  obtain ⟨_, h, -⟩ := ha i hi
  have := h.2.1; have := h.2.2.1
  omega
theorem plC_cores {p : PlanD} (ha : ∀ i, i < p.places.length → plC p i) : ∀ x ∈ p.places, ∀ y ∈ x.pieces, 0 ≤ y.1 ∧ y.1 < 16 := by
  intro x hx y hy
  obtain ⟨i, hi, rfl⟩ := List.getElem_of_mem hx
  obtain ⟨_, h, -⟩ := ha i hi
  have := h.2.2.2.2 (by intro e; rw [List.eq_nil_of_length_eq_zero e] at hy; cases hy)
  obtain ⟨j, hj, rfl⟩ := List.getElem_of_mem hy
  obtain ⟨⟨_, g, -⟩, -⟩ := this.1 j hj
  exact hasC_range g

noncomputable def chk (p : PlanD) : Value := .int .i64 (if CheckP p then 0 else 30)
theorem chk_no {p : PlanD} (h : ¬ CheckP p) : Value.int .i64 30 = chk p := by unfold chk; rw [if_neg h]
theorem chk_yes {p : PlanD} (h : CheckP p) : Value.int .i64 0 = chk p := by unfold chk; rw [if_pos h]

set_option maxHeartbeats 4000000 in
theorem Check_spec {p : PlanD} {v : Value} (hv : PlanV m p v) (hl : PlanL p) : WC R F.plan_Check [v] m fun r m' => r = chk p ∧ Ext m m' := by
  refine WC.of R.plan_Check rfl ?_
  obtain ⟨pv, rfl, hp⟩ := hv
  simp only [RC.plan_Check, planV, go_sem, Bool.false_and, new_set, Int.reduceBEq, Int.reduceBNe, Int.reduceNeg, not_true_eq_false, beq_self_eq_true, bne_self_eq_false, Bool.false_eq_true, if_false, if_true, Int.cast_ofNat_Int, decide_true, decide_false, reduceCtorEq, Nat.reduceEqDiff, Nat.reduceAdd, ne_eq, not_false_eq_true, Option.map_some, Option.bind_some, Option.map_none, Option.bind_none, true_and, and_true, Bool.not_true, Bool.not_false, Nat.reduceLeDiff, Nat.reduceMul, Nat.reduceSub, Nat.le_refl, Int.reduceToNat, Int.reduceLT, Int.reduceLE, Nat.one_mul, Nat.mul_one, hp.one]
  have hx : Ext m (m.new (.cells [.int .i64 p.frame, u32 p.cores, pv] (some 3))) := Ext.new
  have hb : Bk (m.new (.cells [.int .i64 p.frame, u32 p.cores, pv] (some 3))) m.next [.int .i64 p.frame, u32 p.cores, pv] 3 := Bk.new
  generalize m.new (.cells [.int .i64 p.frame, u32 p.cores, pv] (some 3)) = m1 at hx hb ⊢
  try simp only [go_sem, Bool.false_and, new_set, Int.reduceBEq, Int.reduceBNe, Int.reduceNeg, not_true_eq_false, beq_self_eq_true, bne_self_eq_false, Bool.false_eq_true, if_false, if_true, Int.cast_ofNat_Int, decide_true, decide_false, reduceCtorEq, Nat.reduceEqDiff, Nat.reduceAdd, ne_eq, not_false_eq_true, Option.map_some, Option.bind_some, Option.map_none, Option.bind_none, true_and, and_true, Bool.not_true, Bool.not_false, Nat.reduceLeDiff, Nat.reduceMul, Nat.reduceSub, Nat.le_refl, Int.reduceToNat, Int.reduceLT, Int.reduceLE, Nat.one_mul, Nat.mul_one, load_w, load_a, store_b, idxS_b, set_blk, new_blk, set_next, new_next, len_s, ldW_c, ldA_c, stB_c, toArr_one, size_one, toList_toArr, size_toArr, List.length_cons, List.length_nil, List.getElem?_cons_zero, List.getElem?_cons_succ, Nat.zero_add, Nat.add_zero, hb.at_]
  refine gT.of (fun h1' => ?_) (fun h1' => ?_) <;> (have h1 := h1'; try simp only [decide_eq_true_eq, decide_eq_false_iff_not, beq_iff_eq, bne_iff_ne, beq_eq_false_iff_ne, ne_eq, Bool.not_eq_true', Bool.not_eq_false', bne_eq_false_iff_eq, Int.not_lt, Int.not_le] at h1)
  · try simp only [go_sem, Bool.false_and, new_set, Int.reduceBEq, Int.reduceBNe, Int.reduceNeg, not_true_eq_false, beq_self_eq_true, bne_self_eq_false, Bool.false_eq_true, if_false, if_true, Int.cast_ofNat_Int, decide_true, decide_false, reduceCtorEq, Nat.reduceEqDiff, Nat.reduceAdd, ne_eq, not_false_eq_true, Option.map_some, Option.bind_some, Option.map_none, Option.bind_none, true_and, and_true, Bool.not_true, Bool.not_false, Nat.reduceLeDiff, Nat.reduceMul, Nat.reduceSub, Nat.le_refl, Int.reduceToNat, Int.reduceLT, Int.reduceLE, Nat.one_mul, Nat.mul_one, load_w, load_a, store_b, idxS_b, set_blk, new_blk, set_next, new_next, len_s, ldW_c, ldA_c, stB_c, toArr_one, size_one, toList_toArr, size_toArr, List.length_cons, List.length_nil, List.getElem?_cons_zero, List.getElem?_cons_succ, Nat.zero_add, Nat.add_zero, h1']
    exact ⟨chk_no fun h => by have := h.1; omega, hx⟩
  · try simp only [go_sem, Bool.false_and, new_set, Int.reduceBEq, Int.reduceBNe, Int.reduceNeg, not_true_eq_false, beq_self_eq_true, bne_self_eq_false, Bool.false_eq_true, if_false, if_true, Int.cast_ofNat_Int, decide_true, decide_false, reduceCtorEq, Nat.reduceEqDiff, Nat.reduceAdd, ne_eq, not_false_eq_true, Option.map_some, Option.bind_some, Option.map_none, Option.bind_none, true_and, and_true, Bool.not_true, Bool.not_false, Nat.reduceLeDiff, Nat.reduceMul, Nat.reduceSub, Nat.le_refl, Int.reduceToNat, Int.reduceLT, Int.reduceLE, Nat.one_mul, Nat.mul_one, load_w, load_a, store_b, idxS_b, set_blk, new_blk, set_next, new_next, len_s, ldW_c, ldA_c, stB_c, toArr_one, size_one, toList_toArr, size_toArr, List.length_cons, List.length_nil, List.getElem?_cons_zero, List.getElem?_cons_succ, Nat.zero_add, Nat.add_zero, h1', hb.at_]
    refine gT.of (fun h2' => ?_) (fun h2' => ?_) <;> (have h2 := h2'; try simp only [decide_eq_true_eq, decide_eq_false_iff_not, beq_iff_eq, bne_iff_ne, beq_eq_false_iff_ne, ne_eq, Bool.not_eq_true', Bool.not_eq_false', bne_eq_false_iff_eq, Int.not_lt, Int.not_le] at h2)
    · try simp only [go_sem, Bool.false_and, new_set, Int.reduceBEq, Int.reduceBNe, Int.reduceNeg, not_true_eq_false, beq_self_eq_true, bne_self_eq_false, Bool.false_eq_true, if_false, if_true, Int.cast_ofNat_Int, decide_true, decide_false, reduceCtorEq, Nat.reduceEqDiff, Nat.reduceAdd, ne_eq, not_false_eq_true, Option.map_some, Option.bind_some, Option.map_none, Option.bind_none, true_and, and_true, Bool.not_true, Bool.not_false, Nat.reduceLeDiff, Nat.reduceMul, Nat.reduceSub, Nat.le_refl, Int.reduceToNat, Int.reduceLT, Int.reduceLE, Nat.one_mul, Nat.mul_one, load_w, load_a, store_b, idxS_b, set_blk, new_blk, set_next, new_next, len_s, ldW_c, ldA_c, stB_c, toArr_one, size_one, toList_toArr, size_toArr, List.length_cons, List.length_nil, List.getElem?_cons_zero, List.getElem?_cons_succ, Nat.zero_add, Nat.add_zero, h2']
      exact ⟨chk_no fun h => by have := h.2.1; omega, hx⟩
    · try simp only [go_sem, Bool.false_and, new_set, Int.reduceBEq, Int.reduceBNe, Int.reduceNeg, not_true_eq_false, beq_self_eq_true, bne_self_eq_false, Bool.false_eq_true, if_false, if_true, Int.cast_ofNat_Int, decide_true, decide_false, reduceCtorEq, Nat.reduceEqDiff, Nat.reduceAdd, ne_eq, not_false_eq_true, Option.map_some, Option.bind_some, Option.map_none, Option.bind_none, true_and, and_true, Bool.not_true, Bool.not_false, Nat.reduceLeDiff, Nat.reduceMul, Nat.reduceSub, Nat.le_refl, Int.reduceToNat, Int.reduceLT, Int.reduceLE, Nat.one_mul, Nat.mul_one, load_w, load_a, store_b, idxS_b, set_blk, new_blk, set_next, new_next, len_s, ldW_c, ldA_c, stB_c, toArr_one, size_one, toList_toArr, size_toArr, List.length_cons, List.length_nil, List.getElem?_cons_zero, List.getElem?_cons_succ, Nat.zero_add, Nat.add_zero, h2', hb.at_]
      refine gT.of (fun h3' => ?_) (fun h3' => ?_) <;> (have h3 := h3'; try simp only [decide_eq_true_eq, decide_eq_false_iff_not, beq_iff_eq, bne_iff_ne, beq_eq_false_iff_ne, ne_eq, Bool.not_eq_true', Bool.not_eq_false', bne_eq_false_iff_eq, Int.not_lt, Int.not_le] at h3)
      · try simp only [go_sem, Bool.false_and, new_set, Int.reduceBEq, Int.reduceBNe, Int.reduceNeg, not_true_eq_false, beq_self_eq_true, bne_self_eq_false, Bool.false_eq_true, if_false, if_true, Int.cast_ofNat_Int, decide_true, decide_false, reduceCtorEq, Nat.reduceEqDiff, Nat.reduceAdd, ne_eq, not_false_eq_true, Option.map_some, Option.bind_some, Option.map_none, Option.bind_none, true_and, and_true, Bool.not_true, Bool.not_false, Nat.reduceLeDiff, Nat.reduceMul, Nat.reduceSub, Nat.le_refl, Int.reduceToNat, Int.reduceLT, Int.reduceLE, Nat.one_mul, Nat.mul_one, load_w, load_a, store_b, idxS_b, set_blk, new_blk, set_next, new_next, len_s, ldW_c, ldA_c, stB_c, toArr_one, size_one, toList_toArr, size_toArr, List.length_cons, List.length_nil, List.getElem?_cons_zero, List.getElem?_cons_succ, Nat.zero_add, Nat.add_zero, h3']
        exact ⟨chk_no fun h => h.2.2.1 h3, hx⟩
      · try simp only [go_sem, Bool.false_and, new_set, Int.reduceBEq, Int.reduceBNe, Int.reduceNeg, not_true_eq_false, beq_self_eq_true, bne_self_eq_false, Bool.false_eq_true, if_false, if_true, Int.cast_ofNat_Int, decide_true, decide_false, reduceCtorEq, Nat.reduceEqDiff, Nat.reduceAdd, ne_eq, not_false_eq_true, Option.map_some, Option.bind_some, Option.map_none, Option.bind_none, true_and, and_true, Bool.not_true, Bool.not_false, Nat.reduceLeDiff, Nat.reduceMul, Nat.reduceSub, Nat.le_refl, Int.reduceToNat, Int.reduceLT, Int.reduceLE, Nat.one_mul, Nat.mul_one, load_w, load_a, store_b, idxS_b, set_blk, new_blk, set_next, new_next, len_s, ldW_c, ldA_c, stB_c, toArr_one, size_one, toList_toArr, size_toArr, List.length_cons, List.length_nil, List.getElem?_cons_zero, List.getElem?_cons_succ, Nat.zero_add, Nat.add_zero, h3', hb.at_]
        refine gT.of (fun h4' => ?_) (fun h4' => ?_) <;> (have h4 := h4'; try simp only [decide_eq_true_eq, decide_eq_false_iff_not, beq_iff_eq, bne_iff_ne, beq_eq_false_iff_ne, ne_eq, Bool.not_eq_true', Bool.not_eq_false', bne_eq_false_iff_eq, Int.not_lt, Int.not_le] at h4)
        · try simp only [go_sem, Bool.false_and, new_set, Int.reduceBEq, Int.reduceBNe, Int.reduceNeg, not_true_eq_false, beq_self_eq_true, bne_self_eq_false, Bool.false_eq_true, if_false, if_true, Int.cast_ofNat_Int, decide_true, decide_false, reduceCtorEq, Nat.reduceEqDiff, Nat.reduceAdd, ne_eq, not_false_eq_true, Option.map_some, Option.bind_some, Option.map_none, Option.bind_none, true_and, and_true, Bool.not_true, Bool.not_false, Nat.reduceLeDiff, Nat.reduceMul, Nat.reduceSub, Nat.le_refl, Int.reduceToNat, Int.reduceLT, Int.reduceLE, Nat.one_mul, Nat.mul_one, load_w, load_a, store_b, idxS_b, set_blk, new_blk, set_next, new_next, len_s, ldW_c, ldA_c, stB_c, toArr_one, size_one, toList_toArr, size_toArr, List.length_cons, List.length_nil, List.getElem?_cons_zero, List.getElem?_cons_succ, Nat.zero_add, Nat.add_zero, h4']
          exact ⟨chk_no fun h => h4 h.2.2.2.1, hx⟩
        · have hc : p.cores >>> 16 = 0#32 := Decidable.not_not.1 h4
          have hpk := hp.keep hx
          try simp only [go_sem, Bool.false_and, new_set, Int.reduceBEq, Int.reduceBNe, Int.reduceNeg, not_true_eq_false, beq_self_eq_true, bne_self_eq_false, Bool.false_eq_true, if_false, if_true, Int.cast_ofNat_Int, decide_true, decide_false, reduceCtorEq, Nat.reduceEqDiff, Nat.reduceAdd, ne_eq, not_false_eq_true, Option.map_some, Option.bind_some, Option.map_none, Option.bind_none, true_and, and_true, Bool.not_true, Bool.not_false, Nat.reduceLeDiff, Nat.reduceMul, Nat.reduceSub, Nat.le_refl, Int.reduceToNat, Int.reduceLT, Int.reduceLE, Nat.one_mul, Nat.mul_one, load_w, load_a, store_b, idxS_b, set_blk, new_blk, set_next, new_next, len_s, ldW_c, ldA_c, stB_c, toArr_one, size_one, toList_toArr, size_toArr, List.length_cons, List.length_nil, List.getElem?_cons_zero, List.getElem?_cons_succ, Nat.zero_add, Nat.add_zero, h4', hb.at_, hpk.len]
          refine WL.of (fun n e m' => ∃ i : Nat, i ≤ p.places.length ∧ n = p.places.length - i ∧ e = [(1, pt m.next), (27, pv), (28, .int .i64 p.places.length), (29, .int .i64 i)] ∧ (∀ j, j < i → plC p j) ∧ Ext m1 m') p.places.length
            ⟨0, by omega, by omega, by simp only [go_sem, Bool.false_and, new_set, Int.reduceBEq, Int.reduceBNe, Int.reduceNeg, not_true_eq_false, beq_self_eq_true, bne_self_eq_false, Bool.false_eq_true, if_false, if_true, Int.cast_ofNat_Int, decide_true, decide_false, reduceCtorEq, Nat.reduceEqDiff, Nat.reduceAdd, ne_eq, not_false_eq_true, Option.map_some, Option.bind_some, Option.map_none, Option.bind_none, true_and, and_true, Bool.not_true, Bool.not_false, Nat.reduceLeDiff, Nat.reduceMul, Nat.reduceSub, Nat.le_refl, Int.reduceToNat, Int.reduceLT, Int.reduceLE, Nat.one_mul, Nat.mul_one] <;> rfl, fun d hd => by omega, Ext.refl _⟩ ?_
          rintro _ _ m2 ⟨i, hi, rfl, rfl, hall, hx2⟩
          have hp2 := hpk.keep hx2
          have hb2 := hb.keep hx2
          simp only [RB.plan_Check_2, pt, go_sem, Bool.false_and, new_set, Int.reduceBEq, Int.reduceBNe, Int.reduceNeg, not_true_eq_false, beq_self_eq_true, bne_self_eq_false, Bool.false_eq_true, if_false, if_true, Int.cast_ofNat_Int, decide_true, decide_false, reduceCtorEq, Nat.reduceEqDiff, Nat.reduceAdd, ne_eq, not_false_eq_true, Option.map_some, Option.bind_some, Option.map_none, Option.bind_none, true_and, and_true, Bool.not_true, Bool.not_false, Nat.reduceLeDiff, Nat.reduceMul, Nat.reduceSub, Nat.le_refl, Int.reduceToNat, Int.reduceLT, Int.reduceLE, Nat.one_mul, Nat.mul_one]
          refine gT.of (fun h5' => ?_) (fun h5' => ?_) <;> (have h5 := h5'; try simp only [decide_eq_true_eq, decide_eq_false_iff_not, beq_iff_eq, bne_iff_ne, beq_eq_false_iff_ne, ne_eq, Bool.not_eq_true', Bool.not_eq_false', bne_eq_false_iff_eq, Int.not_lt, Int.not_le] at h5)
          · have hil : i < p.places.length := by omega
            obtain ⟨b, o, qv, a1, a2, a3, a4, a5⟩ := hp2.elem hil
            have hprev : ∀ h : 0 < i, ∃ b' o', aIdxS 4 pv (.int .i64 (i - 1 : Nat)) = some (.pointer (some ⟨b', o', none⟩)) ∧ ∀ m', Ext m2 m' → aLoad false 1 m' (.pointer (some ⟨b', o', none⟩)) = some (.int .i64 (p.places[i - 1]'(by omega)).unit) := fun h => hp2.prev (by omega)
            have bad : ¬ (placeP p p.places[i] ∧ ∀ h : 0 < i, (p.places[i - 1]'(by omega)).unit < p.places[i].unit) → ¬ CheckP p := fun h h2 => h (let ⟨_, g⟩ := h2.2.2.2.2.1 i hil; g)
            have good : (placeP p p.places[i] ∧ ∀ h : 0 < i, (p.places[i - 1]'(by omega)).unit < p.places[i].unit) → ∀ j, j < i + 1 → plC p j := by
              intro h j hj
              by_cases e : j = i
              · subst e; exact ⟨hil, h⟩
              · exact hall j (by omega)
            have hpl := hl.pcs _ (List.getElem_mem hil)
            have n2 := hb2.ne
            generalize p.places[i] = x at *
            simp only [plV] at a2
            try simp only [go_sem, Bool.false_and, new_set, Int.reduceBEq, Int.reduceBNe, Int.reduceNeg, not_true_eq_false, beq_self_eq_true, bne_self_eq_false, Bool.false_eq_true, if_false, if_true, Int.cast_ofNat_Int, decide_true, decide_false, reduceCtorEq, Nat.reduceEqDiff, Nat.reduceAdd, ne_eq, not_false_eq_true, Option.map_some, Option.bind_some, Option.map_none, Option.bind_none, true_and, and_true, Bool.not_true, Bool.not_false, Nat.reduceLeDiff, Nat.reduceMul, Nat.reduceSub, Nat.le_refl, Int.reduceToNat, Int.reduceLT, Int.reduceLE, Nat.one_mul, Nat.mul_one, load_w, load_a, store_b, idxS_b, set_blk, new_blk, set_next, new_next, len_s, ldW_c, ldA_c, stB_c, toArr_one, size_one, toList_toArr, size_toArr, List.length_cons, List.length_nil, List.getElem?_cons_zero, List.getElem?_cons_succ, Nat.zero_add, Nat.add_zero, hb2.at_, a1, a2, n2, a4.one]
            have hx3 : Ext m2 (m2.new (.cells [.int .i64 x.unit, .int .i64 x.share, .int .i64 x.core, qv] (some 4))) := Ext.new
            have hb3 : Bk (m2.new (.cells [.int .i64 x.unit, .int .i64 x.share, .int .i64 x.core, qv] (some 4))) m2.next [.int .i64 x.unit, .int .i64 x.share, .int .i64 x.core, qv] 4 := Bk.new
            generalize m2.new (.cells [.int .i64 x.unit, .int .i64 x.share, .int .i64 x.core, qv] (some 4)) = m3 at hx3 hb3 ⊢
            have hp3 := hp2.keep hx3
            have hc3 := hb2.keep hx3
            try simp only [go_sem, Bool.false_and, new_set, Int.reduceBEq, Int.reduceBNe, Int.reduceNeg, not_true_eq_false, beq_self_eq_true, bne_self_eq_false, Bool.false_eq_true, if_false, if_true, Int.cast_ofNat_Int, decide_true, decide_false, reduceCtorEq, Nat.reduceEqDiff, Nat.reduceAdd, ne_eq, not_false_eq_true, Option.map_some, Option.bind_some, Option.map_none, Option.bind_none, true_and, and_true, Bool.not_true, Bool.not_false, Nat.reduceLeDiff, Nat.reduceMul, Nat.reduceSub, Nat.le_refl, Int.reduceToNat, Int.reduceLT, Int.reduceLE, Nat.one_mul, Nat.mul_one, load_w, load_a, store_b, idxS_b, set_blk, new_blk, set_next, new_next, len_s, ldW_c, ldA_c, stB_c, toArr_one, size_one, toList_toArr, size_toArr, List.length_cons, List.length_nil, List.getElem?_cons_zero, List.getElem?_cons_succ, Nat.zero_add, Nat.add_zero, hc3.at_, hb3.at_]
            refine gC.of (place_spec (p := p) (x := x) ⟨pv, rfl, hp3⟩ ⟨qv, rfl, a4.keep hx3⟩ hpl) ?_
            rintro _ m4 ⟨rfl, hx4⟩
            simp only [go_sem, Bool.false_and, new_set, Int.reduceBEq, Int.reduceBNe, Int.reduceNeg, not_true_eq_false, beq_self_eq_true, bne_self_eq_false, Bool.false_eq_true, if_false, if_true, Int.cast_ofNat_Int, decide_true, decide_false, reduceCtorEq, Nat.reduceEqDiff, Nat.reduceAdd, ne_eq, not_false_eq_true, Option.map_some, Option.bind_some, Option.map_none, Option.bind_none, true_and, and_true, Bool.not_true, Bool.not_false, Nat.reduceLeDiff, Nat.reduceMul, Nat.reduceSub, Nat.le_refl, Int.reduceToNat, Int.reduceLT, Int.reduceLE, Nat.one_mul, Nat.mul_one]
            have hb4 := hb3.keep hx4
            have hc4 := hc3.keep hx4
            have hx24 := hx3.trans hx4
            try simp only [go_sem, Bool.false_and, new_set, Int.reduceBEq, Int.reduceBNe, Int.reduceNeg, not_true_eq_false, beq_self_eq_true, bne_self_eq_false, Bool.false_eq_true, if_false, if_true, Int.cast_ofNat_Int, decide_true, decide_false, reduceCtorEq, Nat.reduceEqDiff, Nat.reduceAdd, ne_eq, not_false_eq_true, Option.map_some, Option.bind_some, Option.map_none, Option.bind_none, true_and, and_true, Bool.not_true, Bool.not_false, Nat.reduceLeDiff, Nat.reduceMul, Nat.reduceSub, Nat.le_refl, Int.reduceToNat, Int.reduceLT, Int.reduceLE, Nat.one_mul, Nat.mul_one, load_w, load_a, store_b, idxS_b, set_blk, new_blk, set_next, new_next, len_s, ldW_c, ldA_c, stB_c, toArr_one, size_one, toList_toArr, size_toArr, List.length_cons, List.length_nil, List.getElem?_cons_zero, List.getElem?_cons_succ, Nat.zero_add, Nat.add_zero, hc3.at_, hb3.at_, hb4.at_, hc4.at_]
            refine gT.of (fun h6' => ?_) (fun h6' => ?_) <;> (have h6 := h6'; try simp only [decide_eq_true_eq, decide_eq_false_iff_not, beq_iff_eq, bne_iff_ne, beq_eq_false_iff_ne, ne_eq, Bool.not_eq_true', Bool.not_eq_false', bne_eq_false_iff_eq, Int.not_lt, Int.not_le] at h6)
            · try simp only [go_sem, Bool.false_and, new_set, Int.reduceBEq, Int.reduceBNe, Int.reduceNeg, not_true_eq_false, beq_self_eq_true, bne_self_eq_false, Bool.false_eq_true, if_false, if_true, Int.cast_ofNat_Int, decide_true, decide_false, reduceCtorEq, Nat.reduceEqDiff, Nat.reduceAdd, ne_eq, not_false_eq_true, Option.map_some, Option.bind_some, Option.map_none, Option.bind_none, true_and, and_true, Bool.not_true, Bool.not_false, Nat.reduceLeDiff, Nat.reduceMul, Nat.reduceSub, Nat.le_refl, Int.reduceToNat, Int.reduceLT, Int.reduceLE, Nat.one_mul, Nat.mul_one, load_w, load_a, store_b, idxS_b, set_blk, new_blk, set_next, new_next, len_s, ldW_c, ldA_c, stB_c, toArr_one, size_one, toList_toArr, size_toArr, List.length_cons, List.length_nil, List.getElem?_cons_zero, List.getElem?_cons_succ, Nat.zero_add, Nat.add_zero, h6']
              exact ⟨chk_no (bad fun h => h6 h.1), hx.trans (hx2.trans hx24)⟩
            · have h6 : placeP p x := by simpa using h6'
              try simp only [go_sem, Bool.false_and, new_set, Int.reduceBEq, Int.reduceBNe, Int.reduceNeg, not_true_eq_false, beq_self_eq_true, bne_self_eq_false, Bool.false_eq_true, if_false, if_true, Int.cast_ofNat_Int, decide_true, decide_false, reduceCtorEq, Nat.reduceEqDiff, Nat.reduceAdd, ne_eq, not_false_eq_true, Option.map_some, Option.bind_some, Option.map_none, Option.bind_none, true_and, and_true, Bool.not_true, Bool.not_false, Nat.reduceLeDiff, Nat.reduceMul, Nat.reduceSub, Nat.le_refl, Int.reduceToNat, Int.reduceLT, Int.reduceLE, Nat.one_mul, Nat.mul_one, load_w, load_a, store_b, idxS_b, set_blk, new_blk, set_next, new_next, len_s, ldW_c, ldA_c, stB_c, toArr_one, size_one, toList_toArr, size_toArr, List.length_cons, List.length_nil, List.getElem?_cons_zero, List.getElem?_cons_succ, Nat.zero_add, Nat.add_zero, h6', hb4.at_, hc4.at_]
              refine gT.of (fun h7' => ?_) (fun h7' => ?_) <;> (have h7 := h7'; try simp only [decide_eq_true_eq, decide_eq_false_iff_not, beq_iff_eq, bne_iff_ne, beq_eq_false_iff_ne, ne_eq, Bool.not_eq_true', Bool.not_eq_false', bne_eq_false_iff_eq, Int.not_lt, Int.not_le] at h7)
              · obtain ⟨b', o', c1, c2⟩ := hprev (by omega)
                try simp only [go_sem, Bool.false_and, new_set, Int.reduceBEq, Int.reduceBNe, Int.reduceNeg, not_true_eq_false, beq_self_eq_true, bne_self_eq_false, Bool.false_eq_true, if_false, if_true, Int.cast_ofNat_Int, decide_true, decide_false, reduceCtorEq, Nat.reduceEqDiff, Nat.reduceAdd, ne_eq, not_false_eq_true, Option.map_some, Option.bind_some, Option.map_none, Option.bind_none, true_and, and_true, Bool.not_true, Bool.not_false, Nat.reduceLeDiff, Nat.reduceMul, Nat.reduceSub, Nat.le_refl, Int.reduceToNat, Int.reduceLT, Int.reduceLE, Nat.one_mul, Nat.mul_one, load_w, load_a, store_b, idxS_b, set_blk, new_blk, set_next, new_next, len_s, ldW_c, ldA_c, stB_c, toArr_one, size_one, toList_toArr, size_toArr, List.length_cons, List.length_nil, List.getElem?_cons_zero, List.getElem?_cons_succ, Nat.zero_add, Nat.add_zero, h7', hb4.at_, hc4.at_, sub1 (show 0 < i by omega) (show i < 1000000 by have := hl.len; omega), c1, c2 _ hx24]
                refine gT.of (fun h8' => ?_) (fun h8' => ?_) <;> (have h8 := h8'; try simp only [decide_eq_true_eq, decide_eq_false_iff_not, beq_iff_eq, bne_iff_ne, beq_eq_false_iff_ne, ne_eq, Bool.not_eq_true', Bool.not_eq_false', bne_eq_false_iff_eq, Int.not_lt, Int.not_le] at h8)
                · try simp only [go_sem, Bool.false_and, new_set, Int.reduceBEq, Int.reduceBNe, Int.reduceNeg, not_true_eq_false, beq_self_eq_true, bne_self_eq_false, Bool.false_eq_true, if_false, if_true, Int.cast_ofNat_Int, decide_true, decide_false, reduceCtorEq, Nat.reduceEqDiff, Nat.reduceAdd, ne_eq, not_false_eq_true, Option.map_some, Option.bind_some, Option.map_none, Option.bind_none, true_and, and_true, Bool.not_true, Bool.not_false, Nat.reduceLeDiff, Nat.reduceMul, Nat.reduceSub, Nat.le_refl, Int.reduceToNat, Int.reduceLT, Int.reduceLE, Nat.one_mul, Nat.mul_one, load_w, load_a, store_b, idxS_b, set_blk, new_blk, set_next, new_next, len_s, ldW_c, ldA_c, stB_c, toArr_one, size_one, toList_toArr, size_toArr, List.length_cons, List.length_nil, List.getElem?_cons_zero, List.getElem?_cons_succ, Nat.zero_add, Nat.add_zero, h8']
                  exact ⟨chk_no (bad fun h => by have := h.2 (by omega); omega), hx.trans (hx2.trans hx24)⟩
                · try simp only [go_sem, Bool.false_and, new_set, Int.reduceBEq, Int.reduceBNe, Int.reduceNeg, not_true_eq_false, beq_self_eq_true, bne_self_eq_false, Bool.false_eq_true, if_false, if_true, Int.cast_ofNat_Int, decide_true, decide_false, reduceCtorEq, Nat.reduceEqDiff, Nat.reduceAdd, ne_eq, not_false_eq_true, Option.map_some, Option.bind_some, Option.map_none, Option.bind_none, true_and, and_true, Bool.not_true, Bool.not_false, Nat.reduceLeDiff, Nat.reduceMul, Nat.reduceSub, Nat.le_refl, Int.reduceToNat, Int.reduceLT, Int.reduceLE, Nat.one_mul, Nat.mul_one, load_w, load_a, store_b, idxS_b, set_blk, new_blk, set_next, new_next, len_s, ldW_c, ldA_c, stB_c, toArr_one, size_one, toList_toArr, size_toArr, List.length_cons, List.length_nil, List.getElem?_cons_zero, List.getElem?_cons_succ, Nat.zero_add, Nat.add_zero, h8', step1 (show i < 1000000 by have := hl.len; omega)]
                  exact ⟨p.places.length - (i + 1), by omega, i + 1, by omega, rfl, rfl, good ⟨h6, fun h => by omega⟩, hx2.trans hx24⟩
              · try simp only [go_sem, Bool.false_and, new_set, Int.reduceBEq, Int.reduceBNe, Int.reduceNeg, not_true_eq_false, beq_self_eq_true, bne_self_eq_false, Bool.false_eq_true, if_false, if_true, Int.cast_ofNat_Int, decide_true, decide_false, reduceCtorEq, Nat.reduceEqDiff, Nat.reduceAdd, ne_eq, not_false_eq_true, Option.map_some, Option.bind_some, Option.map_none, Option.bind_none, true_and, and_true, Bool.not_true, Bool.not_false, Nat.reduceLeDiff, Nat.reduceMul, Nat.reduceSub, Nat.le_refl, Int.reduceToNat, Int.reduceLT, Int.reduceLE, Nat.one_mul, Nat.mul_one, load_w, load_a, store_b, idxS_b, set_blk, new_blk, set_next, new_next, len_s, ldW_c, ldA_c, stB_c, toArr_one, size_one, toList_toArr, size_toArr, List.length_cons, List.length_nil, List.getElem?_cons_zero, List.getElem?_cons_succ, Nat.zero_add, Nat.add_zero, h7', step1 (show i < 1000000 by have := hl.len; omega)]
                exact ⟨p.places.length - (i + 1), by omega, i + 1, by omega, rfl, rfl, good ⟨h6, fun h => by omega⟩, hx2.trans hx24⟩
          · have hi : i = p.places.length := by omega
            subst hi
            have hr := plC_r (by omega) (by omega) hl hall
            try simp only [go_sem, Bool.false_and, new_set, Int.reduceBEq, Int.reduceBNe, Int.reduceNeg, not_true_eq_false, beq_self_eq_true, bne_self_eq_false, Bool.false_eq_true, if_false, if_true, Int.cast_ofNat_Int, decide_true, decide_false, reduceCtorEq, Nat.reduceEqDiff, Nat.reduceAdd, ne_eq, not_false_eq_true, Option.map_some, Option.bind_some, Option.map_none, Option.bind_none, true_and, and_true, Bool.not_true, Bool.not_false, Nat.reduceLeDiff, Nat.reduceMul, Nat.reduceSub, Nat.le_refl, Int.reduceToNat, Int.reduceLT, Int.reduceLE, Nat.one_mul, Nat.mul_one, load_w, load_a, store_b, idxS_b, set_blk, new_blk, set_next, new_next, len_s, ldW_c, ldA_c, stB_c, toArr_one, size_one, toList_toArr, size_toArr, List.length_cons, List.length_nil, List.getElem?_cons_zero, List.getElem?_cons_succ, Nat.zero_add, Nat.add_zero, h5', hb2.at_]
            refine gC.of (apart_spec (p := p) ⟨pv, rfl, hp2⟩ hl.len hl.pcs (plC_cores hall)) ?_
            rintro _ m3 ⟨rfl, hx3⟩
            simp only [go_sem, Bool.false_and, new_set, Int.reduceBEq, Int.reduceBNe, Int.reduceNeg, not_true_eq_false, beq_self_eq_true, bne_self_eq_false, Bool.false_eq_true, if_false, if_true, Int.cast_ofNat_Int, decide_true, decide_false, reduceCtorEq, Nat.reduceEqDiff, Nat.reduceAdd, ne_eq, not_false_eq_true, Option.map_some, Option.bind_some, Option.map_none, Option.bind_none, true_and, and_true, Bool.not_true, Bool.not_false, Nat.reduceLeDiff, Nat.reduceMul, Nat.reduceSub, Nat.le_refl, Int.reduceToNat, Int.reduceLT, Int.reduceLE, Nat.one_mul, Nat.mul_one]
            have hb3 := hb2.keep hx3
            have hp3 := hp2.keep hx3
            try simp only [go_sem, Bool.false_and, new_set, Int.reduceBEq, Int.reduceBNe, Int.reduceNeg, not_true_eq_false, beq_self_eq_true, bne_self_eq_false, Bool.false_eq_true, if_false, if_true, Int.cast_ofNat_Int, decide_true, decide_false, reduceCtorEq, Nat.reduceEqDiff, Nat.reduceAdd, ne_eq, not_false_eq_true, Option.map_some, Option.bind_some, Option.map_none, Option.bind_none, true_and, and_true, Bool.not_true, Bool.not_false, Nat.reduceLeDiff, Nat.reduceMul, Nat.reduceSub, Nat.le_refl, Int.reduceToNat, Int.reduceLT, Int.reduceLE, Nat.one_mul, Nat.mul_one, load_w, load_a, store_b, idxS_b, set_blk, new_blk, set_next, new_next, len_s, ldW_c, ldA_c, stB_c, toArr_one, size_one, toList_toArr, size_toArr, List.length_cons, List.length_nil, List.getElem?_cons_zero, List.getElem?_cons_succ, Nat.zero_add, Nat.add_zero, hb3.at_, hb2.at_]
            refine gT.of (fun h6' => ?_) (fun h6' => ?_) <;> (have h6 := h6'; try simp only [decide_eq_true_eq, decide_eq_false_iff_not, beq_iff_eq, bne_iff_ne, beq_eq_false_iff_ne, ne_eq, Bool.not_eq_true', Bool.not_eq_false', bne_eq_false_iff_eq, Int.not_lt, Int.not_le] at h6)
            · try simp only [go_sem, Bool.false_and, new_set, Int.reduceBEq, Int.reduceBNe, Int.reduceNeg, not_true_eq_false, beq_self_eq_true, bne_self_eq_false, Bool.false_eq_true, if_false, if_true, Int.cast_ofNat_Int, decide_true, decide_false, reduceCtorEq, Nat.reduceEqDiff, Nat.reduceAdd, ne_eq, not_false_eq_true, Option.map_some, Option.bind_some, Option.map_none, Option.bind_none, true_and, and_true, Bool.not_true, Bool.not_false, Nat.reduceLeDiff, Nat.reduceMul, Nat.reduceSub, Nat.le_refl, Int.reduceToNat, Int.reduceLT, Int.reduceLE, Nat.one_mul, Nat.mul_one, load_w, load_a, store_b, idxS_b, set_blk, new_blk, set_next, new_next, len_s, ldW_c, ldA_c, stB_c, toArr_one, size_one, toList_toArr, size_toArr, List.length_cons, List.length_nil, List.getElem?_cons_zero, List.getElem?_cons_succ, Nat.zero_add, Nat.add_zero, h6']
              exact ⟨chk_no fun h => h6 h.2.2.2.2.2.1, hx.trans (hx2.trans hx3)⟩
            · have h6 : apartP (preP p.places p.places.length) := by simpa using h6'
              try simp only [go_sem, Bool.false_and, new_set, Int.reduceBEq, Int.reduceBNe, Int.reduceNeg, not_true_eq_false, beq_self_eq_true, bne_self_eq_false, Bool.false_eq_true, if_false, if_true, Int.cast_ofNat_Int, decide_true, decide_false, reduceCtorEq, Nat.reduceEqDiff, Nat.reduceAdd, ne_eq, not_false_eq_true, Option.map_some, Option.bind_some, Option.map_none, Option.bind_none, true_and, and_true, Bool.not_true, Bool.not_false, Nat.reduceLeDiff, Nat.reduceMul, Nat.reduceSub, Nat.le_refl, Int.reduceToNat, Int.reduceLT, Int.reduceLE, Nat.one_mul, Nat.mul_one, load_w, load_a, store_b, idxS_b, set_blk, new_blk, set_next, new_next, len_s, ldW_c, ldA_c, stB_c, toArr_one, size_one, toList_toArr, size_toArr, List.length_cons, List.length_nil, List.getElem?_cons_zero, List.getElem?_cons_succ, Nat.zero_add, Nat.add_zero, h6', hb3.at_]
              refine gC.of (Splits_spec (p := p) ⟨pv, rfl, hp3⟩ hl.len) ?_
              rintro _ m4 ⟨rfl, hx4⟩
              simp only [go_sem, Bool.false_and, new_set, Int.reduceBEq, Int.reduceBNe, Int.reduceNeg, not_true_eq_false, beq_self_eq_true, bne_self_eq_false, Bool.false_eq_true, if_false, if_true, Int.cast_ofNat_Int, decide_true, decide_false, reduceCtorEq, Nat.reduceEqDiff, Nat.reduceAdd, ne_eq, not_false_eq_true, Option.map_some, Option.bind_some, Option.map_none, Option.bind_none, true_and, and_true, Bool.not_true, Bool.not_false, Nat.reduceLeDiff, Nat.reduceMul, Nat.reduceSub, Nat.le_refl, Int.reduceToNat, Int.reduceLT, Int.reduceLE, Nat.one_mul, Nat.mul_one]
              have hb4 := hb3.keep hx4
              have hp4 := hp3.keep hx4
              try simp only [go_sem, Bool.false_and, new_set, Int.reduceBEq, Int.reduceBNe, Int.reduceNeg, not_true_eq_false, beq_self_eq_true, bne_self_eq_false, Bool.false_eq_true, if_false, if_true, Int.cast_ofNat_Int, decide_true, decide_false, reduceCtorEq, Nat.reduceEqDiff, Nat.reduceAdd, ne_eq, not_false_eq_true, Option.map_some, Option.bind_some, Option.map_none, Option.bind_none, true_and, and_true, Bool.not_true, Bool.not_false, Nat.reduceLeDiff, Nat.reduceMul, Nat.reduceSub, Nat.le_refl, Int.reduceToNat, Int.reduceLT, Int.reduceLE, Nat.one_mul, Nat.mul_one, load_w, load_a, store_b, idxS_b, set_blk, new_blk, set_next, new_next, len_s, ldW_c, ldA_c, stB_c, toArr_one, size_one, toList_toArr, size_toArr, List.length_cons, List.length_nil, List.getElem?_cons_zero, List.getElem?_cons_succ, Nat.zero_add, Nat.add_zero, hb3.at_, hb4.at_]
              refine gC.of (Cores_spec (p := p) ⟨pv, rfl, hp4⟩) ?_
              rintro w m5 ⟨ho, hx5⟩
              have hb5 := hb4.keep hx5
              have hp5 := hp4.keep hx5
              try simp only [go_sem, Bool.false_and, new_set, Int.reduceBEq, Int.reduceBNe, Int.reduceNeg, not_true_eq_false, beq_self_eq_true, bne_self_eq_false, Bool.false_eq_true, if_false, if_true, Int.cast_ofNat_Int, decide_true, decide_false, reduceCtorEq, Nat.reduceEqDiff, Nat.reduceAdd, ne_eq, not_false_eq_true, Option.map_some, Option.bind_some, Option.map_none, Option.bind_none, true_and, and_true, Bool.not_true, Bool.not_false, Nat.reduceLeDiff, Nat.reduceMul, Nat.reduceSub, Nat.le_refl, Int.reduceToNat, Int.reduceLT, Int.reduceLE, Nat.one_mul, Nat.mul_one, load_w, load_a, store_b, idxS_b, set_blk, new_blk, set_next, new_next, len_s, ldW_c, ldA_c, stB_c, toArr_one, size_one, toList_toArr, size_toArr, List.length_cons, List.length_nil, List.getElem?_cons_zero, List.getElem?_cons_succ, Nat.zero_add, Nat.add_zero, hb4.at_, hb5.at_, ho.sl.len]
              refine gT.of (fun h7' => ?_) (fun h7' => ?_) <;> (have h7 := h7'; try simp only [decide_eq_true_eq, decide_eq_false_iff_not, beq_iff_eq, bne_iff_ne, beq_eq_false_iff_ne, ne_eq, Bool.not_eq_true', Bool.not_eq_false', bne_eq_false_iff_eq, Int.not_lt, Int.not_le] at h7)
              · try simp only [go_sem, Bool.false_and, new_set, Int.reduceBEq, Int.reduceBNe, Int.reduceNeg, not_true_eq_false, beq_self_eq_true, bne_self_eq_false, Bool.false_eq_true, if_false, if_true, Int.cast_ofNat_Int, decide_true, decide_false, reduceCtorEq, Nat.reduceEqDiff, Nat.reduceAdd, ne_eq, not_false_eq_true, Option.map_some, Option.bind_some, Option.map_none, Option.bind_none, true_and, and_true, Bool.not_true, Bool.not_false, Nat.reduceLeDiff, Nat.reduceMul, Nat.reduceSub, Nat.le_refl, Int.reduceToNat, Int.reduceLT, Int.reduceLE, Nat.one_mul, Nat.mul_one, load_w, load_a, store_b, idxS_b, set_blk, new_blk, set_next, new_next, len_s, ldW_c, ldA_c, stB_c, toArr_one, size_one, toList_toArr, size_toArr, List.length_cons, List.length_nil, List.getElem?_cons_zero, List.getElem?_cons_succ, Nat.zero_add, Nat.add_zero, h7']
                exact ⟨chk_no fun h => by have := h.2.2.2.2.2.2.1; omega, hx.trans (hx2.trans (hx3.trans (hx4.trans hx5)))⟩
              · try simp only [go_sem, Bool.false_and, new_set, Int.reduceBEq, Int.reduceBNe, Int.reduceNeg, not_true_eq_false, beq_self_eq_true, bne_self_eq_false, Bool.false_eq_true, if_false, if_true, Int.cast_ofNat_Int, decide_true, decide_false, reduceCtorEq, Nat.reduceEqDiff, Nat.reduceAdd, ne_eq, not_false_eq_true, Option.map_some, Option.bind_some, Option.map_none, Option.bind_none, true_and, and_true, Bool.not_true, Bool.not_false, Nat.reduceLeDiff, Nat.reduceMul, Nat.reduceSub, Nat.le_refl, Int.reduceToNat, Int.reduceLT, Int.reduceLE, Nat.one_mul, Nat.mul_one, load_w, load_a, store_b, idxS_b, set_blk, new_blk, set_next, new_next, len_s, ldW_c, ldA_c, stB_c, toArr_one, size_one, toList_toArr, size_toArr, List.length_cons, List.length_nil, List.getElem?_cons_zero, List.getElem?_cons_succ, Nat.zero_add, Nat.add_zero, h7', hb5.at_]
                refine gC.of (Cores_spec (p := p) ⟨pv, rfl, hp5⟩) ?_
                rintro w2 m6 ⟨ho6, hx6⟩
                have hsl := ho6.sl
                have hlt := ho6.lt
                have hlen := csP_len (p := p) (n := 16)
                try simp only [go_sem, Bool.false_and, new_set, Int.reduceBEq, Int.reduceBNe, Int.reduceNeg, not_true_eq_false, beq_self_eq_true, bne_self_eq_false, Bool.false_eq_true, if_false, if_true, Int.cast_ofNat_Int, decide_true, decide_false, reduceCtorEq, Nat.reduceEqDiff, Nat.reduceAdd, ne_eq, not_false_eq_true, Option.map_some, Option.bind_some, Option.map_none, Option.bind_none, true_and, and_true, Bool.not_true, Bool.not_false, Nat.reduceLeDiff, Nat.reduceMul, Nat.reduceSub, Nat.le_refl, Int.reduceToNat, Int.reduceLT, Int.reduceLE, Nat.one_mul, Nat.mul_one, load_w, load_a, store_b, idxS_b, set_blk, new_blk, set_next, new_next, len_s, ldW_c, ldA_c, stB_c, toArr_one, size_one, toList_toArr, size_toArr, List.length_cons, List.length_nil, List.getElem?_cons_zero, List.getElem?_cons_succ, Nat.zero_add, Nat.add_zero, hsl.len]
                refine WL.of (fun n e m' => ∃ k : Nat, k ≤ (csP p 16).length ∧ n = (csP p 16).length - k ∧ e = [(1, pt m.next), (67, w2), (68, .int .i64 (csP p 16).length), (69, .int .i64 k)] ∧ (∀ c ∈ (csP p 16).take k, 0 ≤ leftP p (c : Nat)) ∧ Ext m6 m') (csP p 16).length
                  ⟨0, by omega, by omega, by simp only [go_sem, Bool.false_and, new_set, Int.reduceBEq, Int.reduceBNe, Int.reduceNeg, not_true_eq_false, beq_self_eq_true, bne_self_eq_false, Bool.false_eq_true, if_false, if_true, Int.cast_ofNat_Int, decide_true, decide_false, reduceCtorEq, Nat.reduceEqDiff, Nat.reduceAdd, ne_eq, not_false_eq_true, Option.map_some, Option.bind_some, Option.map_none, Option.bind_none, true_and, and_true, Bool.not_true, Bool.not_false, Nat.reduceLeDiff, Nat.reduceMul, Nat.reduceSub, Nat.le_refl, Int.reduceToNat, Int.reduceLT, Int.reduceLE, Nat.one_mul, Nat.mul_one] <;> rfl, by simp, Ext.refl _⟩ ?_
                rintro _ _ m7 ⟨k, hk, rfl, rfl, hld, hx7⟩
                have hb7 := (hb5.keep hx6).keep hx7
                have hp7 := (hp5.keep hx6).keep hx7
                have hsl7 := hsl.keep hlt hx7
                simp only [RB.plan_Check_1, pt, go_sem, Bool.false_and, new_set, Int.reduceBEq, Int.reduceBNe, Int.reduceNeg, not_true_eq_false, beq_self_eq_true, bne_self_eq_false, Bool.false_eq_true, if_false, if_true, Int.cast_ofNat_Int, decide_true, decide_false, reduceCtorEq, Nat.reduceEqDiff, Nat.reduceAdd, ne_eq, not_false_eq_true, Option.map_some, Option.bind_some, Option.map_none, Option.bind_none, true_and, and_true, Bool.not_true, Bool.not_false, Nat.reduceLeDiff, Nat.reduceMul, Nat.reduceSub, Nat.le_refl, Int.reduceToNat, Int.reduceLT, Int.reduceLE, Nat.one_mul, Nat.mul_one]
                refine gT.of (fun h8' => ?_) (fun h8' => ?_) <;> (have h8 := h8'; try simp only [decide_eq_true_eq, decide_eq_false_iff_not, beq_iff_eq, bne_iff_ne, beq_eq_false_iff_ne, ne_eq, Bool.not_eq_true', Bool.not_eq_false', bne_eq_false_iff_eq, Int.not_lt, Int.not_le] at h8)
                · have hkl : k < (csP p 16).length := by omega
                  obtain ⟨q, e1, e2⟩ := hsl7.get (k := .i64) (i := k) hkl
                  rw [ints_get hkl] at e2
                  have hsn : (csP p 16).take (k + 1) = (csP p 16).take k ++ [(csP p 16)[k]] := List.take_succ_eq_append_getElem hkl
                  have hmm : (csP p 16)[k] ∈ csP p 16 := List.getElem_mem hkl
                  generalize (csP p 16)[k] = c at *
                  try simp only [go_sem, Bool.false_and, new_set, Int.reduceBEq, Int.reduceBNe, Int.reduceNeg, not_true_eq_false, beq_self_eq_true, bne_self_eq_false, Bool.false_eq_true, if_false, if_true, Int.cast_ofNat_Int, decide_true, decide_false, reduceCtorEq, Nat.reduceEqDiff, Nat.reduceAdd, ne_eq, not_false_eq_true, Option.map_some, Option.bind_some, Option.map_none, Option.bind_none, true_and, and_true, Bool.not_true, Bool.not_false, Nat.reduceLeDiff, Nat.reduceMul, Nat.reduceSub, Nat.le_refl, Int.reduceToNat, Int.reduceLT, Int.reduceLE, Nat.one_mul, Nat.mul_one, load_w, load_a, store_b, idxS_b, set_blk, new_blk, set_next, new_next, len_s, ldW_c, ldA_c, stB_c, toArr_one, size_one, toList_toArr, size_toArr, List.length_cons, List.length_nil, List.getElem?_cons_zero, List.getElem?_cons_succ, Nat.zero_add, Nat.add_zero, hb7.at_, e1, e2]
                  refine gC.of (left_spec (p := p) (c := c) ⟨pv, rfl, hp7⟩ hr) ?_
                  rintro _ m8 ⟨rfl, hx8⟩
                  simp only [go_sem, Bool.false_and, new_set, Int.reduceBEq, Int.reduceBNe, Int.reduceNeg, not_true_eq_false, beq_self_eq_true, bne_self_eq_false, Bool.false_eq_true, if_false, if_true, Int.cast_ofNat_Int, decide_true, decide_false, reduceCtorEq, Nat.reduceEqDiff, Nat.reduceAdd, ne_eq, not_false_eq_true, Option.map_some, Option.bind_some, Option.map_none, Option.bind_none, true_and, and_true, Bool.not_true, Bool.not_false, Nat.reduceLeDiff, Nat.reduceMul, Nat.reduceSub, Nat.le_refl, Int.reduceToNat, Int.reduceLT, Int.reduceLE, Nat.one_mul, Nat.mul_one]
                  have hb8 := hb7.keep hx8
                  try simp only [go_sem, Bool.false_and, new_set, Int.reduceBEq, Int.reduceBNe, Int.reduceNeg, not_true_eq_false, beq_self_eq_true, bne_self_eq_false, Bool.false_eq_true, if_false, if_true, Int.cast_ofNat_Int, decide_true, decide_false, reduceCtorEq, Nat.reduceEqDiff, Nat.reduceAdd, ne_eq, not_false_eq_true, Option.map_some, Option.bind_some, Option.map_none, Option.bind_none, true_and, and_true, Bool.not_true, Bool.not_false, Nat.reduceLeDiff, Nat.reduceMul, Nat.reduceSub, Nat.le_refl, Int.reduceToNat, Int.reduceLT, Int.reduceLE, Nat.one_mul, Nat.mul_one, load_w, load_a, store_b, idxS_b, set_blk, new_blk, set_next, new_next, len_s, ldW_c, ldA_c, stB_c, toArr_one, size_one, toList_toArr, size_toArr, List.length_cons, List.length_nil, List.getElem?_cons_zero, List.getElem?_cons_succ, Nat.zero_add, Nat.add_zero, hb7.at_, hb8.at_]
                  refine gT.of (fun h9' => ?_) (fun h9' => ?_) <;> (have h9 := h9'; try simp only [decide_eq_true_eq, decide_eq_false_iff_not, beq_iff_eq, bne_iff_ne, beq_eq_false_iff_ne, ne_eq, Bool.not_eq_true', Bool.not_eq_false', bne_eq_false_iff_eq, Int.not_lt, Int.not_le] at h9)
                  · try simp only [go_sem, Bool.false_and, new_set, Int.reduceBEq, Int.reduceBNe, Int.reduceNeg, not_true_eq_false, beq_self_eq_true, bne_self_eq_false, Bool.false_eq_true, if_false, if_true, Int.cast_ofNat_Int, decide_true, decide_false, reduceCtorEq, Nat.reduceEqDiff, Nat.reduceAdd, ne_eq, not_false_eq_true, Option.map_some, Option.bind_some, Option.map_none, Option.bind_none, true_and, and_true, Bool.not_true, Bool.not_false, Nat.reduceLeDiff, Nat.reduceMul, Nat.reduceSub, Nat.le_refl, Int.reduceToNat, Int.reduceLT, Int.reduceLE, Nat.one_mul, Nat.mul_one, load_w, load_a, store_b, idxS_b, set_blk, new_blk, set_next, new_next, len_s, ldW_c, ldA_c, stB_c, toArr_one, size_one, toList_toArr, size_toArr, List.length_cons, List.length_nil, List.getElem?_cons_zero, List.getElem?_cons_succ, Nat.zero_add, Nat.add_zero, h9']
                    exact ⟨chk_no fun h => by have := h.2.2.2.2.2.2.2 c hmm; omega, hx.trans (hx2.trans (hx3.trans (hx4.trans (hx5.trans (hx6.trans (hx7.trans hx8))))))⟩
                  · try simp only [go_sem, Bool.false_and, new_set, Int.reduceBEq, Int.reduceBNe, Int.reduceNeg, not_true_eq_false, beq_self_eq_true, bne_self_eq_false, Bool.false_eq_true, if_false, if_true, Int.cast_ofNat_Int, decide_true, decide_false, reduceCtorEq, Nat.reduceEqDiff, Nat.reduceAdd, ne_eq, not_false_eq_true, Option.map_some, Option.bind_some, Option.map_none, Option.bind_none, true_and, and_true, Bool.not_true, Bool.not_false, Nat.reduceLeDiff, Nat.reduceMul, Nat.reduceSub, Nat.le_refl, Int.reduceToNat, Int.reduceLT, Int.reduceLE, Nat.one_mul, Nat.mul_one, load_w, load_a, store_b, idxS_b, set_blk, new_blk, set_next, new_next, len_s, ldW_c, ldA_c, stB_c, toArr_one, size_one, toList_toArr, size_toArr, List.length_cons, List.length_nil, List.getElem?_cons_zero, List.getElem?_cons_succ, Nat.zero_add, Nat.add_zero, h9', step1 (show k < 1000000 by omega)]
                    refine ⟨(csP p 16).length - (k + 1), by omega, k + 1, by omega, rfl, rfl, ?_, hx7.trans hx8⟩
                    intro c' hc'
                    rw [hsn] at hc'
                    rcases List.mem_append.1 hc' with h | h
                    · exact hld c' h
                    · rw [List.mem_singleton.1 h]; omega
                · try simp only [go_sem, Bool.false_and, new_set, Int.reduceBEq, Int.reduceBNe, Int.reduceNeg, not_true_eq_false, beq_self_eq_true, bne_self_eq_false, Bool.false_eq_true, if_false, if_true, Int.cast_ofNat_Int, decide_true, decide_false, reduceCtorEq, Nat.reduceEqDiff, Nat.reduceAdd, ne_eq, not_false_eq_true, Option.map_some, Option.bind_some, Option.map_none, Option.bind_none, true_and, and_true, Bool.not_true, Bool.not_false, Nat.reduceLeDiff, Nat.reduceMul, Nat.reduceSub, Nat.le_refl, Int.reduceToNat, Int.reduceLT, Int.reduceLE, Nat.one_mul, Nat.mul_one, load_w, load_a, store_b, idxS_b, set_blk, new_blk, set_next, new_next, len_s, ldW_c, ldA_c, stB_c, toArr_one, size_one, toList_toArr, size_toArr, List.length_cons, List.length_nil, List.getElem?_cons_zero, List.getElem?_cons_succ, Nat.zero_add, Nat.add_zero, h8']
                  rw [List.take_of_length_le (by omega)] at hld
                  exact ⟨chk_yes ⟨by omega, by omega, h3, hc, hall, h6, by omega, hld⟩, hx.trans (hx2.trans (hx3.trans (hx4.trans (hx5.trans (hx6.trans hx7)))))⟩
end Go.Am


/- PlanX4 over the table of table (relayset.py). -/
set_option linter.unusedVariables false
set_option linter.unusedSimpArgs false
namespace Go.Am
open Classical
variable {m : Mem}

theorem sc_u64 {x y : BitVec 64} : scalEq .int (u64 x) (u64 y) = some (decide (x = y)) := by
  unfold u64
  rw [sc_int]
  congr 1
  rw [Bool.eq_iff_iff, beq_iff_eq, decide_eq_true_eq]
  constructor
  · intro h; apply BitVec.eq_of_toNat_eq; omega
  · intro h; rw [h]
attribute [go_sem] sc_u64
end Go.Am


/- PlanX5 over the table of table (relayset.py). -/
set_option linter.unusedVariables false
set_option linter.unusedSimpArgs false
namespace Go.Am
open Classical
variable {m : Mem}

theorem fin_no2 {P : Prop} [Decidable P] (h : ¬ P) : (Value.bool false = Value.bool (decide P)) := by rw [decide_eq_false h]
theorem fin_yes2 {P : Prop} [Decidable P] (h : P) : (Value.bool true = Value.bool (decide P)) := by rw [decide_eq_true h]

/-- A function value is called. -/
def gV (R : Nat → Option FEnt) (fv : Value) (vs : List Value) (m : Mem) (Q : Value → Mem → Prop) (_ : Ph Q := ph) : Prop := ∃ f a b, fv = .func (.func f) a b ∧ WC R f (a.toList ++ vs ++ b.toList) m Q
theorem a_callv {R : Nat → Option FEnt} {at_ : Option Nat} {e : Env} {Q : Value → Mem → Prop} {x : X} {xs : List X} : gpA R at_ e m (.callv x xs) Q = Got (x.ev e) fun fv => Got (evs e xs) fun vs => gV R fv vs m Q := by
  refine propext ⟨?_, ?_⟩
  · rintro ⟨f, a, b, vs, h1, h2, h3⟩; exact ⟨_, h1, _, h2, f, a, b, rfl, h3⟩
  · rintro ⟨_, h1, vs, h2, f, a, b, rfl, h3⟩; exact ⟨f, a, b, vs, h1, h2, h3⟩
theorem gV_func {R : Nat → Option FEnt} {Q : Value → Mem → Prop} {f : Nat} {vs : List Value} : gV R (.func (.func f) #[] #[]) vs m Q = gC R f vs m Q := by
  refine propext ⟨?_, fun h => ⟨f, #[], #[], rfl, by have h : WC R f vs m Q := h; simpa using h⟩⟩
  rintro ⟨_, _, _, h, k⟩
  cases h
  show WC R f vs m Q
  simpa using k
attribute [go_sem] a_callv gV_func

theorem plan_ext {p q : PlanD} : p = q ↔ p.frame = q.frame ∧ p.cores = q.cores ∧ p.places = q.places := by
  cases p; cases q; simp
end Go.Am


/- PlanM3 over the table of table (relayset.py). -/
set_option linter.unusedVariables false
set_option linter.unusedSimpArgs false
namespace Go.Am
open Classical

theorem orW_bit {t : Nat} : ∀ {l : List Pc}, (orW l).getLsbD t = l.any fun y => y.2.getLsbD t := by
  have : ∀ (l : List Pc) (a : BitVec 64), (l.foldl (fun a y => a ||| y.2) a).getLsbD t = (a.getLsbD t || l.any fun y => y.2.getLsbD t) := by
    intro l
    induction l with
    | nil => intro a; simp
    | cons y l ih => intro a; rw [List.foldl_cons, ih, BitVec.getLsbD_or, List.any_cons, Bool.or_assoc]
  intro l
  unfold orW; rw [this]; simp

theorem cntA_eq {x : Pl} {t : Nat} (ht : t < 64) : cntA x t = x.pieces.countP fun y => y.2.getLsbD t := by
  unfold cntA
  exact List.countP_congr fun y _ => by rw [atB_all ht]

theorem any_count {α : Type} {f : α → Bool} {l : List α} : (l.any f = true) ↔ 0 < l.countP f := by
  rw [List.countP_pos_iff, List.any_eq_true]

theorem and_zero {a b : BitVec 64} : (a &&& b) = 0#64 ↔ ∀ t, t < 64 → ¬ (a.getLsbD t = true ∧ b.getLsbD t = true) := by
  constructor
  · intro h t _ ⟨h1, h2⟩
    have := congrArg (fun z => z.getLsbD t) h
    simp [h1, h2] at this
  · intro h
    refine word_ext fun t ht => ?_
    have := h t ht
    rw [BitVec.getLsbD_and]
    simp only [BitVec.getLsbD_zero]
    cases e1 : a.getLsbD t <;> cases e2 : b.getLsbD t <;> simp_all

/-- At most one at each tick: each one meets nobody ahead of it. -/
theorem once_iff {l : List Pc} {t : Nat} : (l.countP fun y => y.2.getLsbD t) ≤ 1 ↔ ∀ i (h : i < l.length), ¬ (l[i].2.getLsbD t = true ∧ (orW (l.take i)).getLsbD t = true) := by
  constructor
  · intro h i hi ⟨h1, h2⟩
    rw [orW_bit, any_count] at h2
    have e := countP_take (f := fun (y : Pc) => y.2.getLsbD t) hi
    rw [if_pos h1] at e
    have : (l.take (i + 1)).countP (fun y => y.2.getLsbD t) ≤ l.countP (fun y => y.2.getLsbD t) := (List.take_sublist _ _).countP_le
    omega
  · intro h
    have : ∀ n, n ≤ l.length → (l.take n).countP (fun y => y.2.getLsbD t) ≤ 1 := by
      intro n
      induction n with
      | zero => intro _; simp
      | succ n ih =>
        intro hn
        have e := countP_take (f := fun (y : Pc) => y.2.getLsbD t) (show n < l.length by omega)
        have := ih (by omega)
        rw [e]
        split
        · rename_i hb
          have := h n (by omega)
          rw [orW_bit, any_count] at this
          have : ¬ 0 < (l.take n).countP (fun y => y.2.getLsbD t) := fun g => this ⟨hb, g⟩
          omega
        · omega
    have := this l.length (Nat.le_refl _)
    rwa [List.take_length] at this

theorem pop_cnt {x : Pl} (h : ∀ t, t < 64 → cntA x t ≤ 1) : (pop (orW x.pieces) : Int) = sumA x 64 := by
  rw [pop_tks, tks_S, sumA_S]
  refine S_congr fun t ht => ?_
  have h1 := h t ht
  rw [cntA_eq ht] at *
  split
  · rename_i e; rw [orW_bit, any_count] at e; omega
  · rename_i e; rw [orW_bit, any_count] at e; omega

theorem pcs_iff {p : PlanD} {x : Pl} (h2 : 2 ≤ p.frame) (h64 : p.frame ≤ 64) (hne : x.pieces.length ≠ 0) :
    pcsP p x ↔ ((∀ i, i < x.pieces.length → pcOk p x.pieces i) ∧ (∀ t, t < 64 → cntA x t ≤ 1 ∧ (0 < cntA x t → (t : Int) < p.frame)) ∧ 2 ≤ x.pieces.length ∧ x.core = 0 ∧ (sumA x 64 : Int) = x.share) := by
  have hfr : (fr p.frame).toNat = p.frame.toNat := by unfold fr; omega
  have hin : (∀ i, i < x.pieces.length → pcIn p x.pieces i) ↔ ∀ t, t < 64 → cntA x t ≤ 1 ∧ (0 < cntA x t → (t : Int) < p.frame) := by
    constructor
    · intro h t ht
      rw [cntA_eq ht]
      refine ⟨once_iff.2 fun i hi => ?_, fun hpos => ?_⟩
      · obtain ⟨_, _, g⟩ := h i hi
        exact and_zero.1 g t ht
      · rw [← any_count, List.any_eq_true] at hpos
        obtain ⟨y, hy, hb⟩ := hpos
        obtain ⟨i, hi, rfl⟩ := List.getElem_of_mem hy
        obtain ⟨_, g, _⟩ := h i hi
        have := and_zero.1 g t ht
        rw [hfr, BitVec.getLsbD_not, allB_bit] at this
        simp [hb, ht] at this
        omega
    · intro h i hi
      refine ⟨hi, and_zero.2 fun t ht ⟨h1, h3⟩ => ?_, and_zero.2 fun t ht => ?_⟩
      · rw [hfr, BitVec.getLsbD_not, allB_bit] at h3
        have := (h t ht).2 (by rw [cntA_eq ht, ← any_count, List.any_eq_true]; exact ⟨_, List.getElem_mem hi, h1⟩)
        simp [ht] at h3
        omega
      · have := (h t ht).1
        rw [cntA_eq ht] at this
        exact once_iff.1 this i hi
  unfold pcsP
  constructor
  · rintro ⟨a, b, c, d⟩
    have q := hin.1 fun i hi => (a i hi).2
    exact ⟨fun i hi => (a i hi).1, q, by omega, c, by rw [← pop_cnt fun t ht => (q t ht).1]; exact d⟩
  · rintro ⟨a, q, b, c, d⟩
    exact ⟨fun i hi => ⟨a i hi, hin.2 q i hi⟩, by omega, c, by rw [pop_cnt fun t ht => (q t ht).1]; exact d⟩

theorem place_iff {p : PlanD} {x : Pl} (h2 : 2 ≤ p.frame) (h64 : p.frame ≤ 64) : placeP p x ↔ refPlaceP p x := by
  unfold placeP refPlaceP
  constructor
  · rintro ⟨a, b, c, d, e⟩; exact ⟨a, b, c, d, fun h => (pcs_iff h2 h64 h).1 (e h)⟩
  · rintro ⟨a, b, c, d, e⟩; exact ⟨a, b, c, d, fun h => (pcs_iff h2 h64 h).2 (e h)⟩

theorem flat_cnt {l : List Pl} {c t : Int} : cntL l c t = (l.flatMap (·.pieces)).countP (atB c t) := by
  induction l with
  | nil => rfl
  | cons x l ih => rw [cntL_cons, ih, List.flatMap_cons, List.countP_append]

theorem wAt_bit {ps : List Pc} {c t : Nat} (ht : t < 64) : (wAt ps (c : Nat)).getLsbD t = true ↔ 0 < ps.countP (atB (c : Nat) (t : Nat)) := by
  unfold wAt
  rw [winPc_bit]
  simp only [BitVec.getLsbD_zero, Bool.false_or]
  rw [any_count]
  have : ps.countP (fun y => decide (y.1 = (c : Int)) && y.2.getLsbD t) = ps.countP (atB (c : Nat) (t : Nat)) := List.countP_congr fun y _ => by rw [atB_eq ht]
  rw [this]

theorem apart_iff {ps : List Pc} (hc : ∀ y ∈ ps, 0 ≤ y.1 ∧ y.1 < 16) : apartP ps ↔ ∀ c, c < 16 → ∀ t, t < 64 → ps.countP (atB (c : Nat) (t : Nat)) ≤ 1 := by
  constructor
  · intro h c hc16 t ht
    have : ∀ n, n ≤ ps.length → (ps.take n).countP (atB (c : Nat) (t : Nat)) ≤ 1 := by
      intro n
      induction n with
      | zero => intro _; simp
      | succ n ih =>
        intro hn
        have e := countP_take (f := atB (c : Nat) (t : Nat)) (show n < ps.length by omega)
        have := ih (by omega)
        rw [e]
        split
        · rename_i hb
          have g := and_zero.1 (h n (by omega)) t ht
          rw [atB_eq ht] at hb
          simp only [Bool.and_eq_true, decide_eq_true_eq] at hb
          have hn0 : ¬ 0 < (ps.take n).countP (atB (c : Nat) (t : Nat)) := by
            intro hpos
            refine g ⟨?_, hb.2⟩
            rw [hb.1]
            exact (wAt_bit ht).2 hpos
          omega
        · omega
    have := this ps.length (Nat.le_refl _)
    rwa [List.take_length] at this
  · intro h i hi
    refine and_zero.2 fun t ht ⟨h1, h2⟩ => ?_
    obtain ⟨h0, h16⟩ := hc _ (List.getElem_mem hi)
    obtain ⟨c, hcc⟩ := Int.eq_ofNat_of_zero_le h0
    rw [hcc] at h1 h16
    have hpos := (wAt_bit ht).1 h1
    have e := countP_take (f := atB (c : Nat) (t : Nat)) hi
    rw [if_pos (by rw [atB_eq ht]; simp [hcc, h2])] at e
    have : (ps.take (i + 1)).countP (atB (c : Nat) (t : Nat)) ≤ ps.countP (atB (c : Nat) (t : Nat)) := (List.take_sublist _ _).countP_le
    have := h c (by omega) t ht
    omega

/-- Both call the same plans right. -/
theorem check_iff {p : PlanD} : CheckP p ↔ RightP p := by
  unfold CheckP RightP
  have hcores : p.cores >>> 16 = 0#32 ↔ p.cores.toNat ≤ 65535 := by
    rw [← BitVec.toNat_inj, BitVec.toNat_ushiftRight, Nat.shiftRight_eq_div_pow]
    have := p.cores.isLt
    simp; omega
  constructor
  · rintro ⟨a, b, c, d, e, f, g, h⟩
    refine ⟨a, b, c, hcores.1 d, fun i hi => ?_, ?_, g, fun c hc => ?_⟩
    · obtain ⟨q, r, s⟩ := e i hi
      exact ⟨q, (place_iff a b).1 r, s⟩
    · intro c hc t ht
      rw [flat_cnt]
      have hf : preP p.places p.places.length = p.places.flatMap (·.pieces) := by unfold preP; rw [List.take_length]
      rw [hf] at f
      exact (apart_iff (by
        intro y hy
        obtain ⟨x, hx, hy⟩ := List.mem_flatMap.1 hy
        exact plC_cores e x hx y hy)).1 f c hc t ht
    · have := h c hc
      rw [leftP_eq] at this; omega
  · rintro ⟨a, b, c, d, e, f, g, h⟩
    have e' : ∀ i, i < p.places.length → plC p i := fun i hi => by
      obtain ⟨q, r, s⟩ := e i hi
      exact ⟨q, (place_iff a b).2 r, s⟩
    refine ⟨a, b, c, hcores.2 d, e', ?_, g, fun c hc => ?_⟩
    · have hf : preP p.places p.places.length = p.places.flatMap (·.pieces) := by unfold preP; rw [List.take_length]
      rw [hf]
      refine (apart_iff (by
        intro y hy
        obtain ⟨x, hx, hy⟩ := List.mem_flatMap.1 hy
        exact plC_cores e' x hx y hy)).2 fun c hc t ht => ?_
      rw [← flat_cnt]; exact f c hc t ht
    · have := h c hc
      rw [leftP_eq]; omega
end Go.Am


/- What putting behind a slice touches: its own block alone. -/
set_option linter.unusedVariables false
namespace Go.Am

/-- The block of a slice. -/
def vb : Value → List Nat
  | .slice (some a) _ _ => [a.block]
  | _ => []

theorem SlOff.vb_iff {v : Value} {fp : List Nat} : SlOff fp v ↔ ∀ b ∈ vb v, b ∉ fp := by
  unfold SlOff vb
  split <;> simp
theorem SlLt.vb_iff {m : Mem} {v : Value} : SlLt m v ↔ ∀ b ∈ vb v, b < m.next := by
  unfold SlLt vb
  split <;> simp

theorem Upd.new_of {m m' : Mem} {fp : List Nat} {o : AObj} (h : Upd m m' fp) : Upd m (m'.new o) fp :=
  ⟨Nat.le_trans h.next (by simp [Mem.new]), fun b hb hn => by
    have := h.next
    rw [← h.same b hb hn]
    simp only [Mem.new]
    rw [if_neg (by omega)]⟩

theorem aWrite_upd {m m' : Mem} {b o : Nat} {xs : List Value} (h : aWrite m b o xs = some m') : Upd m m' [b] ∧ m'.next = m.next := by
  unfold aWrite at h
  split at h
  · split at h
    · cases h; exact ⟨Upd.set (by simp), rfl⟩
    · cases h
  · cases h

theorem app_upd {u by_ : Nat} {m m' : Mem} {v v' x : Value} (h : aApp none u by_ m v x = some (v', m')) : Upd m m' (vb v) ∧ (vb v' = vb v ∨ vb v' = [m.next]) := by
  unfold aApp at h
  rw [Option.bind_eq_some_iff] at h
  obtain ⟨n, hn, h⟩ := h
  rw [Option.bind_eq_some_iff] at h
  obtain ⟨xs, hxs, h⟩ := h
  split at h
  · split at h
    · cases h; exact ⟨Upd.refl _ _, .inl rfl⟩
    · split at h
      · simp only [place] at h
        cases h
        exact ⟨(Upd.refl _ _).new_of, .inr rfl⟩
      · cases h
  · split at h
    · split at h
      · cases h; exact ⟨Upd.refl _ _, .inl rfl⟩
      · cases h
    · split at h
      · rw [Option.map_eq_some_iff] at h
        obtain ⟨m1, h1, h2⟩ := h
        cases h2
        exact ⟨(aWrite_upd h1).1, .inl rfl⟩
      · split at h
        · split at h
          · simp only [place] at h
            cases h
            refine ⟨?_, .inr ?_⟩
            · split
              · exact (Upd.set (by simp [vb])).new_of
              · exact (Upd.refl _ _).new_of
            · split <;> rfl
          · cases h
        · cases h
  · cases h
end Go.Am


/- Tables as plain data, and how they lie in memory. -/
set_option linter.unusedVariables false
set_option linter.unusedSimpArgs false
namespace Go.Am

structure TabD where
  core : Int
  ticks : List Int
  wholes : List Wt

def tbV (x : TabD) (tv wv : Value) : List Value := [.int .i64 x.core, tv, wv]
structure TbIn (m : Mem) (x : TabD) (tv wv : Value) : Prop where
  ts : Sl m 1 x.ticks.length (intsZ x.ticks) tv
  tl : SlLt m tv
  ws : Sl m 2 x.wholes.length (x.wholes.flatMap wtV) wv
  wl : SlLt m wv
theorem TbIn.keep {m m' : Mem} {x : TabD} {tv wv : Value} (h : TbIn m x tv wv) (hx : Ext m m') : TbIn m' x tv wv := ⟨h.ts.keep h.tl hx, h.tl.keep hx, h.ws.keep h.wl hx, h.wl.keep hx⟩
theorem TbIn.upd {m m' : Mem} {x : TabD} {tv wv : Value} {fp : List Nat} (h : TbIn m x tv wv) (h1 : SlOff fp tv) (h2 : SlOff fp wv) (hx : Upd m m' fp) : TbIn m' x tv wv :=
  ⟨h.ts.upd h.tl h1 hx, h.tl.upd hx, h.ws.upd h.wl h2 hx, h.wl.upd hx⟩

def TbV (m : Mem) (x : TabD) (v : Value) : Prop := ∃ tv wv, v = .agg (tbV x tv wv).toArray ∧ TbIn m x tv wv
theorem TbV.keep {m m' : Mem} {x : TabD} {v : Value} (h : TbV m x v) (hx : Ext m m') : TbV m' x v := let ⟨a, b, c, d⟩ := h; ⟨a, b, c, d.keep hx⟩

def TbsV (m : Mem) (l : List TabD) (v : Value) : Prop := ∃ cs, Sl m 3 l.length cs v ∧ SlLt m v ∧ ∀ (i : Nat) (h : i < l.length), ∃ tv wv, (cs.drop (i * 3)).take 3 = tbV l[i] tv wv ∧ TbIn m l[i] tv wv
theorem TbsV.keep {m m' : Mem} {l : List TabD} {v : Value} (h : TbsV m l v) (hx : Ext m m') : TbsV m' l v := by
  obtain ⟨cs, a, b, c⟩ := h
  refine ⟨cs, a.keep b hx, b.keep hx, fun i hi => ?_⟩
  obtain ⟨tv, wv, d, e⟩ := c i hi
  exact ⟨tv, wv, d, e.keep hx⟩
theorem TbsV.len {m : Mem} {l : List TabD} {v : Value} (h : TbsV m l v) : aLen v = some (.int .i64 l.length) := let ⟨_, a, _⟩ := h; a.len

/-- Tables that grow. -/
def TbsO (m0 m : Mem) (l : List TabD) (v : Value) : Prop := ∃ cs, Own m0 m 3 l.length cs v ∧ ∀ (i : Nat) (h : i < l.length), ∃ tv wv, (cs.drop (i * 3)).take 3 = tbV l[i] tv wv ∧ TbIn m l[i] tv wv ∧ SlOff (vb v) tv ∧ SlOff (vb v) wv
theorem TbsO.keep {m0 m m' : Mem} {l : List TabD} {v : Value} (h : TbsO m0 m l v) (hx : Ext m m') : TbsO m0 m' l v := by
  obtain ⟨cs, a, c⟩ := h
  refine ⟨cs, a.keep hx, fun i hi => ?_⟩
  obtain ⟨tv, wv, d, e, f⟩ := c i hi
  exact ⟨tv, wv, d, e.keep hx, f⟩
theorem TbsO.tbs {m0 m : Mem} {l : List TabD} {v : Value} (h : TbsO m0 m l v) : TbsV m l v := by
  obtain ⟨cs, a, c⟩ := h
  refine ⟨cs, a.sl, a.lt, fun i hi => ?_⟩
  obtain ⟨tv, wv, d, e, f⟩ := c i hi
  exact ⟨tv, wv, d, e⟩
theorem TbsO.lt {m0 m : Mem} {l : List TabD} {v : Value} (h : TbsO m0 m l v) : SlLt m v := let ⟨_, a, _⟩ := h; a.lt

theorem TbsO.app {m0 m : Mem} {l : List TabD} {v : Value} (h : TbsO m0 m l v) (hx : Ext m0 m) {x : TabD} {tv wv : Value} (hi : TbIn m x tv wv) (h1 : SlOff (vb v) tv) (h2 : SlOff (vb v) wv) (hl : l.length < 1000000) :
    ∃ v' m', aApp none 3 56 (m.new (.cells (tbV x tv wv) (some 3))) v (.slice (some ⟨m.next, 0, none⟩) 1 1) = some (v', m') ∧ TbsO m0 m' (l ++ [x]) v' ∧ Ext m0 m' := by
  obtain ⟨cs, a, c⟩ := h
  have hone : oneCells (tbV x tv wv) = true := by simp [tbV, oneCells, hi.ts.one, hi.ws.one]; rfl
  obtain ⟨v', m', e1, e2, e3⟩ := a.app (by_ := 56) (es := tbV x tv wv) hx (by omega) rfl hone (by omega) (by omega)
  obtain ⟨u1, u2⟩ := app_upd e1
  have hlt := a.lt
  have hall : ∀ (y : TabD) (tv wv : Value), TbIn m y tv wv → SlOff (vb v) tv → SlOff (vb v) wv → TbIn m' y tv wv ∧ SlOff (vb v') tv ∧ SlOff (vb v') wv := by
    intro y tv wv hy g1 g2
    refine ⟨(hy.keep Ext.new).upd g1 g2 u1, ?_⟩
    have off : ∀ s : Value, SlLt m s → SlOff (vb v) s → SlOff (vb v') s := by
      intro s hs ho
      rcases u2 with u2 | u2
      · rw [u2]; exact ho
      · rw [u2, SlOff.vb_iff]
        rw [SlLt.vb_iff] at hs
        intro b hb hm
        have := hs b hb
        simp [Mem.new] at hm
        omega
    exact ⟨off tv hy.tl g1, off wv hy.wl g2⟩
  refine ⟨v', m', e1, ⟨cs ++ tbV x tv wv, by rw [List.length_append]; exact e2, fun i hi' => ?_⟩, e3⟩
  have hcl := a.sl.length
  by_cases e : i < l.length
  · obtain ⟨tv', wv', d, f, g1, g2⟩ := c i e
    obtain ⟨k1, k2, k3⟩ := hall _ _ _ f g1 g2
    refine ⟨tv', wv', ?_, by rw [List.getElem_append_left e]; exact k1, k2, k3⟩
    rw [List.getElem_append_left e, ← d, List.drop_append_of_le_length (by omega), List.take_append_of_le_length (by simp; omega)]
  · have : i = l.length := by simp at hi'; omega
    subst this
    obtain ⟨k1, k2, k3⟩ := hall _ _ _ hi h1 h2
    refine ⟨tv, wv, ?_, by simpa using k1, k2, k3⟩
    rw [← hcl, List.drop_left]
    simp [tbV]
end Go.Am


/- Tables by the reference: one tick. -/
set_option linter.unusedVariables false
set_option linter.unusedSimpArgs false
namespace Go.Am
open Classical
variable {m : Mem}

/-- Whose window a tick is: the last one's. -/
def tkF (l : List Pl) (c t : Int) (a : Int) : Int := l.foldl (fun a x => if 0 < x.pieces.countP (atB c t) then x.unit else a) a

theorem Bk.setSame {m : Mem} {b u : Nat} {cs cs' : List Value} (h : Bk m b cs u) : Bk (m.set b (some (.cells cs' (some u)))) b cs' u := ⟨by simp [Mem.set], by simpa [Mem.set] using h.lt⟩
theorem Bk.setOther {m : Mem} {b b' u : Nat} {cs : List Value} {o : Option AObj} (h : Bk m b cs u) (hn : b ≠ b') : Bk (m.set b' o) b cs u := ⟨by simp [Mem.set, hn]; exact h.at_, by simpa [Mem.set] using h.lt⟩

theorem Upd.ex {a b c : Mem} {fp : List Nat} (h : Upd a b fp) (k : Ext b c) : Upd a c fp := h.trans (k.upd (fp := [])) (fun _ h => h) (fun _ h => by simp at h)
theorem Upd.st {a b : Mem} {fp : List Nat} {q : Nat} {o : Option AObj} (h : Upd a b fp) (hq : q ∈ fp ∨ a.next ≤ q) : Upd a (b.set q o) fp := h.trans (Upd.set (fp := [q]) (by simp)) (fun _ h => h) (fun x h => by simp at h; subst h; exact hq)
theorem Upd.wk {a b : Mem} {fp fq : List Nat} (h : Upd a b fp) (hs : ∀ x ∈ fp, x ∈ fq) : Upd a b fq := ⟨h.next, fun x hx hn => h.same x hx (fun hm => hn (hs x hm))⟩

theorem put_int {m : Mem} {b t : Nat} {T : List Int} {u : Int} (h : Bk m b (intsZ T) 1) (ht : t < T.length) : stB m b (m.blk b) ((t : Int)).toNat [.int .i64 u] = some (m.set b (some (.cells (intsZ (T.set t u)) (some 1)))) := by
  rw [h.at_, stB_c, Int.toNat_natCast, if_pos ⟨by simp [intsZ]; omega, rfl⟩, writeL_set (by simp [intsZ]; omega)]
  unfold intsZ
  rw [List.map_set]

theorem refOf1_loop {m0 : Mem} {p : PlanD} {pv lv cv wv : Value} {b0 bt bx i t n : Nat} {c : Int} {T : List Int} (hx0 : Ext m0 m) (hp : PlsV m0 p.places pv) (hb : Bk m0 b0 [.int .i64 p.frame, u32 p.cores, pv] 3)
    (hl : p.places.length < 1000000) (hp1 : ∀ x ∈ p.places, x.pieces.length < 1000000)
    (hcv : ∀ m', Ext m0 m' → ∃ q, aIdxS 1 cv (.int .i64 i) = some q ∧ aLoad false 1 m' q = some (.int .i64 c))
    (hbt : m0.next ≤ bt) (hbx : m0.next ≤ bx) (hne : bx ≠ bt) (hT : Bk m bt (intsZ T) 1) (hX : Bk m bx [.int .i64 c, .slice (some ⟨bt, 0, none⟩) n n, wv] 3) (hn : T.length = n) (ht : t < n) (ht64 : t < 64) :
    WL R [1, 3, 4, 5, 6, 7, 8] RB.ref17_Of_1 [(1, pt b0), (3, lv), (4, cv), (5, .int .i64 i), (6, pt bx), (7, .int .i64 t), (8, .int .i64 0)] m fun x e m' =>
      x = .exit 4 ∧ e = [(1, pt b0), (3, lv), (4, cv), (5, .int .i64 i), (6, pt bx), (7, .int .i64 t), (8, .int .i64 p.places.length), (42, .bool false)] ∧ Ext m0 m' ∧ Bk m' bt (intsZ (T.set t (tkF p.places c t (T.getD t 0)))) 1 ∧ Bk m' bx [.int .i64 c, .slice (some ⟨bt, 0, none⟩) n n, wv] 3 ∧ Upd m m' [bt] := by
  have hT0 : T.set t (T.getD t 0) = T := by
    rw [List.getD_eq_getElem?_getD, List.getElem?_eq_getElem (by omega)]; simp
  refine WL.of (fun r e m' => ∃ k : Nat, k ≤ p.places.length ∧ r = p.places.length - k ∧ e = [(1, pt b0), (3, lv), (4, cv), (5, .int .i64 i), (6, pt bx), (7, .int .i64 t), (8, .int .i64 k)] ∧ Ext m0 m' ∧ Bk m' bt (intsZ (T.set t (tkF (p.places.take k) c t (T.getD t 0)))) 1 ∧ Bk m' bx [.int .i64 c, .slice (some ⟨bt, 0, none⟩) n n, wv] 3 ∧ Upd m m' [bt]) p.places.length
    ⟨0, by omega, by omega, by simp only [go_sem, Bool.false_and, new_set, Int.reduceBEq, Int.reduceBNe, Int.reduceNeg, not_true_eq_false, beq_self_eq_true, bne_self_eq_false, Bool.false_eq_true, if_false, if_true, Int.cast_ofNat_Int, decide_true, decide_false, reduceCtorEq, Nat.reduceEqDiff, Nat.reduceAdd, ne_eq, not_false_eq_true, Option.map_some, Option.bind_some, Option.map_none, Option.bind_none, true_and, and_true, Bool.not_true, Bool.not_false, Nat.reduceLeDiff, Nat.reduceMul, Nat.reduceSub, Nat.le_refl, Int.reduceToNat, Int.reduceLT, Int.reduceLE, Nat.one_mul, Nat.mul_one] <;> rfl, hx0, by simp only [List.take_zero, tkF, List.foldl_nil]; rw [hT0]; exact hT, hX, Upd.refl _ _⟩ ?_
  rintro _ _ m2 ⟨k, hk, rfl, rfl, hx2, hT2, hX2, hU2⟩
  have hp2 := hp.keep hx2
  have hb2 := hb.keep hx2
  simp only [RB.ref17_Of_1, pt, go_sem, Bool.false_and, new_set, Int.reduceBEq, Int.reduceBNe, Int.reduceNeg, not_true_eq_false, beq_self_eq_true, bne_self_eq_false, Bool.false_eq_true, if_false, if_true, Int.cast_ofNat_Int, decide_true, decide_false, reduceCtorEq, Nat.reduceEqDiff, Nat.reduceAdd, ne_eq, not_false_eq_true, Option.map_some, Option.bind_some, Option.map_none, Option.bind_none, true_and, and_true, Bool.not_true, Bool.not_false, Nat.reduceLeDiff, Nat.reduceMul, Nat.reduceSub, Nat.le_refl, Int.reduceToNat, Int.reduceLT, Int.reduceLE, Nat.one_mul, Nat.mul_one, load_w, load_a, store_b, idxS_b, set_blk, new_blk, set_next, new_next, len_s, ldW_c, ldA_c, stB_c, toArr_one, size_one, toList_toArr, size_toArr, List.length_cons, List.length_nil, List.getElem?_cons_zero, List.getElem?_cons_succ, Nat.zero_add, Nat.add_zero, hb2.at_, hp2.len]
  refine gT.of (fun h1' => ?_) (fun h1' => ?_) <;> (have h1 := h1'; try simp only [decide_eq_true_eq, decide_eq_false_iff_not, beq_iff_eq, bne_iff_ne, beq_eq_false_iff_ne, ne_eq, Bool.not_eq_true', Bool.not_eq_false', bne_eq_false_iff_eq, Int.not_lt, Int.not_le] at h1)
  · have hil : k < p.places.length := by omega
    obtain ⟨b, o, qv, a1, a2, a3, a4, a5⟩ := hp2.elem hil
    obtain ⟨q, q1, q2⟩ := hcv m2 hx2
    have a30 := a3 0 (by omega)
    have hpl := hp1 _ (List.getElem_mem hil)
    have hf : tkF (p.places.take (k + 1)) c t (T.getD t 0) = (if 0 < p.places[k].pieces.countP (atB c t) then p.places[k].unit else tkF (p.places.take k) c t (T.getD t 0)) := foldl_take hil
    have s1 := step1 (show k < 1000000 by omega)
    generalize p.places[k] = x at *
    simp only [plV, Nat.add_zero, List.getElem?_cons_zero] at a2 a30
    try simp only [go_sem, Bool.false_and, new_set, Int.reduceBEq, Int.reduceBNe, Int.reduceNeg, not_true_eq_false, beq_self_eq_true, bne_self_eq_false, Bool.false_eq_true, if_false, if_true, Int.cast_ofNat_Int, decide_true, decide_false, reduceCtorEq, Nat.reduceEqDiff, Nat.reduceAdd, ne_eq, not_false_eq_true, Option.map_some, Option.bind_some, Option.map_none, Option.bind_none, true_and, and_true, Bool.not_true, Bool.not_false, Nat.reduceLeDiff, Nat.reduceMul, Nat.reduceSub, Nat.le_refl, Int.reduceToNat, Int.reduceLT, Int.reduceLE, Nat.one_mul, Nat.mul_one, load_w, load_a, store_b, idxS_b, set_blk, new_blk, set_next, new_next, len_s, ldW_c, ldA_c, stB_c, toArr_one, size_one, toList_toArr, size_toArr, List.length_cons, List.length_nil, List.getElem?_cons_zero, List.getElem?_cons_succ, Nat.zero_add, Nat.add_zero, h1', a1, a2, q1, q2, hb2.at_]
    refine gC.of (At_spec (x := x) (c := c) (t := t) ⟨qv, rfl, a4⟩ hpl) ?_
    rintro _ m3 ⟨rfl, hx3⟩
    simp only [go_sem, Bool.false_and, new_set, Int.reduceBEq, Int.reduceBNe, Int.reduceNeg, not_true_eq_false, beq_self_eq_true, bne_self_eq_false, Bool.false_eq_true, if_false, if_true, Int.cast_ofNat_Int, decide_true, decide_false, reduceCtorEq, Nat.reduceEqDiff, Nat.reduceAdd, ne_eq, not_false_eq_true, Option.map_some, Option.bind_some, Option.map_none, Option.bind_none, true_and, and_true, Bool.not_true, Bool.not_false, Nat.reduceLeDiff, Nat.reduceMul, Nat.reduceSub, Nat.le_refl, Int.reduceToNat, Int.reduceLT, Int.reduceLE, Nat.one_mul, Nat.mul_one]
    have hT3 := hT2.keep hx3
    have hX3 := hX2.keep hx3
    have hb3 := hb2.keep hx3
    have hx03 := hx2.trans hx3
    rw [← load_ext hx3 a5] at a30
    refine gT.of (fun h2' => ?_) (fun h2' => ?_) <;> (have h2 := h2'; try simp only [decide_eq_true_eq, decide_eq_false_iff_not, beq_iff_eq, bne_iff_ne, beq_eq_false_iff_ne, ne_eq, Bool.not_eq_true', Bool.not_eq_false', bne_eq_false_iff_eq, Int.not_lt, Int.not_le] at h2)
    · have h2n : 0 < x.pieces.countP (atB c t) := by omega
      rw [if_pos h2n] at hf
      try simp only [go_sem, Bool.false_and, new_set, Int.reduceBEq, Int.reduceBNe, Int.reduceNeg, not_true_eq_false, beq_self_eq_true, bne_self_eq_false, Bool.false_eq_true, if_false, if_true, Int.cast_ofNat_Int, decide_true, decide_false, reduceCtorEq, Nat.reduceEqDiff, Nat.reduceAdd, ne_eq, not_false_eq_true, Option.map_some, Option.bind_some, Option.map_none, Option.bind_none, true_and, and_true, Bool.not_true, Bool.not_false, Nat.reduceLeDiff, Nat.reduceMul, Nat.reduceSub, Nat.le_refl, Int.reduceToNat, Int.reduceLT, Int.reduceLE, Nat.one_mul, Nat.mul_one, load_w, load_a, store_b, idxS_b, set_blk, new_blk, set_next, new_next, len_s, ldW_c, ldA_c, stB_c, toArr_one, size_one, toList_toArr, size_toArr, List.length_cons, List.length_nil, List.getElem?_cons_zero, List.getElem?_cons_succ, Nat.zero_add, Nat.add_zero, h2', hX3.at_, hb3.at_, a1, a30]
      refine ⟨⟨by omega, by omega⟩, got_eq (put_int hT3 (by simp; omega)) ?_⟩
      try simp only [go_sem, Bool.false_and, new_set, Int.reduceBEq, Int.reduceBNe, Int.reduceNeg, not_true_eq_false, beq_self_eq_true, bne_self_eq_false, Bool.false_eq_true, if_false, if_true, Int.cast_ofNat_Int, decide_true, decide_false, reduceCtorEq, Nat.reduceEqDiff, Nat.reduceAdd, ne_eq, not_false_eq_true, Option.map_some, Option.bind_some, Option.map_none, Option.bind_none, true_and, and_true, Bool.not_true, Bool.not_false, Nat.reduceLeDiff, Nat.reduceMul, Nat.reduceSub, Nat.le_refl, Int.reduceToNat, Int.reduceLT, Int.reduceLE, Nat.one_mul, Nat.mul_one, load_w, load_a, store_b, idxS_b, set_blk, new_blk, set_next, new_next, len_s, ldW_c, ldA_c, stB_c, toArr_one, size_one, toList_toArr, size_toArr, List.length_cons, List.length_nil, List.getElem?_cons_zero, List.getElem?_cons_succ, Nat.zero_add, Nat.add_zero, s1]
      refine ⟨p.places.length - (k + 1), by omega, k + 1, by omega, rfl, rfl, hx03.set hbt, ?_, hX3.setOther hne, (hU2.ex hx3).st (.inl (by simp))⟩
      rw [hf]
      have := hT3.setSame (cs' := intsZ ((T.set t (tkF (p.places.take k) c t (T.getD t 0))).set t x.unit))
      rw [List.set_set] at this ⊢
      exact this
    · have h2n : ¬ 0 < x.pieces.countP (atB c t) := by omega
      rw [if_neg h2n] at hf
      try simp only [go_sem, Bool.false_and, new_set, Int.reduceBEq, Int.reduceBNe, Int.reduceNeg, not_true_eq_false, beq_self_eq_true, bne_self_eq_false, Bool.false_eq_true, if_false, if_true, Int.cast_ofNat_Int, decide_true, decide_false, reduceCtorEq, Nat.reduceEqDiff, Nat.reduceAdd, ne_eq, not_false_eq_true, Option.map_some, Option.bind_some, Option.map_none, Option.bind_none, true_and, and_true, Bool.not_true, Bool.not_false, Nat.reduceLeDiff, Nat.reduceMul, Nat.reduceSub, Nat.le_refl, Int.reduceToNat, Int.reduceLT, Int.reduceLE, Nat.one_mul, Nat.mul_one, load_w, load_a, store_b, idxS_b, set_blk, new_blk, set_next, new_next, len_s, ldW_c, ldA_c, stB_c, toArr_one, size_one, toList_toArr, size_toArr, List.length_cons, List.length_nil, List.getElem?_cons_zero, List.getElem?_cons_succ, Nat.zero_add, Nat.add_zero, h2', s1]
      exact ⟨p.places.length - (k + 1), by omega, k + 1, by omega, rfl, rfl, hx03, by rw [hf]; exact hT3, hX3, hU2.ex hx3⟩
  · have : k = p.places.length := by omega
    subst this
    rw [List.take_length] at hT2
    try simp only [go_sem, Bool.false_and, new_set, Int.reduceBEq, Int.reduceBNe, Int.reduceNeg, not_true_eq_false, beq_self_eq_true, bne_self_eq_false, Bool.false_eq_true, if_false, if_true, Int.cast_ofNat_Int, decide_true, decide_false, reduceCtorEq, Nat.reduceEqDiff, Nat.reduceAdd, ne_eq, not_false_eq_true, Option.map_some, Option.bind_some, Option.map_none, Option.bind_none, true_and, and_true, Bool.not_true, Bool.not_false, Nat.reduceLeDiff, Nat.reduceMul, Nat.reduceSub, Nat.le_refl, Int.reduceToNat, Int.reduceLT, Int.reduceLE, Nat.one_mul, Nat.mul_one, load_w, load_a, store_b, idxS_b, set_blk, new_blk, set_next, new_next, len_s, ldW_c, ldA_c, stB_c, toArr_one, size_one, toList_toArr, size_toArr, List.length_cons, List.length_nil, List.getElem?_cons_zero, List.getElem?_cons_succ, Nat.zero_add, Nat.add_zero, h1']
    exact ⟨hx2, hT2, hX2, hU2⟩
end Go.Am


/- Tables by the reference: a core. -/
set_option linter.unusedVariables false
set_option linter.unusedSimpArgs false
namespace Go.Am
open Classical
variable {m : Mem}

/-- The ticks of a core, the first of them told. -/
def tkL (l : List Pl) (c : Int) (n t : Nat) : List Int := (List.range n).map fun (s : Nat) => if s < t then tkF l c s 0 else 0
theorem tkL_len {l : List Pl} {c : Int} {n t : Nat} : (tkL l c n t).length = n := by simp [tkL]
theorem tkL_zero {l : List Pl} {c : Int} {n : Nat} : tkL l c n 0 = List.replicate n 0 := by
  apply List.ext_getElem <;> simp [tkL]
theorem tkL_get {l : List Pl} {c : Int} {n t s : Nat} (h : s < (tkL l c n t).length) : (tkL l c n t)[s] = if s < t then tkF l c s 0 else 0 := by simp [tkL]
theorem tkL_succ {l : List Pl} {c : Int} {n t : Nat} (h : t < n) : (tkL l c n t).set t (tkF l c t ((tkL l c n t).getD t 0)) = tkL l c n (t + 1) := by
  have e : (tkL l c n t).getD t 0 = 0 := by
    rw [List.getD_eq_getElem?_getD, List.getElem?_eq_getElem (by rw [tkL_len]; exact h), tkL_get]; simp
  rw [e]
  apply List.ext_getElem
  · simp [tkL_len]
  · intro s h1 h2
    rw [List.getElem_set, tkL_get]
    by_cases q : t = s
    · subst q; rw [tkL_get]; simp
    · rw [if_neg q, tkL_get]
      by_cases r : s < t
      · rw [if_pos r, if_pos (by omega)]
      · rw [if_neg r, if_neg (by omega)]

theorem refOf2_loop {m0 : Mem} {p : PlanD} {pv lv cv wv : Value} {b0 bt bx i n : Nat} {c : Int} (hx0 : Ext m0 m) (hp : PlsV m0 p.places pv) (hb : Bk m0 b0 [.int .i64 p.frame, u32 p.cores, pv] 3)
    (hl : p.places.length < 1000000) (hp1 : ∀ x ∈ p.places, x.pieces.length < 1000000)
    (hcv : ∀ m', Ext m0 m' → ∃ q, aIdxS 1 cv (.int .i64 i) = some q ∧ aLoad false 1 m' q = some (.int .i64 c))
    (hbt : m0.next ≤ bt) (hbx : m0.next ≤ bx) (hne : bx ≠ bt) (hT : Bk m bt (intsZ (List.replicate n 0)) 1) (hX : Bk m bx [.int .i64 c, .slice (some ⟨bt, 0, none⟩) n n, wv] 3) (hn : p.frame = n) (h64 : n ≤ 64) :
    WL R [1, 3, 4, 5, 6, 7] RB.ref17_Of_2 [(1, pt b0), (3, lv), (4, cv), (5, .int .i64 i), (6, pt bx), (7, .int .i64 0)] m fun x e m' =>
      x = .exit 2 ∧ e = [(1, pt b0), (3, lv), (4, cv), (5, .int .i64 i), (6, pt bx), (7, .int .i64 n), (35, .bool false)] ∧ Ext m0 m' ∧ Bk m' bt (intsZ (tkL p.places c n n)) 1 ∧ Bk m' bx [.int .i64 c, .slice (some ⟨bt, 0, none⟩) n n, wv] 3 ∧ Upd m m' [bt] := by
  refine WL.of (fun r e m' => ∃ t : Nat, t ≤ n ∧ r = n - t ∧ e = [(1, pt b0), (3, lv), (4, cv), (5, .int .i64 i), (6, pt bx), (7, .int .i64 t)] ∧ Ext m0 m' ∧ Bk m' bt (intsZ (tkL p.places c n t)) 1 ∧ Bk m' bx [.int .i64 c, .slice (some ⟨bt, 0, none⟩) n n, wv] 3 ∧ Upd m m' [bt]) n
    ⟨0, by omega, by omega, by simp only [go_sem, Bool.false_and, new_set, Int.reduceBEq, Int.reduceBNe, Int.reduceNeg, not_true_eq_false, beq_self_eq_true, bne_self_eq_false, Bool.false_eq_true, if_false, if_true, Int.cast_ofNat_Int, decide_true, decide_false, reduceCtorEq, Nat.reduceEqDiff, Nat.reduceAdd, ne_eq, not_false_eq_true, Option.map_some, Option.bind_some, Option.map_none, Option.bind_none, true_and, and_true, Bool.not_true, Bool.not_false, Nat.reduceLeDiff, Nat.reduceMul, Nat.reduceSub, Nat.le_refl, Int.reduceToNat, Int.reduceLT, Int.reduceLE, Nat.one_mul, Nat.mul_one] <;> rfl, hx0, by rw [tkL_zero]; exact hT, hX, Upd.refl _ _⟩ ?_
  rintro _ _ m2 ⟨t, ht, rfl, rfl, hx2, hT2, hX2, hU2⟩
  have hb2 := hb.keep hx2
  simp only [RB.ref17_Of_2, pt, go_sem, Bool.false_and, new_set, Int.reduceBEq, Int.reduceBNe, Int.reduceNeg, not_true_eq_false, beq_self_eq_true, bne_self_eq_false, Bool.false_eq_true, if_false, if_true, Int.cast_ofNat_Int, decide_true, decide_false, reduceCtorEq, Nat.reduceEqDiff, Nat.reduceAdd, ne_eq, not_false_eq_true, Option.map_some, Option.bind_some, Option.map_none, Option.bind_none, true_and, and_true, Bool.not_true, Bool.not_false, Nat.reduceLeDiff, Nat.reduceMul, Nat.reduceSub, Nat.le_refl, Int.reduceToNat, Int.reduceLT, Int.reduceLE, Nat.one_mul, Nat.mul_one, load_w, load_a, store_b, idxS_b, set_blk, new_blk, set_next, new_next, len_s, ldW_c, ldA_c, stB_c, toArr_one, size_one, toList_toArr, size_toArr, List.length_cons, List.length_nil, List.getElem?_cons_zero, List.getElem?_cons_succ, Nat.zero_add, Nat.add_zero, hb2.at_]
  refine gT.of (fun h1' => ?_) (fun h1' => ?_) <;> (have h1 := h1'; try simp only [decide_eq_true_eq, decide_eq_false_iff_not, beq_iff_eq, bne_iff_ne, beq_eq_false_iff_ne, ne_eq, Bool.not_eq_true', Bool.not_eq_false', bne_eq_false_iff_eq, Int.not_lt, Int.not_le] at h1)
  · have htn : t < n := by omega
    try simp only [go_sem, Bool.false_and, new_set, Int.reduceBEq, Int.reduceBNe, Int.reduceNeg, not_true_eq_false, beq_self_eq_true, bne_self_eq_false, Bool.false_eq_true, if_false, if_true, Int.cast_ofNat_Int, decide_true, decide_false, reduceCtorEq, Nat.reduceEqDiff, Nat.reduceAdd, ne_eq, not_false_eq_true, Option.map_some, Option.bind_some, Option.map_none, Option.bind_none, true_and, and_true, Bool.not_true, Bool.not_false, Nat.reduceLeDiff, Nat.reduceMul, Nat.reduceSub, Nat.le_refl, Int.reduceToNat, Int.reduceLT, Int.reduceLE, Nat.one_mul, Nat.mul_one, load_w, load_a, store_b, idxS_b, set_blk, new_blk, set_next, new_next, len_s, ldW_c, ldA_c, stB_c, toArr_one, size_one, toList_toArr, size_toArr, List.length_cons, List.length_nil, List.getElem?_cons_zero, List.getElem?_cons_succ, Nat.zero_add, Nat.add_zero, h1']
    refine WL.mono (refOf1_loop (m := m2) (T := tkL p.places c n t) hx2 hp hb hl hp1 hcv hbt hbx hne hT2 hX2 tkL_len htn (by omega)) ?_
    rintro _ _ m3 ⟨rfl, rfl, hx3, hT3, hX3, hU3⟩
    simp only [pt]
    try simp only [go_sem, Bool.false_and, new_set, Int.reduceBEq, Int.reduceBNe, Int.reduceNeg, not_true_eq_false, beq_self_eq_true, bne_self_eq_false, Bool.false_eq_true, if_false, if_true, Int.cast_ofNat_Int, decide_true, decide_false, reduceCtorEq, Nat.reduceEqDiff, Nat.reduceAdd, ne_eq, not_false_eq_true, Option.map_some, Option.bind_some, Option.map_none, Option.bind_none, true_and, and_true, Bool.not_true, Bool.not_false, Nat.reduceLeDiff, Nat.reduceMul, Nat.reduceSub, Nat.le_refl, Int.reduceToNat, Int.reduceLT, Int.reduceLE, Nat.one_mul, Nat.mul_one, load_w, load_a, store_b, idxS_b, set_blk, new_blk, set_next, new_next, len_s, ldW_c, ldA_c, stB_c, toArr_one, size_one, toList_toArr, size_toArr, List.length_cons, List.length_nil, List.getElem?_cons_zero, List.getElem?_cons_succ, Nat.zero_add, Nat.add_zero, step1 (show t < 1000000 by omega)]
    exact ⟨n - (t + 1), by omega, t + 1, by omega, rfl, rfl, hx3, by rw [← tkL_succ htn]; exact hT3, hX3, hU2.trans hU3 (fun _ h => h) (fun _ h => .inl h)⟩
  · have : t = n := by omega
    subst this
    try simp only [go_sem, Bool.false_and, new_set, Int.reduceBEq, Int.reduceBNe, Int.reduceNeg, not_true_eq_false, beq_self_eq_true, bne_self_eq_false, Bool.false_eq_true, if_false, if_true, Int.cast_ofNat_Int, decide_true, decide_false, reduceCtorEq, Nat.reduceEqDiff, Nat.reduceAdd, ne_eq, not_false_eq_true, Option.map_some, Option.bind_some, Option.map_none, Option.bind_none, true_and, and_true, Bool.not_true, Bool.not_false, Nat.reduceLeDiff, Nat.reduceMul, Nat.reduceSub, Nat.le_refl, Int.reduceToNat, Int.reduceLT, Int.reduceLE, Nat.one_mul, Nat.mul_one, load_w, load_a, store_b, idxS_b, set_blk, new_blk, set_next, new_next, len_s, ldW_c, ldA_c, stB_c, toArr_one, size_one, toList_toArr, size_toArr, List.length_cons, List.length_nil, List.getElem?_cons_zero, List.getElem?_cons_succ, Nat.zero_add, Nat.add_zero, h1']
    exact ⟨hx2, hT2, hX2, hU2⟩
end Go.Am


/- Tables by the reference. -/
set_option linter.unusedVariables false
set_option linter.unusedSimpArgs false
namespace Go.Am
open Classical
variable {m : Mem}

def tabOf (p : PlanD) (c : Nat) : TabD := ⟨c, tkL p.places c p.frame.toNat p.frame.toNat, whL p.places c⟩
def tabsOf (p : PlanD) : List TabD := (csP p 16).map (tabOf p)

theorem Sl.getP {m : Mem} {n : Nat} {cs : List Value} {v : Value} (h : Sl m 1 n cs v) {k : IntKind} {i : Nat} (hi : i < n) :
    ∃ b o, aIdxS 1 v (.int k i) = some (.pointer (some ⟨b, o, none⟩)) ∧ aLoad false 1 m (.pointer (some ⟨b, o, none⟩)) = cs[i]? ∧ (SlLt m v → b < m.next) := by
  obtain ⟨p, h1, h2⟩ := h.get (k := k) hi
  cases h with
  | nil h hc => omega
  | @«at» b o c hc h =>
    have e : aIdxS 1 (.slice (some ⟨b, o, none⟩) n c) (.int k i) = some (.pointer (some ⟨b, o + i * 1, none⟩)) := by
      simp only [aIdxS]; rw [if_pos (by omega), Int.toNat_natCast]
    rw [e] at h1
    cases h1
    exact ⟨b, o + i * 1, e, h2, fun h => h⟩

theorem make_at {m : Mem} {u by_ n q : Nat} {z : List Value} {k k' : IntKind} (h1 : n < 2 ^ 62) (h2 : n * by_ ≤ 2 ^ 47) (h3 : z.length = u := by rfl) (h4 : oneCells z = true := by rfl) :
    aMake (some q) u by_ z m (.int k n) (.int k' n) = some (.slice (some ⟨q, 0, none⟩) n n, m.set q (some (.cells (zeros z n) (some u)))) := by
  simp only [aMake, place]
  rw [if_pos ⟨by omega, by omega, by omega, by omega, h3, h4⟩, Int.toNat_natCast]

theorem Bk.sl {m : Mem} {b u n : Nat} {cs : List Value} (h : Bk m b cs u) (hl : cs.length = n * u) : Sl m u n cs (.slice (some ⟨b, 0, none⟩) n n) := by
  refine .at (Nat.le_refl _) ?_
  unfold aCells
  rw [h.at_]
  simp only [Nat.zero_add, List.drop_zero]
  rw [if_pos (by omega), ← hl, List.take_length]
theorem Own.off0 {m0 m : Mem} {u n : Nat} {cs : List Value} {v : Value} {fp : List Nat} (h : Own m0 m u n cs v) (hf : ∀ x ∈ fp, x < m0.next) : SlOff fp v := h.off hf

theorem TbsO.weak {m0 m1 m : Mem} {l : List TabD} {v : Value} (h : TbsO m1 m l v) (hx : Ext m0 m1) : TbsO m0 m l v := by
  obtain ⟨cs, a, c⟩ := h
  exact ⟨cs, a.weak hx, c⟩

theorem refOf_spec {p : PlanD} {v : Value} (hv : PlanV m p v) (hl : PlanL p) (h2 : 2 ≤ p.frame) (h64 : p.frame ≤ 64) : WC R F.ref17_Of [v] m fun r m' => TbsO m m' (tabsOf p) r ∧ Ext m m' := by
  refine WC.of R.ref17_Of rfl ?_
  obtain ⟨pv, rfl, hp⟩ := hv
  simp only [RC.ref17_Of, planV, go_sem, Bool.false_and, new_set, Int.reduceBEq, Int.reduceBNe, Int.reduceNeg, not_true_eq_false, beq_self_eq_true, bne_self_eq_false, Bool.false_eq_true, if_false, if_true, Int.cast_ofNat_Int, decide_true, decide_false, reduceCtorEq, Nat.reduceEqDiff, Nat.reduceAdd, ne_eq, not_false_eq_true, Option.map_some, Option.bind_some, Option.map_none, Option.bind_none, true_and, and_true, Bool.not_true, Bool.not_false, Nat.reduceLeDiff, Nat.reduceMul, Nat.reduceSub, Nat.le_refl, Int.reduceToNat, Int.reduceLT, Int.reduceLE, Nat.one_mul, Nat.mul_one, hp.one]
  have hx : Ext m (m.new (.cells [.int .i64 p.frame, u32 p.cores, pv] (some 3))) := Ext.new
  have hb : Bk (m.new (.cells [.int .i64 p.frame, u32 p.cores, pv] (some 3))) m.next [.int .i64 p.frame, u32 p.cores, pv] 3 := Bk.new
  generalize m.new (.cells [.int .i64 p.frame, u32 p.cores, pv] (some 3)) = m1 at hx hb ⊢
  have hbn := hb.ne
  try simp only [go_sem, Bool.false_and, new_set, Int.reduceBEq, Int.reduceBNe, Int.reduceNeg, not_true_eq_false, beq_self_eq_true, bne_self_eq_false, Bool.false_eq_true, if_false, if_true, Int.cast_ofNat_Int, decide_true, decide_false, reduceCtorEq, Nat.reduceEqDiff, Nat.reduceAdd, ne_eq, not_false_eq_true, Option.map_some, Option.bind_some, Option.map_none, Option.bind_none, true_and, and_true, Bool.not_true, Bool.not_false, Nat.reduceLeDiff, Nat.reduceMul, Nat.reduceSub, Nat.le_refl, Int.reduceToNat, Int.reduceLT, Int.reduceLE, Nat.one_mul, Nat.mul_one, load_w, load_a, store_b, idxS_b, set_blk, new_blk, set_next, new_next, len_s, ldW_c, ldA_c, stB_c, toArr_one, size_one, toList_toArr, size_toArr, List.length_cons, List.length_nil, List.getElem?_cons_zero, List.getElem?_cons_succ, Nat.zero_add, Nat.add_zero, hb.at_, hbn]
  have hx2 : Ext m1 (m1.new (.cells [] (some 3))) := Ext.new
  have hb2 : Bk (m1.new (.cells [] (some 3))) m1.next [] 3 := Bk.new
  generalize m1.new (.cells [] (some 3)) = m2 at hx2 hb2 ⊢
  have hb' := hb.keep hx2
  have hp2 := (hp.keep hx).keep hx2
  have ho2 : TbsO m1 m2 [] (.slice (some ⟨m1.next, 0, none⟩) 0 0) := ⟨[], .at (all := []) (Nat.le_refl _) hb2.lt (Nat.le_refl _) hb2.at_ rfl rfl rfl, fun i hi => by simp at hi⟩
  try simp only [go_sem, Bool.false_and, new_set, Int.reduceBEq, Int.reduceBNe, Int.reduceNeg, not_true_eq_false, beq_self_eq_true, bne_self_eq_false, Bool.false_eq_true, if_false, if_true, Int.cast_ofNat_Int, decide_true, decide_false, reduceCtorEq, Nat.reduceEqDiff, Nat.reduceAdd, ne_eq, not_false_eq_true, Option.map_some, Option.bind_some, Option.map_none, Option.bind_none, true_and, and_true, Bool.not_true, Bool.not_false, Nat.reduceLeDiff, Nat.reduceMul, Nat.reduceSub, Nat.le_refl, Int.reduceToNat, Int.reduceLT, Int.reduceLE, Nat.one_mul, Nat.mul_one, load_w, load_a, store_b, idxS_b, set_blk, new_blk, set_next, new_next, len_s, ldW_c, ldA_c, stB_c, toArr_one, size_one, toList_toArr, size_toArr, List.length_cons, List.length_nil, List.getElem?_cons_zero, List.getElem?_cons_succ, Nat.zero_add, Nat.add_zero, hb'.at_]
  refine gC.of (refCores_spec (p := p) ⟨pv, rfl, hp2⟩) ?_
  rintro cv m3 ⟨hoc, hx3⟩
  have hsl := hoc.sl
  have hlt := hoc.lt
  have hlen := csP_len (p := p) (n := 16)
  have hp3 := hp2.keep hx3
  have hb3 := hb'.keep hx3
  try simp only [go_sem, Bool.false_and, new_set, Int.reduceBEq, Int.reduceBNe, Int.reduceNeg, not_true_eq_false, beq_self_eq_true, bne_self_eq_false, Bool.false_eq_true, if_false, if_true, Int.cast_ofNat_Int, decide_true, decide_false, reduceCtorEq, Nat.reduceEqDiff, Nat.reduceAdd, ne_eq, not_false_eq_true, Option.map_some, Option.bind_some, Option.map_none, Option.bind_none, true_and, and_true, Bool.not_true, Bool.not_false, Nat.reduceLeDiff, Nat.reduceMul, Nat.reduceSub, Nat.le_refl, Int.reduceToNat, Int.reduceLT, Int.reduceLE, Nat.one_mul, Nat.mul_one, load_w, load_a, store_b, idxS_b, set_blk, new_blk, set_next, new_next, len_s, ldW_c, ldA_c, stB_c, toArr_one, size_one, toList_toArr, size_toArr, List.length_cons, List.length_nil, List.getElem?_cons_zero, List.getElem?_cons_succ, Nat.zero_add, Nat.add_zero]
  refine WL.of (fun r e m' => ∃ (k : Nat) (w : Value), k ≤ (csP p 16).length ∧ r = (csP p 16).length - k ∧ e = [(1, pt m.next), (3, w), (4, cv), (5, .int .i64 k)] ∧ TbsO m1 m' ((tabsOf p).take k) w ∧ Ext m1 m' ∧ Upd m3 m' [m1.next] ∧ ∀ b ∈ vb w, b = m1.next ∨ m3.next ≤ b) (csP p 16).length
    ⟨0, _, by omega, by omega, by simp only [go_sem, Bool.false_and, new_set, Int.reduceBEq, Int.reduceBNe, Int.reduceNeg, not_true_eq_false, beq_self_eq_true, bne_self_eq_false, Bool.false_eq_true, if_false, if_true, Int.cast_ofNat_Int, decide_true, decide_false, reduceCtorEq, Nat.reduceEqDiff, Nat.reduceAdd, ne_eq, not_false_eq_true, Option.map_some, Option.bind_some, Option.map_none, Option.bind_none, true_and, and_true, Bool.not_true, Bool.not_false, Nat.reduceLeDiff, Nat.reduceMul, Nat.reduceSub, Nat.le_refl, Int.reduceToNat, Int.reduceLT, Int.reduceLE, Nat.one_mul, Nat.mul_one] <;> rfl, by simpa using ho2.keep hx3, hx2.trans hx3, Upd.refl _ _, by simp [vb]⟩ ?_
  rintro _ _ m4 ⟨k, w, hk, rfl, rfl, ho, hx14, hu34, hvb⟩
  have hso : SlOff [m1.next] cv := hoc.off (by have := hb2.lt; simp; omega)
  have hsl4 := hsl.upd hlt hso hu34
  have hb4 := hb.keep hx14
  have hp4 := (hp.keep hx).keep hx14
  simp only [RB.ref17_Of_3, pt, go_sem, Bool.false_and, new_set, Int.reduceBEq, Int.reduceBNe, Int.reduceNeg, not_true_eq_false, beq_self_eq_true, bne_self_eq_false, Bool.false_eq_true, if_false, if_true, Int.cast_ofNat_Int, decide_true, decide_false, reduceCtorEq, Nat.reduceEqDiff, Nat.reduceAdd, ne_eq, not_false_eq_true, Option.map_some, Option.bind_some, Option.map_none, Option.bind_none, true_and, and_true, Bool.not_true, Bool.not_false, Nat.reduceLeDiff, Nat.reduceMul, Nat.reduceSub, Nat.le_refl, Int.reduceToNat, Int.reduceLT, Int.reduceLE, Nat.one_mul, Nat.mul_one, hsl4.len]
  refine gT.of (fun h1' => ?_) (fun h1' => ?_) <;> (have h1 := h1'; try simp only [decide_eq_true_eq, decide_eq_false_iff_not, beq_iff_eq, bne_iff_ne, beq_eq_false_iff_ne, ne_eq, Bool.not_eq_true', Bool.not_eq_false', bne_eq_false_iff_eq, Int.not_lt, Int.not_le] at h1)
  · have hkl : k < (csP p 16).length := by omega
    obtain ⟨b, o, e1, e2, e3⟩ := hsl4.getP (k := .i64) (i := k) hkl
    rw [ints_get hkl] at e2
    try simp only [go_sem, Bool.false_and, new_set, Int.reduceBEq, Int.reduceBNe, Int.reduceNeg, not_true_eq_false, beq_self_eq_true, bne_self_eq_false, Bool.false_eq_true, if_false, if_true, Int.cast_ofNat_Int, decide_true, decide_false, reduceCtorEq, Nat.reduceEqDiff, Nat.reduceAdd, ne_eq, not_false_eq_true, Option.map_some, Option.bind_some, Option.map_none, Option.bind_none, true_and, and_true, Bool.not_true, Bool.not_false, Nat.reduceLeDiff, Nat.reduceMul, Nat.reduceSub, Nat.le_refl, Int.reduceToNat, Int.reduceLT, Int.reduceLE, Nat.one_mul, Nat.mul_one, load_w, load_a, store_b, idxS_b, set_blk, new_blk, set_next, new_next, len_s, ldW_c, ldA_c, stB_c, toArr_one, size_one, toList_toArr, size_toArr, List.length_cons, List.length_nil, List.getElem?_cons_zero, List.getElem?_cons_succ, Nat.zero_add, Nat.add_zero, h1', e1, e2, hb4.at_]
    refine gC.of (refWholes_spec (p := p) (c := ((csP p 16)[k] : Nat)) ⟨pv, rfl, hp4.keep Ext.bump⟩ hl.len) ?_
    rintro wv m5 ⟨hw, hx5⟩
    have hx45 : Ext m4 m5 := Ext.bump.trans hx5
    have hn5 := hx5.next
    simp only [Mem.bump_next] at hn5
    have hwone := hw.sl.one
    obtain ⟨n, hn⟩ : ∃ n : Nat, p.frame = n := ⟨p.frame.toNat, by omega⟩
    have hwa : ∃ a n c, wv = .slice a n c := by cases hw <;> exact ⟨_, _, _, rfl⟩
    obtain ⟨wa, wn, wc, rfl⟩ := hwa
    have hnn := hn
    simp only [hn] at hb hb' hb3 hb4 h2 h64
    rw [hn]
    have hq : b < m4.next := e3 (hlt.upd hu34)
    have sm1 : m5.blk b = m4.blk b := hx45.same _ hq
    have sm2 : m5.blk m.next = m4.blk m.next := hx45.same _ hb4.lt
    have mk := make_at (m := m5) (u := 1) (by_ := 8) (n := n) (q := m4.next + 6) (z := [.int .i64 0]) (k := .i64) (k' := .i64) (by omega) (by omega)
    have hbn := hb4.ne
    have w1 : (1 : Nat) = (Value.slice wa wn wc).cells.size := rfl
    simp only [go_sem, Bool.false_and, new_set, Int.reduceBEq, Int.reduceBNe, Int.reduceNeg, not_true_eq_false, beq_self_eq_true, bne_self_eq_false, Bool.false_eq_true, if_false, if_true, Int.cast_ofNat_Int, decide_true, decide_false, reduceCtorEq, Nat.reduceEqDiff, Nat.reduceAdd, ne_eq, not_false_eq_true, Option.map_some, Option.bind_some, Option.map_none, Option.bind_none, true_and, and_true, Bool.not_true, Bool.not_false, Nat.reduceLeDiff, Nat.reduceMul, Nat.reduceSub, Nat.le_refl, Int.reduceToNat, Int.reduceLT, Int.reduceLE, Nat.one_mul, Nat.mul_one, load_w, load_a, store_b, idxS_b, set_blk, new_blk, set_next, new_next, len_s, ldW_c, ldA_c, stB_c, toArr_one, size_one, toList_toArr, size_toArr, List.length_cons, List.length_nil, List.getElem?_cons_zero, List.getElem?_cons_succ, Nat.zero_add, Nat.add_zero, sm1, sm2, mk]
    obtain ⟨M, hM, hT, hX, hU⟩ : ∃ M, M = ((m5.set (m4.next + 6) (some (.cells (zeros [.int .i64 0] n) (some 1)))).set (m4.next + 14) (some (.cells [.int .i64 0, .slice none 0 0, .slice none 0 0] (some 3)))).set (m4.next + 14)
        (some (.cells [.int .i64 ((csP p 16)[k] : Nat), .slice (some ⟨m4.next + 6, 0, none⟩) n n, .slice wa wn wc] (some 3))) ∧ Bk M (m4.next + 6) (intsZ (List.replicate n 0)) 1 ∧ Bk M (m4.next + 14) [.int .i64 ((csP p 16)[k] : Nat), .slice (some ⟨m4.next + 6, 0, none⟩) n n, .slice wa wn wc] 3 ∧ Upd m5 M [m4.next + 6, m4.next + 14] :=
      ⟨_, rfl, ⟨by simp [Mem.set, zeros_int], by simp [Mem.set]; omega⟩, ⟨by simp [Mem.set], by simp [Mem.set]; omega⟩, (((Upd.refl _ _).st (by simp)).st (by simp)).st (by simp)⟩
    rw [← hM]
    clear hM
    have hxM : Ext m4 M := Upd.ext_of hx45 hU (by simp)
    have hwM : TbIn M ⟨((csP p 16)[k] : Nat), List.replicate n 0, whL p.places ((csP p 16)[k] : Nat)⟩ (.slice (some ⟨m4.next + 6, 0, none⟩) n n) (.slice wa wn wc) := ⟨by have := hT.sl (n := n) (by simp [intsZ]); simpa using this, hT.lt, hw.sl.upd hw.lt (hw.off0 (by simp)) hU, hw.lt.upd hU⟩
    refine WL.mono (refOf2_loop (m0 := m4) (n := n) (c := ((csP p 16)[k] : Nat)) hxM hp4 (by rw [hn]; exact hb4) hl.len hl.pcs (fun m' h => ⟨_, e1, by rw [load_ext h hq]; exact e2⟩) (by omega) (by omega) (by omega) hT hX hn (by omega)) ?_
    rintro _ _ m6 ⟨rfl, rfl, hx6, hT6, hX6, hU6⟩
    simp only [go_sem, Bool.false_and, new_set, Int.reduceBEq, Int.reduceBNe, Int.reduceNeg, not_true_eq_false, beq_self_eq_true, bne_self_eq_false, Bool.false_eq_true, if_false, if_true, Int.cast_ofNat_Int, decide_true, decide_false, reduceCtorEq, Nat.reduceEqDiff, Nat.reduceAdd, ne_eq, not_false_eq_true, Option.map_some, Option.bind_some, Option.map_none, Option.bind_none, true_and, and_true, Bool.not_true, Bool.not_false, Nat.reduceLeDiff, Nat.reduceMul, Nat.reduceSub, Nat.le_refl, Int.reduceToNat, Int.reduceLT, Int.reduceLE, Nat.one_mul, Nat.mul_one, load_w, load_a, store_b, idxS_b, set_blk, new_blk, set_next, new_next, len_s, ldW_c, ldA_c, stB_c, toArr_one, size_one, toList_toArr, size_toArr, List.length_cons, List.length_nil, List.getElem?_cons_zero, List.getElem?_cons_succ, Nat.zero_add, Nat.add_zero, hX6.at_]
    have hwl := hw.lt.upd hU
    have hwo : SlOff [m4.next + 6] (.slice wa wn wc) := hw.off0 (by simp)
    have hwo2 : SlOff [m4.next + 6, m4.next + 14] (.slice wa wn wc) := hw.off0 (by simp)
    have hin : TbIn m6 (tabOf p (csP p 16)[k]) (.slice (some ⟨m4.next + 6, 0, none⟩) n n) (.slice wa wn wc) := by
      refine ⟨?_, hT6.lt, (hw.sl.upd hw.lt hwo2 hU).upd hwl hwo hU6, hwl.upd hU6⟩
      have := hT6.sl (n := n) (by simp [intsZ, tkL_len])
      unfold tabOf
      simp only [hn, Int.toNat_natCast]
      rw [tkL_len]; exact this
    have hol := ho.lt
    have hoff : SlOff (vb w) (.slice (some ⟨m4.next + 6, 0, none⟩) n n) ∧ SlOff (vb w) (.slice wa wn wc) := by
      constructor
      · intro hm; have := (SlLt.vb_iff.1 hol) _ hm; simp only at this; omega
      · exact hw.off0 (fun x hx => by have := (SlLt.vb_iff.1 hol) _ hx; simp; omega)
    have htl : ((tabsOf p).take k).length = k := by simp [tabsOf]; omega
    obtain ⟨w', m7, e5, ho7, hx7⟩ := (ho.keep hx6).app (hx14.trans hx6) hin hoff.1 hoff.2 (by omega)
    have hu7 := app_upd e5
    have hu67 : Upd m6 m7 (vb w) := ⟨Nat.le_trans (Nat.le_succ _) hu7.1.next, fun b hb hn => by rw [hu7.1.same b (by simp [Mem.new]; omega) hn]; simp [Mem.new]; omega⟩
    have hn3 := hu34.next
    have hn6 := hx6.next
    have hu37 : Upd m3 m7 [m1.next] := (hu34.ex hx6).trans hu67 (fun _ h => h) (fun x hx => by rcases hvb x hx with h | h; exact .inl (by simp [h]); exact .inr h)
    have hvb7 : ∀ b ∈ vb w', b = m1.next ∨ m3.next ≤ b := by
      rcases hu7.2 with h | h
      · rw [h]; exact hvb
      · rw [h]; intro b hb; simp [Mem.new] at hb; right; omega
    simp only [tbV, tabOf] at e5
    simp only [e5, Got.some]
    simp only [go_sem, Bool.false_and, new_set, Int.reduceBEq, Int.reduceBNe, Int.reduceNeg, not_true_eq_false, beq_self_eq_true, bne_self_eq_false, Bool.false_eq_true, if_false, if_true, Int.cast_ofNat_Int, decide_true, decide_false, reduceCtorEq, Nat.reduceEqDiff, Nat.reduceAdd, ne_eq, not_false_eq_true, Option.map_some, Option.bind_some, Option.map_none, Option.bind_none, true_and, and_true, Bool.not_true, Bool.not_false, Nat.reduceLeDiff, Nat.reduceMul, Nat.reduceSub, Nat.le_refl, Int.reduceToNat, Int.reduceLT, Int.reduceLE, Nat.one_mul, Nat.mul_one, load_w, load_a, store_b, idxS_b, set_blk, new_blk, set_next, new_next, len_s, ldW_c, ldA_c, stB_c, toArr_one, size_one, toList_toArr, size_toArr, List.length_cons, List.length_nil, List.getElem?_cons_zero, List.getElem?_cons_succ, Nat.zero_add, Nat.add_zero, step1 (show k < 1000000 by omega)]
    refine ⟨(csP p 16).length - (k + 1), by omega, k + 1, w', by omega, rfl, rfl, ?_, hx7, hu37, hvb7⟩
    · rw [List.take_succ_eq_append_getElem (by simp [tabsOf]; omega)]
      simpa [tabsOf] using ho7
  · have : k = (csP p 16).length := by omega
    subst this
    try simp only [go_sem, Bool.false_and, new_set, Int.reduceBEq, Int.reduceBNe, Int.reduceNeg, not_true_eq_false, beq_self_eq_true, bne_self_eq_false, Bool.false_eq_true, if_false, if_true, Int.cast_ofNat_Int, decide_true, decide_false, reduceCtorEq, Nat.reduceEqDiff, Nat.reduceAdd, ne_eq, not_false_eq_true, Option.map_some, Option.bind_some, Option.map_none, Option.bind_none, true_and, and_true, Bool.not_true, Bool.not_false, Nat.reduceLeDiff, Nat.reduceMul, Nat.reduceSub, Nat.le_refl, Int.reduceToNat, Int.reduceLT, Int.reduceLE, Nat.one_mul, Nat.mul_one, load_w, load_a, store_b, idxS_b, set_blk, new_blk, set_next, new_next, len_s, ldW_c, ldA_c, stB_c, toArr_one, size_one, toList_toArr, size_toArr, List.length_cons, List.length_nil, List.getElem?_cons_zero, List.getElem?_cons_succ, Nat.zero_add, Nat.add_zero, h1']
    have e : (tabsOf p).take (csP p 16).length = tabsOf p := List.take_of_length_le (by simp [tabsOf])
    rw [e] at ho
    exact ⟨ho.weak hx, hx.trans hx14⟩
end Go.Am
