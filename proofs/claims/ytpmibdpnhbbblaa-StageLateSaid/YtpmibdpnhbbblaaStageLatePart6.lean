/- Parts of the proofs of the statements of this seat: StagePlanX3, StagePlanX4, AmSl3, StagePlanX5, StagePlanM3, StagePlanY1, StagePlanY2, StageSlcPlanPl, AmIns, AmIns2, AmCut, AmOwnQ. No conditions. -/
import Derived.Test.YtpmibdpnhbbblaaStageLatePart4
import Derived.Test.YtpmibdpnhbbblaaStageLatePart5
import Derived.Test.YtpmibdpnhbbblaaStageLatePart3
import Derived.Laws.IdiomCopy
set_option linter.unusedVariables false
set_option linter.unusedSimpArgs false

/- PlanX3 over the table of stage (relayset.py). -/
set_option linter.unusedVariables false
set_option linter.unusedSimpArgs false
namespace Go.Am
open Classical
variable {m : Mem}

def plC (p : PlanD) (i : Nat) : Prop := ∃ h : i < p.places.length, placeP p p.places[i] ∧ ∀ h : 0 < i, (p.places[i - 1]'(by omega)).unit < p.places[i].unit
def CheckP (p : PlanD) : Prop :=
  2 ≤ p.frame ∧ p.frame ≤ 64 ∧ p.cores ≠ 0#32 ∧ p.cores >>> 16 = 0#32 ∧ (∀ i, i < p.places.length → plC p i) ∧ apartP (preP p.places p.places.length) ∧ p.places.countP isSp < (csP p 16).length ∧
  ∀ c ∈ csP p 16, 0 ≤ leftP p (c : Nat)

theorem plC_r {p : PlanD} (h : 2 ≤ p.frame) (h2 : p.frame ≤ 64) (hl : PlanL p) (ha : ∀ i, i < p.places.length → plC p i) : PlanR p := by
  refine ⟨hl.len, hl.pcs, fun x hx => ?_, by omega, h2⟩
  obtain ⟨i, hi, rfl⟩ := List.getElem_of_mem hx
  obtain ⟨_, h, -⟩ := ha i hi
  have := h.2.1; have := h.2.2.1
  omega
theorem plC_cores {p : PlanD} (ha : ∀ i, i < p.places.length → plC p i) : ∀ x ∈ p.places, ∀ y ∈ x.pieces, 0 ≤ y.1 ∧ y.1 < 16 := by
  intro x hx y hy
  obtain ⟨i, hi, rfl⟩ := List.getElem_of_mem hx
  obtain ⟨_, h, -⟩ := ha i hi
  have := h.2.2.2.2 (by intro e; rw [List.eq_nil_of_length_eq_zero e] at hy; cases hy)
  obtain ⟨j, hj, rfl⟩ := List.getElem_of_mem hy
  obtain ⟨⟨_, g, -⟩, -⟩ := this.1 j hj
  exact hasC_range g

noncomputable def chk (p : PlanD) : Value := .int .i64 (if CheckP p then 0 else 30)
theorem chk_no {p : PlanD} (h : ¬ CheckP p) : Value.int .i64 30 = chk p := by unfold chk; rw [if_neg h]
theorem chk_yes {p : PlanD} (h : CheckP p) : Value.int .i64 0 = chk p := by unfold chk; rw [if_pos h]

set_option maxHeartbeats 4000000 in
theorem Check_spec {p : PlanD} {v : Value} (hv : PlanV m p v) (hl : PlanL p) : WC R F.plan_Check [v] m fun r m' => r = chk p ∧ Ext m m' := by
  refine WC.of R.plan_Check rfl ?_
  obtain ⟨pv, rfl, hp⟩ := hv
  simp only [RC.plan_Check, planV, go_sem, Int.reduceBEq, Int.reduceBNe, Int.reduceNeg, reduceCtorEq, Nat.reduceEqDiff, Nat.reduceAdd, Nat.reduceLeDiff, Nat.reduceMul, Nat.reduceSub, Int.reduceToNat, Int.reduceLT, Int.reduceLE, hp.one]
  have hx : Ext m (m.new (.cells [.int .i64 p.frame, u32 p.cores, pv] (some 3))) := Ext.new
  have hb : Bk (m.new (.cells [.int .i64 p.frame, u32 p.cores, pv] (some 3))) m.next [.int .i64 p.frame, u32 p.cores, pv] 3 := Bk.new
  generalize m.new (.cells [.int .i64 p.frame, u32 p.cores, pv] (some 3)) = m1 at hx hb ⊢
  try simp only [go_sem, Int.reduceBEq, Int.reduceBNe, Int.reduceNeg, reduceCtorEq, Nat.reduceEqDiff, Nat.reduceAdd, Nat.reduceLeDiff, Nat.reduceMul, Nat.reduceSub, Int.reduceToNat, Int.reduceLT, Int.reduceLE, load_w, load_a, store_b, idxS_b, set_blk, new_blk, set_next, new_next, len_s, ldW_c, ldA_c, stB_c, toArr_one, size_one, toList_toArr, size_toArr, List.length_cons, List.length_nil, List.getElem?_cons_zero, List.getElem?_cons_succ, Nat.zero_add, Nat.add_zero, hb.at_]
  refine gT.of (fun h1' => ?_) (fun h1' => ?_) <;> (have h1 := h1'; try simp only [decide_eq_true_eq, decide_eq_false_iff_not, beq_iff_eq, bne_iff_ne, beq_eq_false_iff_ne, ne_eq, Bool.not_eq_true', Bool.not_eq_false', bne_eq_false_iff_eq, Int.not_lt, Int.not_le] at h1)
  · try simp only [go_sem, Int.reduceBEq, Int.reduceBNe, Int.reduceNeg, reduceCtorEq, Nat.reduceEqDiff, Nat.reduceAdd, Nat.reduceLeDiff, Nat.reduceMul, Nat.reduceSub, Int.reduceToNat, Int.reduceLT, Int.reduceLE, load_w, load_a, store_b, idxS_b, set_blk, new_blk, set_next, new_next, len_s, ldW_c, ldA_c, stB_c, toArr_one, size_one, toList_toArr, size_toArr, List.length_cons, List.length_nil, List.getElem?_cons_zero, List.getElem?_cons_succ, Nat.zero_add, Nat.add_zero, h1']
    exact ⟨chk_no fun h => by have := h.1; omega, hx⟩
  · try simp only [go_sem, Int.reduceBEq, Int.reduceBNe, Int.reduceNeg, reduceCtorEq, Nat.reduceEqDiff, Nat.reduceAdd, Nat.reduceLeDiff, Nat.reduceMul, Nat.reduceSub, Int.reduceToNat, Int.reduceLT, Int.reduceLE, load_w, load_a, store_b, idxS_b, set_blk, new_blk, set_next, new_next, len_s, ldW_c, ldA_c, stB_c, toArr_one, size_one, toList_toArr, size_toArr, List.length_cons, List.length_nil, List.getElem?_cons_zero, List.getElem?_cons_succ, Nat.zero_add, Nat.add_zero, h1', hb.at_]
    refine gT.of (fun h2' => ?_) (fun h2' => ?_) <;> (have h2 := h2'; try simp only [decide_eq_true_eq, decide_eq_false_iff_not, beq_iff_eq, bne_iff_ne, beq_eq_false_iff_ne, ne_eq, Bool.not_eq_true', Bool.not_eq_false', bne_eq_false_iff_eq, Int.not_lt, Int.not_le] at h2)
    · try simp only [go_sem, Int.reduceBEq, Int.reduceBNe, Int.reduceNeg, reduceCtorEq, Nat.reduceEqDiff, Nat.reduceAdd, Nat.reduceLeDiff, Nat.reduceMul, Nat.reduceSub, Int.reduceToNat, Int.reduceLT, Int.reduceLE, load_w, load_a, store_b, idxS_b, set_blk, new_blk, set_next, new_next, len_s, ldW_c, ldA_c, stB_c, toArr_one, size_one, toList_toArr, size_toArr, List.length_cons, List.length_nil, List.getElem?_cons_zero, List.getElem?_cons_succ, Nat.zero_add, Nat.add_zero, h2']
      exact ⟨chk_no fun h => by have := h.2.1; omega, hx⟩
    · try simp only [go_sem, Int.reduceBEq, Int.reduceBNe, Int.reduceNeg, reduceCtorEq, Nat.reduceEqDiff, Nat.reduceAdd, Nat.reduceLeDiff, Nat.reduceMul, Nat.reduceSub, Int.reduceToNat, Int.reduceLT, Int.reduceLE, load_w, load_a, store_b, idxS_b, set_blk, new_blk, set_next, new_next, len_s, ldW_c, ldA_c, stB_c, toArr_one, size_one, toList_toArr, size_toArr, List.length_cons, List.length_nil, List.getElem?_cons_zero, List.getElem?_cons_succ, Nat.zero_add, Nat.add_zero, h2', hb.at_]
      refine gT.of (fun h3' => ?_) (fun h3' => ?_) <;> (have h3 := h3'; try simp only [decide_eq_true_eq, decide_eq_false_iff_not, beq_iff_eq, bne_iff_ne, beq_eq_false_iff_ne, ne_eq, Bool.not_eq_true', Bool.not_eq_false', bne_eq_false_iff_eq, Int.not_lt, Int.not_le] at h3)
      · try simp only [go_sem, Int.reduceBEq, Int.reduceBNe, Int.reduceNeg, reduceCtorEq, Nat.reduceEqDiff, Nat.reduceAdd, Nat.reduceLeDiff, Nat.reduceMul, Nat.reduceSub, Int.reduceToNat, Int.reduceLT, Int.reduceLE, load_w, load_a, store_b, idxS_b, set_blk, new_blk, set_next, new_next, len_s, ldW_c, ldA_c, stB_c, toArr_one, size_one, toList_toArr, size_toArr, List.length_cons, List.length_nil, List.getElem?_cons_zero, List.getElem?_cons_succ, Nat.zero_add, Nat.add_zero, h3']
        exact ⟨chk_no fun h => h.2.2.1 h3, hx⟩
      · try simp only [go_sem, Int.reduceBEq, Int.reduceBNe, Int.reduceNeg, reduceCtorEq, Nat.reduceEqDiff, Nat.reduceAdd, Nat.reduceLeDiff, Nat.reduceMul, Nat.reduceSub, Int.reduceToNat, Int.reduceLT, Int.reduceLE, load_w, load_a, store_b, idxS_b, set_blk, new_blk, set_next, new_next, len_s, ldW_c, ldA_c, stB_c, toArr_one, size_one, toList_toArr, size_toArr, List.length_cons, List.length_nil, List.getElem?_cons_zero, List.getElem?_cons_succ, Nat.zero_add, Nat.add_zero, h3', hb.at_]
        refine gT.of (fun h4' => ?_) (fun h4' => ?_) <;> (have h4 := h4'; try simp only [decide_eq_true_eq, decide_eq_false_iff_not, beq_iff_eq, bne_iff_ne, beq_eq_false_iff_ne, ne_eq, Bool.not_eq_true', Bool.not_eq_false', bne_eq_false_iff_eq, Int.not_lt, Int.not_le] at h4)
        · try simp only [go_sem, Int.reduceBEq, Int.reduceBNe, Int.reduceNeg, reduceCtorEq, Nat.reduceEqDiff, Nat.reduceAdd, Nat.reduceLeDiff, Nat.reduceMul, Nat.reduceSub, Int.reduceToNat, Int.reduceLT, Int.reduceLE, load_w, load_a, store_b, idxS_b, set_blk, new_blk, set_next, new_next, len_s, ldW_c, ldA_c, stB_c, toArr_one, size_one, toList_toArr, size_toArr, List.length_cons, List.length_nil, List.getElem?_cons_zero, List.getElem?_cons_succ, Nat.zero_add, Nat.add_zero, h4']
          exact ⟨chk_no fun h => h4 h.2.2.2.1, hx⟩
        · have hc : p.cores >>> 16 = 0#32 := Decidable.not_not.1 h4
          have hpk := hp.keep hx
          try simp only [go_sem, Int.reduceBEq, Int.reduceBNe, Int.reduceNeg, reduceCtorEq, Nat.reduceEqDiff, Nat.reduceAdd, Nat.reduceLeDiff, Nat.reduceMul, Nat.reduceSub, Int.reduceToNat, Int.reduceLT, Int.reduceLE, load_w, load_a, store_b, idxS_b, set_blk, new_blk, set_next, new_next, len_s, ldW_c, ldA_c, stB_c, toArr_one, size_one, toList_toArr, size_toArr, List.length_cons, List.length_nil, List.getElem?_cons_zero, List.getElem?_cons_succ, Nat.zero_add, Nat.add_zero, h4', hb.at_, hpk.len]
          refine WL.of (fun n e m' => ∃ i : Nat, i ≤ p.places.length ∧ n = p.places.length - i ∧ e = [(1, pt m.next), (27, pv), (28, .int .i64 p.places.length), (29, .int .i64 i)] ∧ (∀ j, j < i → plC p j) ∧ Ext m1 m') p.places.length
            ⟨0, by omega, by omega, by simp only [go_sem, Int.reduceBEq, Int.reduceBNe, Int.reduceNeg, reduceCtorEq, Nat.reduceEqDiff, Nat.reduceAdd, Nat.reduceLeDiff, Nat.reduceMul, Nat.reduceSub, Int.reduceToNat, Int.reduceLT, Int.reduceLE] <;> rfl, fun d hd => by omega, Ext.refl _⟩ ?_
          rintro _ _ m2 ⟨i, hi, rfl, rfl, hall, hx2⟩
          have hp2 := hpk.keep hx2
          have hb2 := hb.keep hx2
          simp only [RB.plan_Check_2, pt, go_sem, Int.reduceBEq, Int.reduceBNe, Int.reduceNeg, reduceCtorEq, Nat.reduceEqDiff, Nat.reduceAdd, Nat.reduceLeDiff, Nat.reduceMul, Nat.reduceSub, Int.reduceToNat, Int.reduceLT, Int.reduceLE]
          refine gT.of (fun h5' => ?_) (fun h5' => ?_) <;> (have h5 := h5'; try simp only [decide_eq_true_eq, decide_eq_false_iff_not, beq_iff_eq, bne_iff_ne, beq_eq_false_iff_ne, ne_eq, Bool.not_eq_true', Bool.not_eq_false', bne_eq_false_iff_eq, Int.not_lt, Int.not_le] at h5)
          · have hil : i < p.places.length := by omega
            obtain ⟨b, o, qv, a1, a2, a3, a4, a5⟩ := hp2.elem hil
            have hprev : ∀ h : 0 < i, ∃ b' o', aIdxS 4 pv (.int .i64 (i - 1 : Nat)) = some (.pointer (some ⟨b', o', none⟩)) ∧ ∀ m', Ext m2 m' → aLoad false 1 m' (.pointer (some ⟨b', o', none⟩)) = some (.int .i64 (p.places[i - 1]'(by omega)).unit) := fun h => hp2.prev (by omega)
            have bad : ¬ (placeP p p.places[i] ∧ ∀ h : 0 < i, (p.places[i - 1]'(by omega)).unit < p.places[i].unit) → ¬ CheckP p := fun h h2 => h (let ⟨_, g⟩ := h2.2.2.2.2.1 i hil; g)
            have good : (placeP p p.places[i] ∧ ∀ h : 0 < i, (p.places[i - 1]'(by omega)).unit < p.places[i].unit) → ∀ j, j < i + 1 → plC p j := by
              intro h j hj
              by_cases e : j = i
              · subst e; exact ⟨hil, h⟩
              · exact hall j (by omega)
            have hpl := hl.pcs _ (List.getElem_mem hil)
            have n2 := hb2.ne
            generalize p.places[i] = x at *
            simp only [plV] at a2
            try simp only [go_sem, Int.reduceBEq, Int.reduceBNe, Int.reduceNeg, reduceCtorEq, Nat.reduceEqDiff, Nat.reduceAdd, Nat.reduceLeDiff, Nat.reduceMul, Nat.reduceSub, Int.reduceToNat, Int.reduceLT, Int.reduceLE, load_w, load_a, store_b, idxS_b, set_blk, new_blk, set_next, new_next, len_s, ldW_c, ldA_c, stB_c, toArr_one, size_one, toList_toArr, size_toArr, List.length_cons, List.length_nil, List.getElem?_cons_zero, List.getElem?_cons_succ, Nat.zero_add, Nat.add_zero, hb2.at_, a1, a2, n2, a4.one]
            have hx3 : Ext m2 (m2.new (.cells [.int .i64 x.unit, .int .i64 x.share, .int .i64 x.core, qv] (some 4))) := Ext.new
            have hb3 : Bk (m2.new (.cells [.int .i64 x.unit, .int .i64 x.share, .int .i64 x.core, qv] (some 4))) m2.next [.int .i64 x.unit, .int .i64 x.share, .int .i64 x.core, qv] 4 := Bk.new
            generalize m2.new (.cells [.int .i64 x.unit, .int .i64 x.share, .int .i64 x.core, qv] (some 4)) = m3 at hx3 hb3 ⊢
            have hp3 := hp2.keep hx3
            have hc3 := hb2.keep hx3
            try simp only [go_sem, Int.reduceBEq, Int.reduceBNe, Int.reduceNeg, reduceCtorEq, Nat.reduceEqDiff, Nat.reduceAdd, Nat.reduceLeDiff, Nat.reduceMul, Nat.reduceSub, Int.reduceToNat, Int.reduceLT, Int.reduceLE, load_w, load_a, store_b, idxS_b, set_blk, new_blk, set_next, new_next, len_s, ldW_c, ldA_c, stB_c, toArr_one, size_one, toList_toArr, size_toArr, List.length_cons, List.length_nil, List.getElem?_cons_zero, List.getElem?_cons_succ, Nat.zero_add, Nat.add_zero, hc3.at_, hb3.at_]
            refine gC.of (place_spec (p := p) (x := x) ⟨pv, rfl, hp3⟩ ⟨qv, rfl, a4.keep hx3⟩ hpl) ?_
            rintro _ m4 ⟨rfl, hx4⟩
            simp only [go_sem, Int.reduceBEq, Int.reduceBNe, Int.reduceNeg, reduceCtorEq, Nat.reduceEqDiff, Nat.reduceAdd, Nat.reduceLeDiff, Nat.reduceMul, Nat.reduceSub, Int.reduceToNat, Int.reduceLT, Int.reduceLE]
            have hb4 := hb3.keep hx4
            have hc4 := hc3.keep hx4
            have hx24 := hx3.trans hx4
            try simp only [go_sem, Int.reduceBEq, Int.reduceBNe, Int.reduceNeg, reduceCtorEq, Nat.reduceEqDiff, Nat.reduceAdd, Nat.reduceLeDiff, Nat.reduceMul, Nat.reduceSub, Int.reduceToNat, Int.reduceLT, Int.reduceLE, load_w, load_a, store_b, idxS_b, set_blk, new_blk, set_next, new_next, len_s, ldW_c, ldA_c, stB_c, toArr_one, size_one, toList_toArr, size_toArr, List.length_cons, List.length_nil, List.getElem?_cons_zero, List.getElem?_cons_succ, Nat.zero_add, Nat.add_zero, hc3.at_, hb3.at_, hb4.at_, hc4.at_]
            refine gT.of (fun h6' => ?_) (fun h6' => ?_) <;> (have h6 := h6'; try simp only [decide_eq_true_eq, decide_eq_false_iff_not, beq_iff_eq, bne_iff_ne, beq_eq_false_iff_ne, ne_eq, Bool.not_eq_true', Bool.not_eq_false', bne_eq_false_iff_eq, Int.not_lt, Int.not_le] at h6)
            · try simp only [go_sem, Int.reduceBEq, Int.reduceBNe, Int.reduceNeg, reduceCtorEq, Nat.reduceEqDiff, Nat.reduceAdd, Nat.reduceLeDiff, Nat.reduceMul, Nat.reduceSub, Int.reduceToNat, Int.reduceLT, Int.reduceLE, load_w, load_a, store_b, idxS_b, set_blk, new_blk, set_next, new_next, len_s, ldW_c, ldA_c, stB_c, toArr_one, size_one, toList_toArr, size_toArr, List.length_cons, List.length_nil, List.getElem?_cons_zero, List.getElem?_cons_succ, Nat.zero_add, Nat.add_zero, h6']
              exact ⟨chk_no (bad fun h => h6 h.1), hx.trans (hx2.trans hx24)⟩
            · have h6 : placeP p x := by simpa using h6'
              try simp only [go_sem, Int.reduceBEq, Int.reduceBNe, Int.reduceNeg, reduceCtorEq, Nat.reduceEqDiff, Nat.reduceAdd, Nat.reduceLeDiff, Nat.reduceMul, Nat.reduceSub, Int.reduceToNat, Int.reduceLT, Int.reduceLE, load_w, load_a, store_b, idxS_b, set_blk, new_blk, set_next, new_next, len_s, ldW_c, ldA_c, stB_c, toArr_one, size_one, toList_toArr, size_toArr, List.length_cons, List.length_nil, List.getElem?_cons_zero, List.getElem?_cons_succ, Nat.zero_add, Nat.add_zero, h6', hb4.at_, hc4.at_]
              refine gT.of (fun h7' => ?_) (fun h7' => ?_) <;> (have h7 := h7'; try simp only [decide_eq_true_eq, decide_eq_false_iff_not, beq_iff_eq, bne_iff_ne, beq_eq_false_iff_ne, ne_eq, Bool.not_eq_true', Bool.not_eq_false', bne_eq_false_iff_eq, Int.not_lt, Int.not_le] at h7)
              · obtain ⟨b', o', c1, c2⟩ := hprev (by omega)
                try simp only [go_sem, Int.reduceBEq, Int.reduceBNe, Int.reduceNeg, reduceCtorEq, Nat.reduceEqDiff, Nat.reduceAdd, Nat.reduceLeDiff, Nat.reduceMul, Nat.reduceSub, Int.reduceToNat, Int.reduceLT, Int.reduceLE, load_w, load_a, store_b, idxS_b, set_blk, new_blk, set_next, new_next, len_s, ldW_c, ldA_c, stB_c, toArr_one, size_one, toList_toArr, size_toArr, List.length_cons, List.length_nil, List.getElem?_cons_zero, List.getElem?_cons_succ, Nat.zero_add, Nat.add_zero, h7', hb4.at_, hc4.at_, sub1 (show 0 < i by omega) (show i < 1000000 by have := hl.len; omega), c1, c2 _ hx24]
                refine gT.of (fun h8' => ?_) (fun h8' => ?_) <;> (have h8 := h8'; try simp only [decide_eq_true_eq, decide_eq_false_iff_not, beq_iff_eq, bne_iff_ne, beq_eq_false_iff_ne, ne_eq, Bool.not_eq_true', Bool.not_eq_false', bne_eq_false_iff_eq, Int.not_lt, Int.not_le] at h8)
                · try simp only [go_sem, Int.reduceBEq, Int.reduceBNe, Int.reduceNeg, reduceCtorEq, Nat.reduceEqDiff, Nat.reduceAdd, Nat.reduceLeDiff, Nat.reduceMul, Nat.reduceSub, Int.reduceToNat, Int.reduceLT, Int.reduceLE, load_w, load_a, store_b, idxS_b, set_blk, new_blk, set_next, new_next, len_s, ldW_c, ldA_c, stB_c, toArr_one, size_one, toList_toArr, size_toArr, List.length_cons, List.length_nil, List.getElem?_cons_zero, List.getElem?_cons_succ, Nat.zero_add, Nat.add_zero, h8']
                  exact ⟨chk_no (bad fun h => by have := h.2 (by omega); omega), hx.trans (hx2.trans hx24)⟩
                · try simp only [go_sem, Int.reduceBEq, Int.reduceBNe, Int.reduceNeg, reduceCtorEq, Nat.reduceEqDiff, Nat.reduceAdd, Nat.reduceLeDiff, Nat.reduceMul, Nat.reduceSub, Int.reduceToNat, Int.reduceLT, Int.reduceLE, load_w, load_a, store_b, idxS_b, set_blk, new_blk, set_next, new_next, len_s, ldW_c, ldA_c, stB_c, toArr_one, size_one, toList_toArr, size_toArr, List.length_cons, List.length_nil, List.getElem?_cons_zero, List.getElem?_cons_succ, Nat.zero_add, Nat.add_zero, h8', step1 (show i < 1000000 by have := hl.len; omega)]
                  exact ⟨p.places.length - (i + 1), by omega, i + 1, by omega, rfl, rfl, good ⟨h6, fun h => by omega⟩, hx2.trans hx24⟩
              · try simp only [go_sem, Int.reduceBEq, Int.reduceBNe, Int.reduceNeg, reduceCtorEq, Nat.reduceEqDiff, Nat.reduceAdd, Nat.reduceLeDiff, Nat.reduceMul, Nat.reduceSub, Int.reduceToNat, Int.reduceLT, Int.reduceLE, load_w, load_a, store_b, idxS_b, set_blk, new_blk, set_next, new_next, len_s, ldW_c, ldA_c, stB_c, toArr_one, size_one, toList_toArr, size_toArr, List.length_cons, List.length_nil, List.getElem?_cons_zero, List.getElem?_cons_succ, Nat.zero_add, Nat.add_zero, h7', step1 (show i < 1000000 by have := hl.len; omega)]
                exact ⟨p.places.length - (i + 1), by omega, i + 1, by omega, rfl, rfl, good ⟨h6, fun h => by omega⟩, hx2.trans hx24⟩
          · have hi : i = p.places.length := by omega
            subst hi
            have hr := plC_r (by omega) (by omega) hl hall
            try simp only [go_sem, Int.reduceBEq, Int.reduceBNe, Int.reduceNeg, reduceCtorEq, Nat.reduceEqDiff, Nat.reduceAdd, Nat.reduceLeDiff, Nat.reduceMul, Nat.reduceSub, Int.reduceToNat, Int.reduceLT, Int.reduceLE, load_w, load_a, store_b, idxS_b, set_blk, new_blk, set_next, new_next, len_s, ldW_c, ldA_c, stB_c, toArr_one, size_one, toList_toArr, size_toArr, List.length_cons, List.length_nil, List.getElem?_cons_zero, List.getElem?_cons_succ, Nat.zero_add, Nat.add_zero, h5', hb2.at_]
            refine gC.of (apart_spec (p := p) ⟨pv, rfl, hp2⟩ hl.len hl.pcs (plC_cores hall)) ?_
            rintro _ m3 ⟨rfl, hx3⟩
            simp only [go_sem, Int.reduceBEq, Int.reduceBNe, Int.reduceNeg, reduceCtorEq, Nat.reduceEqDiff, Nat.reduceAdd, Nat.reduceLeDiff, Nat.reduceMul, Nat.reduceSub, Int.reduceToNat, Int.reduceLT, Int.reduceLE]
            have hb3 := hb2.keep hx3
            have hp3 := hp2.keep hx3
            try simp only [go_sem, Int.reduceBEq, Int.reduceBNe, Int.reduceNeg, reduceCtorEq, Nat.reduceEqDiff, Nat.reduceAdd, Nat.reduceLeDiff, Nat.reduceMul, Nat.reduceSub, Int.reduceToNat, Int.reduceLT, Int.reduceLE, load_w, load_a, store_b, idxS_b, set_blk, new_blk, set_next, new_next, len_s, ldW_c, ldA_c, stB_c, toArr_one, size_one, toList_toArr, size_toArr, List.length_cons, List.length_nil, List.getElem?_cons_zero, List.getElem?_cons_succ, Nat.zero_add, Nat.add_zero, hb3.at_, hb2.at_]
            refine gT.of (fun h6' => ?_) (fun h6' => ?_) <;> (have h6 := h6'; try simp only [decide_eq_true_eq, decide_eq_false_iff_not, beq_iff_eq, bne_iff_ne, beq_eq_false_iff_ne, ne_eq, Bool.not_eq_true', Bool.not_eq_false', bne_eq_false_iff_eq, Int.not_lt, Int.not_le] at h6)
            · try simp only [go_sem, Int.reduceBEq, Int.reduceBNe, Int.reduceNeg, reduceCtorEq, Nat.reduceEqDiff, Nat.reduceAdd, Nat.reduceLeDiff, Nat.reduceMul, Nat.reduceSub, Int.reduceToNat, Int.reduceLT, Int.reduceLE, load_w, load_a, store_b, idxS_b, set_blk, new_blk, set_next, new_next, len_s, ldW_c, ldA_c, stB_c, toArr_one, size_one, toList_toArr, size_toArr, List.length_cons, List.length_nil, List.getElem?_cons_zero, List.getElem?_cons_succ, Nat.zero_add, Nat.add_zero, h6']
              exact ⟨chk_no fun h => h6 h.2.2.2.2.2.1, hx.trans (hx2.trans hx3)⟩
            · have h6 : apartP (preP p.places p.places.length) := by simpa using h6'
              try simp only [go_sem, Int.reduceBEq, Int.reduceBNe, Int.reduceNeg, reduceCtorEq, Nat.reduceEqDiff, Nat.reduceAdd, Nat.reduceLeDiff, Nat.reduceMul, Nat.reduceSub, Int.reduceToNat, Int.reduceLT, Int.reduceLE, load_w, load_a, store_b, idxS_b, set_blk, new_blk, set_next, new_next, len_s, ldW_c, ldA_c, stB_c, toArr_one, size_one, toList_toArr, size_toArr, List.length_cons, List.length_nil, List.getElem?_cons_zero, List.getElem?_cons_succ, Nat.zero_add, Nat.add_zero, h6', hb3.at_]
              refine gC.of (Splits_spec (p := p) ⟨pv, rfl, hp3⟩ hl.len) ?_
              rintro _ m4 ⟨rfl, hx4⟩
              simp only [go_sem, Int.reduceBEq, Int.reduceBNe, Int.reduceNeg, reduceCtorEq, Nat.reduceEqDiff, Nat.reduceAdd, Nat.reduceLeDiff, Nat.reduceMul, Nat.reduceSub, Int.reduceToNat, Int.reduceLT, Int.reduceLE]
              have hb4 := hb3.keep hx4
              have hp4 := hp3.keep hx4
              try simp only [go_sem, Int.reduceBEq, Int.reduceBNe, Int.reduceNeg, reduceCtorEq, Nat.reduceEqDiff, Nat.reduceAdd, Nat.reduceLeDiff, Nat.reduceMul, Nat.reduceSub, Int.reduceToNat, Int.reduceLT, Int.reduceLE, load_w, load_a, store_b, idxS_b, set_blk, new_blk, set_next, new_next, len_s, ldW_c, ldA_c, stB_c, toArr_one, size_one, toList_toArr, size_toArr, List.length_cons, List.length_nil, List.getElem?_cons_zero, List.getElem?_cons_succ, Nat.zero_add, Nat.add_zero, hb3.at_, hb4.at_]
              refine gC.of (Cores_spec (p := p) ⟨pv, rfl, hp4⟩) ?_
              rintro w m5 ⟨ho, hx5⟩
              have hb5 := hb4.keep hx5
              have hp5 := hp4.keep hx5
              try simp only [go_sem, Int.reduceBEq, Int.reduceBNe, Int.reduceNeg, reduceCtorEq, Nat.reduceEqDiff, Nat.reduceAdd, Nat.reduceLeDiff, Nat.reduceMul, Nat.reduceSub, Int.reduceToNat, Int.reduceLT, Int.reduceLE, load_w, load_a, store_b, idxS_b, set_blk, new_blk, set_next, new_next, len_s, ldW_c, ldA_c, stB_c, toArr_one, size_one, toList_toArr, size_toArr, List.length_cons, List.length_nil, List.getElem?_cons_zero, List.getElem?_cons_succ, Nat.zero_add, Nat.add_zero, hb4.at_, hb5.at_, ho.sl.len]
              refine gT.of (fun h7' => ?_) (fun h7' => ?_) <;> (have h7 := h7'; try simp only [decide_eq_true_eq, decide_eq_false_iff_not, beq_iff_eq, bne_iff_ne, beq_eq_false_iff_ne, ne_eq, Bool.not_eq_true', Bool.not_eq_false', bne_eq_false_iff_eq, Int.not_lt, Int.not_le] at h7)
              · try simp only [go_sem, Int.reduceBEq, Int.reduceBNe, Int.reduceNeg, reduceCtorEq, Nat.reduceEqDiff, Nat.reduceAdd, Nat.reduceLeDiff, Nat.reduceMul, Nat.reduceSub, Int.reduceToNat, Int.reduceLT, Int.reduceLE, load_w, load_a, store_b, idxS_b, set_blk, new_blk, set_next, new_next, len_s, ldW_c, ldA_c, stB_c, toArr_one, size_one, toList_toArr, size_toArr, List.length_cons, List.length_nil, List.getElem?_cons_zero, List.getElem?_cons_succ, Nat.zero_add, Nat.add_zero, h7']
                exact ⟨chk_no fun h => by have := h.2.2.2.2.2.2.1; omega, hx.trans (hx2.trans (hx3.trans (hx4.trans hx5)))⟩
              · try simp only [go_sem, Int.reduceBEq, Int.reduceBNe, Int.reduceNeg, reduceCtorEq, Nat.reduceEqDiff, Nat.reduceAdd, Nat.reduceLeDiff, Nat.reduceMul, Nat.reduceSub, Int.reduceToNat, Int.reduceLT, Int.reduceLE, load_w, load_a, store_b, idxS_b, set_blk, new_blk, set_next, new_next, len_s, ldW_c, ldA_c, stB_c, toArr_one, size_one, toList_toArr, size_toArr, List.length_cons, List.length_nil, List.getElem?_cons_zero, List.getElem?_cons_succ, Nat.zero_add, Nat.add_zero, h7', hb5.at_]
                refine gC.of (Cores_spec (p := p) ⟨pv, rfl, hp5⟩) ?_
                rintro w2 m6 ⟨ho6, hx6⟩
                have hsl := ho6.sl
                have hlt := ho6.lt
                have hlen := csP_len (p := p) (n := 16)
                try simp only [go_sem, Int.reduceBEq, Int.reduceBNe, Int.reduceNeg, reduceCtorEq, Nat.reduceEqDiff, Nat.reduceAdd, Nat.reduceLeDiff, Nat.reduceMul, Nat.reduceSub, Int.reduceToNat, Int.reduceLT, Int.reduceLE, load_w, load_a, store_b, idxS_b, set_blk, new_blk, set_next, new_next, len_s, ldW_c, ldA_c, stB_c, toArr_one, size_one, toList_toArr, size_toArr, List.length_cons, List.length_nil, List.getElem?_cons_zero, List.getElem?_cons_succ, Nat.zero_add, Nat.add_zero, hsl.len]
                refine WL.of (fun n e m' => ∃ k : Nat, k ≤ (csP p 16).length ∧ n = (csP p 16).length - k ∧ e = [(1, pt m.next), (67, w2), (68, .int .i64 (csP p 16).length), (69, .int .i64 k)] ∧ (∀ c ∈ (csP p 16).take k, 0 ≤ leftP p (c : Nat)) ∧ Ext m6 m') (csP p 16).length
                  ⟨0, by omega, by omega, by simp only [go_sem, Int.reduceBEq, Int.reduceBNe, Int.reduceNeg, reduceCtorEq, Nat.reduceEqDiff, Nat.reduceAdd, Nat.reduceLeDiff, Nat.reduceMul, Nat.reduceSub, Int.reduceToNat, Int.reduceLT, Int.reduceLE] <;> rfl, by simp, Ext.refl _⟩ ?_
                rintro _ _ m7 ⟨k, hk, rfl, rfl, hld, hx7⟩
                have hb7 := (hb5.keep hx6).keep hx7
                have hp7 := (hp5.keep hx6).keep hx7
                have hsl7 := hsl.keep hlt hx7
                simp only [RB.plan_Check_1, pt, go_sem, Int.reduceBEq, Int.reduceBNe, Int.reduceNeg, reduceCtorEq, Nat.reduceEqDiff, Nat.reduceAdd, Nat.reduceLeDiff, Nat.reduceMul, Nat.reduceSub, Int.reduceToNat, Int.reduceLT, Int.reduceLE]
                refine gT.of (fun h8' => ?_) (fun h8' => ?_) <;> (have h8 := h8'; try simp only [decide_eq_true_eq, decide_eq_false_iff_not, beq_iff_eq, bne_iff_ne, beq_eq_false_iff_ne, ne_eq, Bool.not_eq_true', Bool.not_eq_false', bne_eq_false_iff_eq, Int.not_lt, Int.not_le] at h8)
                · have hkl : k < (csP p 16).length := by omega
                  obtain ⟨q, e1, e2⟩ := hsl7.get (k := .i64) (i := k) hkl
                  rw [ints_get hkl] at e2
                  have hsn : (csP p 16).take (k + 1) = (csP p 16).take k ++ [(csP p 16)[k]] := List.take_succ_eq_append_getElem hkl
                  have hmm : (csP p 16)[k] ∈ csP p 16 := List.getElem_mem hkl
                  generalize (csP p 16)[k] = c at *
                  try simp only [go_sem, Int.reduceBEq, Int.reduceBNe, Int.reduceNeg, reduceCtorEq, Nat.reduceEqDiff, Nat.reduceAdd, Nat.reduceLeDiff, Nat.reduceMul, Nat.reduceSub, Int.reduceToNat, Int.reduceLT, Int.reduceLE, load_w, load_a, store_b, idxS_b, set_blk, new_blk, set_next, new_next, len_s, ldW_c, ldA_c, stB_c, toArr_one, size_one, toList_toArr, size_toArr, List.length_cons, List.length_nil, List.getElem?_cons_zero, List.getElem?_cons_succ, Nat.zero_add, Nat.add_zero, hb7.at_, e1, e2]
                  refine gC.of (left_spec (p := p) (c := c) ⟨pv, rfl, hp7⟩ hr) ?_
                  rintro _ m8 ⟨rfl, hx8⟩
                  simp only [go_sem, Int.reduceBEq, Int.reduceBNe, Int.reduceNeg, reduceCtorEq, Nat.reduceEqDiff, Nat.reduceAdd, Nat.reduceLeDiff, Nat.reduceMul, Nat.reduceSub, Int.reduceToNat, Int.reduceLT, Int.reduceLE]
                  have hb8 := hb7.keep hx8
                  try simp only [go_sem, Int.reduceBEq, Int.reduceBNe, Int.reduceNeg, reduceCtorEq, Nat.reduceEqDiff, Nat.reduceAdd, Nat.reduceLeDiff, Nat.reduceMul, Nat.reduceSub, Int.reduceToNat, Int.reduceLT, Int.reduceLE, load_w, load_a, store_b, idxS_b, set_blk, new_blk, set_next, new_next, len_s, ldW_c, ldA_c, stB_c, toArr_one, size_one, toList_toArr, size_toArr, List.length_cons, List.length_nil, List.getElem?_cons_zero, List.getElem?_cons_succ, Nat.zero_add, Nat.add_zero, hb7.at_, hb8.at_]
                  refine gT.of (fun h9' => ?_) (fun h9' => ?_) <;> (have h9 := h9'; try simp only [decide_eq_true_eq, decide_eq_false_iff_not, beq_iff_eq, bne_iff_ne, beq_eq_false_iff_ne, ne_eq, Bool.not_eq_true', Bool.not_eq_false', bne_eq_false_iff_eq, Int.not_lt, Int.not_le] at h9)
                  · try simp only [go_sem, Int.reduceBEq, Int.reduceBNe, Int.reduceNeg, reduceCtorEq, Nat.reduceEqDiff, Nat.reduceAdd, Nat.reduceLeDiff, Nat.reduceMul, Nat.reduceSub, Int.reduceToNat, Int.reduceLT, Int.reduceLE, load_w, load_a, store_b, idxS_b, set_blk, new_blk, set_next, new_next, len_s, ldW_c, ldA_c, stB_c, toArr_one, size_one, toList_toArr, size_toArr, List.length_cons, List.length_nil, List.getElem?_cons_zero, List.getElem?_cons_succ, Nat.zero_add, Nat.add_zero, h9']
                    exact ⟨chk_no fun h => by have := h.2.2.2.2.2.2.2 c hmm; omega, hx.trans (hx2.trans (hx3.trans (hx4.trans (hx5.trans (hx6.trans (hx7.trans hx8))))))⟩
                  · try simp only [go_sem, Int.reduceBEq, Int.reduceBNe, Int.reduceNeg, reduceCtorEq, Nat.reduceEqDiff, Nat.reduceAdd, Nat.reduceLeDiff, Nat.reduceMul, Nat.reduceSub, Int.reduceToNat, Int.reduceLT, Int.reduceLE, load_w, load_a, store_b, idxS_b, set_blk, new_blk, set_next, new_next, len_s, ldW_c, ldA_c, stB_c, toArr_one, size_one, toList_toArr, size_toArr, List.length_cons, List.length_nil, List.getElem?_cons_zero, List.getElem?_cons_succ, Nat.zero_add, Nat.add_zero, h9', step1 (show k < 1000000 by omega)]
                    refine ⟨(csP p 16).length - (k + 1), by omega, k + 1, by omega, rfl, rfl, ?_, hx7.trans hx8⟩
                    intro c' hc'
                    rw [hsn] at hc'
                    rcases List.mem_append.1 hc' with h | h
                    · exact hld c' h
                    · rw [List.mem_singleton.1 h]; omega
                · try simp only [go_sem, Int.reduceBEq, Int.reduceBNe, Int.reduceNeg, reduceCtorEq, Nat.reduceEqDiff, Nat.reduceAdd, Nat.reduceLeDiff, Nat.reduceMul, Nat.reduceSub, Int.reduceToNat, Int.reduceLT, Int.reduceLE, load_w, load_a, store_b, idxS_b, set_blk, new_blk, set_next, new_next, len_s, ldW_c, ldA_c, stB_c, toArr_one, size_one, toList_toArr, size_toArr, List.length_cons, List.length_nil, List.getElem?_cons_zero, List.getElem?_cons_succ, Nat.zero_add, Nat.add_zero, h8']
                  rw [List.take_of_length_le (by omega)] at hld
                  exact ⟨chk_yes ⟨by omega, by omega, h3, hc, hall, h6, by omega, hld⟩, hx.trans (hx2.trans (hx3.trans (hx4.trans (hx5.trans (hx6.trans hx7)))))⟩
end Go.Am


/- PlanX4 over the table of stage (relayset.py). -/
set_option linter.unusedVariables false
set_option linter.unusedSimpArgs false
namespace Go.Am
open Classical
variable {m : Mem}

theorem sc_u64 {x y : BitVec 64} : scalEq .int (u64 x) (u64 y) = some (decide (x = y)) := by
  unfold u64
  rw [sc_int]
  congr 1
  rw [Bool.eq_iff_iff, beq_iff_eq, decide_eq_true_eq]
  constructor
  · intro h; apply BitVec.eq_of_toNat_eq; omega
  · intro h; rw [h]
attribute [go_sem] sc_u64

theorem Equal_spec {l k : List Pc} {v w : Value} (hs : PcV m l v) (ht : PcV m k w) (hl : l.length < 1000000) (hk : k.length < 1000000) :
    WC R F.slices_Equal_api_Piece_api_Piece [v, w] m fun r m' => r = .bool (decide (l = k)) ∧ m' = m := by
  refine WC.of R.slices_Equal_api_Piece_api_Piece rfl ?_
  simp only [RC.slices_Equal_api_Piece_api_Piece, go_sem, Int.reduceBEq, Int.reduceBNe, Int.reduceNeg, reduceCtorEq, Nat.reduceEqDiff, Nat.reduceAdd, Nat.reduceLeDiff, Nat.reduceMul, Nat.reduceSub, Int.reduceToNat, Int.reduceLT, Int.reduceLE, hs.len, ht.len]
  refine gT.of (fun h' => ?_) (fun h' => ?_) <;> (have h := h'; try simp only [decide_eq_true_eq, decide_eq_false_iff_not, beq_iff_eq, bne_iff_ne, beq_eq_false_iff_ne, ne_eq, Bool.not_eq_true', Bool.not_eq_false', bne_eq_false_iff_eq, Int.not_lt, Int.not_le] at h)
  · have : l ≠ k := by rintro rfl; exact h rfl
    try simp only [go_sem, Int.reduceBEq, Int.reduceBNe, Int.reduceNeg, reduceCtorEq, Nat.reduceEqDiff, Nat.reduceAdd, Nat.reduceLeDiff, Nat.reduceMul, Nat.reduceSub, Int.reduceToNat, Int.reduceLT, Int.reduceLE, load_w, load_a, store_b, idxS_b, set_blk, new_blk, set_next, new_next, len_s, ldW_c, ldA_c, stB_c, toArr_one, size_one, toList_toArr, size_toArr, List.length_cons, List.length_nil, List.getElem?_cons_zero, List.getElem?_cons_succ, Nat.zero_add, Nat.add_zero, h']
    simp [this]
  · have hlk : l.length = k.length := by have := h; omega
    try simp only [go_sem, Int.reduceBEq, Int.reduceBNe, Int.reduceNeg, reduceCtorEq, Nat.reduceEqDiff, Nat.reduceAdd, Nat.reduceLeDiff, Nat.reduceMul, Nat.reduceSub, Int.reduceToNat, Int.reduceLT, Int.reduceLE, load_w, load_a, store_b, idxS_b, set_blk, new_blk, set_next, new_next, len_s, ldW_c, ldA_c, stB_c, toArr_one, size_one, toList_toArr, size_toArr, List.length_cons, List.length_nil, List.getElem?_cons_zero, List.getElem?_cons_succ, Nat.zero_add, Nat.add_zero, h', hs.len]
    refine WL.of (fun n e m' => ∃ i : Nat, i ≤ l.length ∧ n = l.length - i ∧ e = [(0, v), (1, w), (12, .int .i64 l.length), (13, .int .i64 i)] ∧ (∀ j (h1 : j < l.length) (h2 : j < k.length), j < i → l[j] = k[j]) ∧ m' = m) l.length
      ⟨0, by omega, by omega, by simp only [go_sem, Int.reduceBEq, Int.reduceBNe, Int.reduceNeg, reduceCtorEq, Nat.reduceEqDiff, Nat.reduceAdd, Nat.reduceLeDiff, Nat.reduceMul, Nat.reduceSub, Int.reduceToNat, Int.reduceLT, Int.reduceLE] <;> rfl, fun _ _ _ h => by omega, rfl⟩ ?_
    rintro _ _ _ ⟨i, hi, rfl, rfl, hj, hm⟩
    replace hm := hm.symm
    subst hm
    simp only [RB.slices_Equal_api_Piece_api_Piece_1, go_sem, Int.reduceBEq, Int.reduceBNe, Int.reduceNeg, reduceCtorEq, Nat.reduceEqDiff, Nat.reduceAdd, Nat.reduceLeDiff, Nat.reduceMul, Nat.reduceSub, Int.reduceToNat, Int.reduceLT, Int.reduceLE]
    refine gT.of (fun h2' => ?_) (fun h2' => ?_) <;> (have h2 := h2'; try simp only [decide_eq_true_eq, decide_eq_false_iff_not, beq_iff_eq, bne_iff_ne, beq_eq_false_iff_ne, ne_eq, Bool.not_eq_true', Bool.not_eq_false', bne_eq_false_iff_eq, Int.not_lt, Int.not_le] at h2)
    · have hil : i < l.length := by omega
      have hik : i < k.length := by omega
      obtain ⟨b, o, a1, a2, a3, a4⟩ := hs.elem hil
      obtain ⟨b', o', c1, c2, c3, c4⟩ := ht.elem hik
      simp only [pcV] at a2 c2
      try simp only [go_sem, Int.reduceBEq, Int.reduceBNe, Int.reduceNeg, reduceCtorEq, Nat.reduceEqDiff, Nat.reduceAdd, Nat.reduceLeDiff, Nat.reduceMul, Nat.reduceSub, Int.reduceToNat, Int.reduceLT, Int.reduceLE, load_w, load_a, store_b, idxS_b, set_blk, new_blk, set_next, new_next, len_s, ldW_c, ldA_c, stB_c, toArr_one, size_one, toList_toArr, size_toArr, List.length_cons, List.length_nil, List.getElem?_cons_zero, List.getElem?_cons_succ, Nat.zero_add, Nat.add_zero, h2', a1, a2, c1, c2]
      refine gT.of (fun h3 => ?_) (fun h3 => ?_)
      · have : l ≠ k := by
          rintro rfl
          simp at h3
        try simp only [go_sem, Int.reduceBEq, Int.reduceBNe, Int.reduceNeg, reduceCtorEq, Nat.reduceEqDiff, Nat.reduceAdd, Nat.reduceLeDiff, Nat.reduceMul, Nat.reduceSub, Int.reduceToNat, Int.reduceLT, Int.reduceLE, load_w, load_a, store_b, idxS_b, set_blk, new_blk, set_next, new_next, len_s, ldW_c, ldA_c, stB_c, toArr_one, size_one, toList_toArr, size_toArr, List.length_cons, List.length_nil, List.getElem?_cons_zero, List.getElem?_cons_succ, Nat.zero_add, Nat.add_zero, h3]
        simp [this]
      · have h4 : l[i] = k[i] := by
          apply Prod.ext
          · simp at h3; exact h3.1
          · simp at h3; exact h3.2
        try simp only [go_sem, Int.reduceBEq, Int.reduceBNe, Int.reduceNeg, reduceCtorEq, Nat.reduceEqDiff, Nat.reduceAdd, Nat.reduceLeDiff, Nat.reduceMul, Nat.reduceSub, Int.reduceToNat, Int.reduceLT, Int.reduceLE, load_w, load_a, store_b, idxS_b, set_blk, new_blk, set_next, new_next, len_s, ldW_c, ldA_c, stB_c, toArr_one, size_one, toList_toArr, size_toArr, List.length_cons, List.length_nil, List.getElem?_cons_zero, List.getElem?_cons_succ, Nat.zero_add, Nat.add_zero, h3, step1 (show i < 1000000 by omega)]
        refine ⟨l.length - (i + 1), by omega, i + 1, by omega, rfl, rfl, ?_⟩
        intro j g1 g2 g3
        by_cases e : j = i
        · subst e; exact h4
        · exact hj j g1 g2 (by omega)
    · have : l = k := List.ext_getElem hlk fun j g1 g2 => hj j g1 g2 (by omega)
      try simp only [go_sem, Int.reduceBEq, Int.reduceBNe, Int.reduceNeg, reduceCtorEq, Nat.reduceEqDiff, Nat.reduceAdd, Nat.reduceLeDiff, Nat.reduceMul, Nat.reduceSub, Int.reduceToNat, Int.reduceLT, Int.reduceLE, load_w, load_a, store_b, idxS_b, set_blk, new_blk, set_next, new_next, len_s, ldW_c, ldA_c, stB_c, toArr_one, size_one, toList_toArr, size_toArr, List.length_cons, List.length_nil, List.getElem?_cons_zero, List.getElem?_cons_succ, Nat.zero_add, Nat.add_zero, h2']
      simp [this]

theorem SamePlace_spec {x y : Pl} {v w : Value} (hv : PlV m x v) (hw : PlV m y w) (hl : x.pieces.length < 1000000) (hk : y.pieces.length < 1000000) :
    WC R F.plan_SamePlace [v, w] m fun r m' => r = .bool (decide (x = y)) ∧ Ext m m' := by
  refine WC.of R.plan_SamePlace rfl ?_
  obtain ⟨pv, rfl, hp⟩ := hv
  obtain ⟨qv, rfl, hq⟩ := hw
  have hex : x = y ↔ x.unit = y.unit ∧ x.share = y.share ∧ x.core = y.core ∧ x.pieces = y.pieces := by
    cases x; cases y; simp
  simp only [RC.plan_SamePlace, plV, go_sem, Int.reduceBEq, Int.reduceBNe, Int.reduceNeg, reduceCtorEq, Nat.reduceEqDiff, Nat.reduceAdd, Nat.reduceLeDiff, Nat.reduceMul, Nat.reduceSub, Int.reduceToNat, Int.reduceLT, Int.reduceLE, hp.one, hq.one]
  have hx : Ext m (m.new (.cells [.int .i64 x.unit, .int .i64 x.share, .int .i64 x.core, pv] (some 4))) := Ext.new
  have hb : Bk (m.new (.cells [.int .i64 x.unit, .int .i64 x.share, .int .i64 x.core, pv] (some 4))) m.next [.int .i64 x.unit, .int .i64 x.share, .int .i64 x.core, pv] 4 := Bk.new
  generalize m.new (.cells [.int .i64 x.unit, .int .i64 x.share, .int .i64 x.core, pv] (some 4)) = m1 at hx hb ⊢
  have hx2 : Ext m1 (m1.new (.cells [.int .i64 y.unit, .int .i64 y.share, .int .i64 y.core, qv] (some 4))) := Ext.new
  have hb2 : Bk (m1.new (.cells [.int .i64 y.unit, .int .i64 y.share, .int .i64 y.core, qv] (some 4))) m1.next [.int .i64 y.unit, .int .i64 y.share, .int .i64 y.core, qv] 4 := Bk.new
  generalize m1.new (.cells [.int .i64 y.unit, .int .i64 y.share, .int .i64 y.core, qv] (some 4)) = m2 at hx2 hb2 ⊢
  have hb := hb.keep hx2
  have hp := (hp.keep hx).keep hx2
  have hq := (hq.keep hx).keep hx2
  have hX := hx.trans hx2
  try simp only [go_sem, Int.reduceBEq, Int.reduceBNe, Int.reduceNeg, reduceCtorEq, Nat.reduceEqDiff, Nat.reduceAdd, Nat.reduceLeDiff, Nat.reduceMul, Nat.reduceSub, Int.reduceToNat, Int.reduceLT, Int.reduceLE, load_w, load_a, store_b, idxS_b, set_blk, new_blk, set_next, new_next, len_s, ldW_c, ldA_c, stB_c, toArr_one, size_one, toList_toArr, size_toArr, List.length_cons, List.length_nil, List.getElem?_cons_zero, List.getElem?_cons_succ, Nat.zero_add, Nat.add_zero, hb.at_, hb2.at_]
  refine gT.of (fun h1' => ?_) (fun h1' => ?_) <;> (have h1 := h1'; try simp only [decide_eq_true_eq, decide_eq_false_iff_not, beq_iff_eq, bne_iff_ne, beq_eq_false_iff_ne, ne_eq, Bool.not_eq_true', Bool.not_eq_false', bne_eq_false_iff_eq, Int.not_lt, Int.not_le] at h1)
  · try simp only [go_sem, Int.reduceBEq, Int.reduceBNe, Int.reduceNeg, reduceCtorEq, Nat.reduceEqDiff, Nat.reduceAdd, Nat.reduceLeDiff, Nat.reduceMul, Nat.reduceSub, Int.reduceToNat, Int.reduceLT, Int.reduceLE, load_w, load_a, store_b, idxS_b, set_blk, new_blk, set_next, new_next, len_s, ldW_c, ldA_c, stB_c, toArr_one, size_one, toList_toArr, size_toArr, List.length_cons, List.length_nil, List.getElem?_cons_zero, List.getElem?_cons_succ, Nat.zero_add, Nat.add_zero, h1', hb.at_, hb2.at_]
    refine gT.of (fun h2' => ?_) (fun h2' => ?_) <;> (have h2 := h2'; try simp only [decide_eq_true_eq, decide_eq_false_iff_not, beq_iff_eq, bne_iff_ne, beq_eq_false_iff_ne, ne_eq, Bool.not_eq_true', Bool.not_eq_false', bne_eq_false_iff_eq, Int.not_lt, Int.not_le] at h2)
    · try simp only [go_sem, Int.reduceBEq, Int.reduceBNe, Int.reduceNeg, reduceCtorEq, Nat.reduceEqDiff, Nat.reduceAdd, Nat.reduceLeDiff, Nat.reduceMul, Nat.reduceSub, Int.reduceToNat, Int.reduceLT, Int.reduceLE, load_w, load_a, store_b, idxS_b, set_blk, new_blk, set_next, new_next, len_s, ldW_c, ldA_c, stB_c, toArr_one, size_one, toList_toArr, size_toArr, List.length_cons, List.length_nil, List.getElem?_cons_zero, List.getElem?_cons_succ, Nat.zero_add, Nat.add_zero, h2', hb.at_, hb2.at_]
      refine gT.of (fun h3' => ?_) (fun h3' => ?_) <;> (have h3 := h3'; try simp only [decide_eq_true_eq, decide_eq_false_iff_not, beq_iff_eq, bne_iff_ne, beq_eq_false_iff_ne, ne_eq, Bool.not_eq_true', Bool.not_eq_false', bne_eq_false_iff_eq, Int.not_lt, Int.not_le] at h3)
      · try simp only [go_sem, Int.reduceBEq, Int.reduceBNe, Int.reduceNeg, reduceCtorEq, Nat.reduceEqDiff, Nat.reduceAdd, Nat.reduceLeDiff, Nat.reduceMul, Nat.reduceSub, Int.reduceToNat, Int.reduceLT, Int.reduceLE, load_w, load_a, store_b, idxS_b, set_blk, new_blk, set_next, new_next, len_s, ldW_c, ldA_c, stB_c, toArr_one, size_one, toList_toArr, size_toArr, List.length_cons, List.length_nil, List.getElem?_cons_zero, List.getElem?_cons_succ, Nat.zero_add, Nat.add_zero, h3', hb.at_, hb2.at_]
        refine gC.of (Equal_spec hp hq hl hk) ?_
        rintro _ m_ ⟨rfl, hm_⟩
        replace hm_ := hm_.symm
        subst hm_
        simp only [go_sem, Int.reduceBEq, Int.reduceBNe, Int.reduceNeg, reduceCtorEq, Nat.reduceEqDiff, Nat.reduceAdd, Nat.reduceLeDiff, Nat.reduceMul, Nat.reduceSub, Int.reduceToNat, Int.reduceLT, Int.reduceLE]
        try simp only [go_sem, Int.reduceBEq, Int.reduceBNe, Int.reduceNeg, reduceCtorEq, Nat.reduceEqDiff, Nat.reduceAdd, Nat.reduceLeDiff, Nat.reduceMul, Nat.reduceSub, Int.reduceToNat, Int.reduceLT, Int.reduceLE, load_w, load_a, store_b, idxS_b, set_blk, new_blk, set_next, new_next, len_s, ldW_c, ldA_c, stB_c, toArr_one, size_one, toList_toArr, size_toArr, List.length_cons, List.length_nil, List.getElem?_cons_zero, List.getElem?_cons_succ, Nat.zero_add, Nat.add_zero]
        refine ⟨?_, hX⟩
        congr 1
        exact decide_eq_decide.2 ⟨fun h => hex.2 ⟨h1, h2, h3, h⟩, fun h => (hex.1 h).2.2.2⟩
      · try simp only [go_sem, Int.reduceBEq, Int.reduceBNe, Int.reduceNeg, reduceCtorEq, Nat.reduceEqDiff, Nat.reduceAdd, Nat.reduceLeDiff, Nat.reduceMul, Nat.reduceSub, Int.reduceToNat, Int.reduceLT, Int.reduceLE, load_w, load_a, store_b, idxS_b, set_blk, new_blk, set_next, new_next, len_s, ldW_c, ldA_c, stB_c, toArr_one, size_one, toList_toArr, size_toArr, List.length_cons, List.length_nil, List.getElem?_cons_zero, List.getElem?_cons_succ, Nat.zero_add, Nat.add_zero, h3']
        exact ⟨fin_no fun h => h3 (hex.1 h).2.2.1, hX⟩
    · try simp only [go_sem, Int.reduceBEq, Int.reduceBNe, Int.reduceNeg, reduceCtorEq, Nat.reduceEqDiff, Nat.reduceAdd, Nat.reduceLeDiff, Nat.reduceMul, Nat.reduceSub, Int.reduceToNat, Int.reduceLT, Int.reduceLE, load_w, load_a, store_b, idxS_b, set_blk, new_blk, set_next, new_next, len_s, ldW_c, ldA_c, stB_c, toArr_one, size_one, toList_toArr, size_toArr, List.length_cons, List.length_nil, List.getElem?_cons_zero, List.getElem?_cons_succ, Nat.zero_add, Nat.add_zero, h2']
      exact ⟨fin_no fun h => h2 (hex.1 h).2.1, hX⟩
  · try simp only [go_sem, Int.reduceBEq, Int.reduceBNe, Int.reduceNeg, reduceCtorEq, Nat.reduceEqDiff, Nat.reduceAdd, Nat.reduceLeDiff, Nat.reduceMul, Nat.reduceSub, Int.reduceToNat, Int.reduceLT, Int.reduceLE, load_w, load_a, store_b, idxS_b, set_blk, new_blk, set_next, new_next, len_s, ldW_c, ldA_c, stB_c, toArr_one, size_one, toList_toArr, size_toArr, List.length_cons, List.length_nil, List.getElem?_cons_zero, List.getElem?_cons_succ, Nat.zero_add, Nat.add_zero, h1']
    exact ⟨fin_no fun h => h1 (hex.1 h).1, hX⟩

theorem refSamePlace_spec {x y : Pl} {v w : Value} (hv : PlV m x v) (hw : PlV m y w) (hl : x.pieces.length < 1000000) (hk : y.pieces.length < 1000000) :
    WC R F.ref16_SamePlace [v, w] m fun r m' => r = .bool (decide (x = y)) ∧ Ext m m' := by
  refine WC.of R.ref16_SamePlace rfl ?_
  obtain ⟨pv, rfl, hp⟩ := hv
  obtain ⟨qv, rfl, hq⟩ := hw
  have hex : x = y ↔ x.unit = y.unit ∧ x.share = y.share ∧ x.core = y.core ∧ x.pieces = y.pieces := by
    cases x; cases y; simp
  simp only [RC.ref16_SamePlace, plV, go_sem, Int.reduceBEq, Int.reduceBNe, Int.reduceNeg, reduceCtorEq, Nat.reduceEqDiff, Nat.reduceAdd, Nat.reduceLeDiff, Nat.reduceMul, Nat.reduceSub, Int.reduceToNat, Int.reduceLT, Int.reduceLE, hp.one, hq.one]
  have hx : Ext m (m.new (.cells [.int .i64 x.unit, .int .i64 x.share, .int .i64 x.core, pv] (some 4))) := Ext.new
  have hb : Bk (m.new (.cells [.int .i64 x.unit, .int .i64 x.share, .int .i64 x.core, pv] (some 4))) m.next [.int .i64 x.unit, .int .i64 x.share, .int .i64 x.core, pv] 4 := Bk.new
  generalize m.new (.cells [.int .i64 x.unit, .int .i64 x.share, .int .i64 x.core, pv] (some 4)) = m1 at hx hb ⊢
  have hx2 : Ext m1 (m1.new (.cells [.int .i64 y.unit, .int .i64 y.share, .int .i64 y.core, qv] (some 4))) := Ext.new
  have hb2 : Bk (m1.new (.cells [.int .i64 y.unit, .int .i64 y.share, .int .i64 y.core, qv] (some 4))) m1.next [.int .i64 y.unit, .int .i64 y.share, .int .i64 y.core, qv] 4 := Bk.new
  generalize m1.new (.cells [.int .i64 y.unit, .int .i64 y.share, .int .i64 y.core, qv] (some 4)) = m2 at hx2 hb2 ⊢
  have hb := hb.keep hx2
  have hp := (hp.keep hx).keep hx2
  have hq := (hq.keep hx).keep hx2
  have hX := hx.trans hx2
  try simp only [go_sem, Int.reduceBEq, Int.reduceBNe, Int.reduceNeg, reduceCtorEq, Nat.reduceEqDiff, Nat.reduceAdd, Nat.reduceLeDiff, Nat.reduceMul, Nat.reduceSub, Int.reduceToNat, Int.reduceLT, Int.reduceLE, load_w, load_a, store_b, idxS_b, set_blk, new_blk, set_next, new_next, len_s, ldW_c, ldA_c, stB_c, toArr_one, size_one, toList_toArr, size_toArr, List.length_cons, List.length_nil, List.getElem?_cons_zero, List.getElem?_cons_succ, Nat.zero_add, Nat.add_zero, hb.at_, hb2.at_]
  refine gT.of (fun h1' => ?_) (fun h1' => ?_) <;> (have h1 := h1'; try simp only [decide_eq_true_eq, decide_eq_false_iff_not, beq_iff_eq, bne_iff_ne, beq_eq_false_iff_ne, ne_eq, Bool.not_eq_true', Bool.not_eq_false', bne_eq_false_iff_eq, Int.not_lt, Int.not_le] at h1)
  · try simp only [go_sem, Int.reduceBEq, Int.reduceBNe, Int.reduceNeg, reduceCtorEq, Nat.reduceEqDiff, Nat.reduceAdd, Nat.reduceLeDiff, Nat.reduceMul, Nat.reduceSub, Int.reduceToNat, Int.reduceLT, Int.reduceLE, load_w, load_a, store_b, idxS_b, set_blk, new_blk, set_next, new_next, len_s, ldW_c, ldA_c, stB_c, toArr_one, size_one, toList_toArr, size_toArr, List.length_cons, List.length_nil, List.getElem?_cons_zero, List.getElem?_cons_succ, Nat.zero_add, Nat.add_zero, h1']
    exact ⟨fin_no fun h => h1 (hex.1 h).1, hX⟩
  · try simp only [go_sem, Int.reduceBEq, Int.reduceBNe, Int.reduceNeg, reduceCtorEq, Nat.reduceEqDiff, Nat.reduceAdd, Nat.reduceLeDiff, Nat.reduceMul, Nat.reduceSub, Int.reduceToNat, Int.reduceLT, Int.reduceLE, load_w, load_a, store_b, idxS_b, set_blk, new_blk, set_next, new_next, len_s, ldW_c, ldA_c, stB_c, toArr_one, size_one, toList_toArr, size_toArr, List.length_cons, List.length_nil, List.getElem?_cons_zero, List.getElem?_cons_succ, Nat.zero_add, Nat.add_zero, h1', hb.at_, hb2.at_]
    refine gT.of (fun h2' => ?_) (fun h2' => ?_) <;> (have h2 := h2'; try simp only [decide_eq_true_eq, decide_eq_false_iff_not, beq_iff_eq, bne_iff_ne, beq_eq_false_iff_ne, ne_eq, Bool.not_eq_true', Bool.not_eq_false', bne_eq_false_iff_eq, Int.not_lt, Int.not_le] at h2)
    · try simp only [go_sem, Int.reduceBEq, Int.reduceBNe, Int.reduceNeg, reduceCtorEq, Nat.reduceEqDiff, Nat.reduceAdd, Nat.reduceLeDiff, Nat.reduceMul, Nat.reduceSub, Int.reduceToNat, Int.reduceLT, Int.reduceLE, load_w, load_a, store_b, idxS_b, set_blk, new_blk, set_next, new_next, len_s, ldW_c, ldA_c, stB_c, toArr_one, size_one, toList_toArr, size_toArr, List.length_cons, List.length_nil, List.getElem?_cons_zero, List.getElem?_cons_succ, Nat.zero_add, Nat.add_zero, h2']
      exact ⟨fin_no fun h => h2 (hex.1 h).2.1, hX⟩
    · try simp only [go_sem, Int.reduceBEq, Int.reduceBNe, Int.reduceNeg, reduceCtorEq, Nat.reduceEqDiff, Nat.reduceAdd, Nat.reduceLeDiff, Nat.reduceMul, Nat.reduceSub, Int.reduceToNat, Int.reduceLT, Int.reduceLE, load_w, load_a, store_b, idxS_b, set_blk, new_blk, set_next, new_next, len_s, ldW_c, ldA_c, stB_c, toArr_one, size_one, toList_toArr, size_toArr, List.length_cons, List.length_nil, List.getElem?_cons_zero, List.getElem?_cons_succ, Nat.zero_add, Nat.add_zero, h2', hb.at_, hb2.at_]
      refine gT.of (fun h3' => ?_) (fun h3' => ?_) <;> (have h3 := h3'; try simp only [decide_eq_true_eq, decide_eq_false_iff_not, beq_iff_eq, bne_iff_ne, beq_eq_false_iff_ne, ne_eq, Bool.not_eq_true', Bool.not_eq_false', bne_eq_false_iff_eq, Int.not_lt, Int.not_le] at h3)
      · try simp only [go_sem, Int.reduceBEq, Int.reduceBNe, Int.reduceNeg, reduceCtorEq, Nat.reduceEqDiff, Nat.reduceAdd, Nat.reduceLeDiff, Nat.reduceMul, Nat.reduceSub, Int.reduceToNat, Int.reduceLT, Int.reduceLE, load_w, load_a, store_b, idxS_b, set_blk, new_blk, set_next, new_next, len_s, ldW_c, ldA_c, stB_c, toArr_one, size_one, toList_toArr, size_toArr, List.length_cons, List.length_nil, List.getElem?_cons_zero, List.getElem?_cons_succ, Nat.zero_add, Nat.add_zero, h3']
        exact ⟨fin_no fun h => h3 (hex.1 h).2.2.1, hX⟩
      · try simp only [go_sem, Int.reduceBEq, Int.reduceBNe, Int.reduceNeg, reduceCtorEq, Nat.reduceEqDiff, Nat.reduceAdd, Nat.reduceLeDiff, Nat.reduceMul, Nat.reduceSub, Int.reduceToNat, Int.reduceLT, Int.reduceLE, load_w, load_a, store_b, idxS_b, set_blk, new_blk, set_next, new_next, len_s, ldW_c, ldA_c, stB_c, toArr_one, size_one, toList_toArr, size_toArr, List.length_cons, List.length_nil, List.getElem?_cons_zero, List.getElem?_cons_succ, Nat.zero_add, Nat.add_zero, h3', hb.at_, hb2.at_, hp.len, hq.len]
        refine gT.of (fun h4' => ?_) (fun h4' => ?_) <;> (have h4 := h4'; try simp only [decide_eq_true_eq, decide_eq_false_iff_not, beq_iff_eq, bne_iff_ne, beq_eq_false_iff_ne, ne_eq, Bool.not_eq_true', Bool.not_eq_false', bne_eq_false_iff_eq, Int.not_lt, Int.not_le] at h4)
        · try simp only [go_sem, Int.reduceBEq, Int.reduceBNe, Int.reduceNeg, reduceCtorEq, Nat.reduceEqDiff, Nat.reduceAdd, Nat.reduceLeDiff, Nat.reduceMul, Nat.reduceSub, Int.reduceToNat, Int.reduceLT, Int.reduceLE, load_w, load_a, store_b, idxS_b, set_blk, new_blk, set_next, new_next, len_s, ldW_c, ldA_c, stB_c, toArr_one, size_one, toList_toArr, size_toArr, List.length_cons, List.length_nil, List.getElem?_cons_zero, List.getElem?_cons_succ, Nat.zero_add, Nat.add_zero, h4']
          exact ⟨fin_no fun h => h4 (by rw [(hex.1 h).2.2.2]), hX⟩
        · have hlk : x.pieces.length = y.pieces.length := by have := h4; omega
          try simp only [go_sem, Int.reduceBEq, Int.reduceBNe, Int.reduceNeg, reduceCtorEq, Nat.reduceEqDiff, Nat.reduceAdd, Nat.reduceLeDiff, Nat.reduceMul, Nat.reduceSub, Int.reduceToNat, Int.reduceLT, Int.reduceLE, load_w, load_a, store_b, idxS_b, set_blk, new_blk, set_next, new_next, len_s, ldW_c, ldA_c, stB_c, toArr_one, size_one, toList_toArr, size_toArr, List.length_cons, List.length_nil, List.getElem?_cons_zero, List.getElem?_cons_succ, Nat.zero_add, Nat.add_zero, h4']
          refine WL.of (fun n e m' => ∃ i : Nat, i ≤ x.pieces.length ∧ n = x.pieces.length - i ∧ e = [(2, pt m.next), (3, pt m1.next), (5, .int .i64 i)] ∧ (∀ j (h1 : j < x.pieces.length) (h2 : j < y.pieces.length), j < i → x.pieces[j] = y.pieces[j]) ∧ m' = m2) x.pieces.length
            ⟨0, by omega, by omega, by simp only [go_sem, Int.reduceBEq, Int.reduceBNe, Int.reduceNeg, reduceCtorEq, Nat.reduceEqDiff, Nat.reduceAdd, Nat.reduceLeDiff, Nat.reduceMul, Nat.reduceSub, Int.reduceToNat, Int.reduceLT, Int.reduceLE] <;> rfl, fun _ _ _ h => by omega, rfl⟩ ?_
          rintro _ _ _ ⟨i, hi, rfl, rfl, hj, hm⟩
          replace hm := hm.symm
          subst hm
          simp only [RB.ref16_SamePlace_1, pt, go_sem, Int.reduceBEq, Int.reduceBNe, Int.reduceNeg, reduceCtorEq, Nat.reduceEqDiff, Nat.reduceAdd, Nat.reduceLeDiff, Nat.reduceMul, Nat.reduceSub, Int.reduceToNat, Int.reduceLT, Int.reduceLE, load_w, load_a, store_b, idxS_b, set_blk, new_blk, set_next, new_next, len_s, ldW_c, ldA_c, stB_c, toArr_one, size_one, toList_toArr, size_toArr, List.length_cons, List.length_nil, List.getElem?_cons_zero, List.getElem?_cons_succ, Nat.zero_add, Nat.add_zero, hb.at_, hp.len]
          refine gT.of (fun h5' => ?_) (fun h5' => ?_) <;> (have h5 := h5'; try simp only [decide_eq_true_eq, decide_eq_false_iff_not, beq_iff_eq, bne_iff_ne, beq_eq_false_iff_ne, ne_eq, Bool.not_eq_true', Bool.not_eq_false', bne_eq_false_iff_eq, Int.not_lt, Int.not_le] at h5)
          · have hil : i < x.pieces.length := by omega
            have hik : i < y.pieces.length := by omega
            obtain ⟨b, o, a1, a2, a3, a4⟩ := hp.elem hil
            obtain ⟨b', o', c1, c2, c3, c4⟩ := hq.elem hik
            simp only [pcV] at a2 c2
            try simp only [go_sem, Int.reduceBEq, Int.reduceBNe, Int.reduceNeg, reduceCtorEq, Nat.reduceEqDiff, Nat.reduceAdd, Nat.reduceLeDiff, Nat.reduceMul, Nat.reduceSub, Int.reduceToNat, Int.reduceLT, Int.reduceLE, load_w, load_a, store_b, idxS_b, set_blk, new_blk, set_next, new_next, len_s, ldW_c, ldA_c, stB_c, toArr_one, size_one, toList_toArr, size_toArr, List.length_cons, List.length_nil, List.getElem?_cons_zero, List.getElem?_cons_succ, Nat.zero_add, Nat.add_zero, h5', a1, a2, c1, c2, hb.at_, hb2.at_]
            refine gT.of (fun h6 => ?_) (fun h6 => ?_)
            · have : x ≠ y := by
                rintro rfl
                simp at h6
              try simp only [go_sem, Int.reduceBEq, Int.reduceBNe, Int.reduceNeg, reduceCtorEq, Nat.reduceEqDiff, Nat.reduceAdd, Nat.reduceLeDiff, Nat.reduceMul, Nat.reduceSub, Int.reduceToNat, Int.reduceLT, Int.reduceLE, load_w, load_a, store_b, idxS_b, set_blk, new_blk, set_next, new_next, len_s, ldW_c, ldA_c, stB_c, toArr_one, size_one, toList_toArr, size_toArr, List.length_cons, List.length_nil, List.getElem?_cons_zero, List.getElem?_cons_succ, Nat.zero_add, Nat.add_zero, h6]
              exact ⟨fin_no this, hX⟩
            · have h7 : x.pieces[i] = y.pieces[i] := by
                apply Prod.ext
                · simp at h6; exact h6.1
                · simp at h6; exact h6.2
              try simp only [go_sem, Int.reduceBEq, Int.reduceBNe, Int.reduceNeg, reduceCtorEq, Nat.reduceEqDiff, Nat.reduceAdd, Nat.reduceLeDiff, Nat.reduceMul, Nat.reduceSub, Int.reduceToNat, Int.reduceLT, Int.reduceLE, load_w, load_a, store_b, idxS_b, set_blk, new_blk, set_next, new_next, len_s, ldW_c, ldA_c, stB_c, toArr_one, size_one, toList_toArr, size_toArr, List.length_cons, List.length_nil, List.getElem?_cons_zero, List.getElem?_cons_succ, Nat.zero_add, Nat.add_zero, h6, step1 (show i < 1000000 by omega)]
              refine ⟨x.pieces.length - (i + 1), by omega, i + 1, by omega, rfl, rfl, ?_⟩
              intro j g1 g2 g3
              by_cases e : j = i
              · subst e; exact h7
              · exact hj j g1 g2 (by omega)
          · have : x.pieces = y.pieces := List.ext_getElem hlk fun j g1 g2 => hj j g1 g2 (by omega)
            try simp only [go_sem, Int.reduceBEq, Int.reduceBNe, Int.reduceNeg, reduceCtorEq, Nat.reduceEqDiff, Nat.reduceAdd, Nat.reduceLeDiff, Nat.reduceMul, Nat.reduceSub, Int.reduceToNat, Int.reduceLT, Int.reduceLE, load_w, load_a, store_b, idxS_b, set_blk, new_blk, set_next, new_next, len_s, ldW_c, ldA_c, stB_c, toArr_one, size_one, toList_toArr, size_toArr, List.length_cons, List.length_nil, List.getElem?_cons_zero, List.getElem?_cons_succ, Nat.zero_add, Nat.add_zero, h5']
            exact ⟨fin_yes (hex.2 ⟨h1, h2, h3, this⟩), hX⟩
end Go.Am


/- What putting behind a slice touches: its own block alone. -/
set_option linter.unusedVariables false
namespace Go.Am

/-- The block of a slice. -/
def vb : Value → List Nat
  | .slice (some a) _ _ => [a.block]
  | _ => []

theorem SlOff.vb_iff {v : Value} {fp : List Nat} : SlOff fp v ↔ ∀ b ∈ vb v, b ∉ fp := by
  unfold SlOff vb
  split <;> simp
theorem SlLt.vb_iff {m : Mem} {v : Value} : SlLt m v ↔ ∀ b ∈ vb v, b < m.next := by
  unfold SlLt vb
  split <;> simp

theorem Upd.new_of {m m' : Mem} {fp : List Nat} {o : AObj} (h : Upd m m' fp) : Upd m (m'.new o) fp :=
  ⟨Nat.le_trans h.next (by simp [Mem.new]), fun b hb hn => by
    have := h.next
    rw [← h.same b hb hn]
    simp only [Mem.new]
    rw [if_neg (by omega)]⟩

theorem aWrite_upd {m m' : Mem} {b o : Nat} {xs : List Value} (h : aWrite m b o xs = some m') : Upd m m' [b] ∧ m'.next = m.next := by
  unfold aWrite at h
  split at h
  · split at h
    · cases h; exact ⟨Upd.set (by simp), rfl⟩
    · cases h
  · cases h

theorem app_upd {u by_ : Nat} {m m' : Mem} {v v' x : Value} (h : aApp none u by_ m v x = some (v', m')) : Upd m m' (vb v) ∧ (vb v' = vb v ∨ vb v' = [m.next]) := by
  unfold aApp at h
  rw [Option.bind_eq_some_iff] at h
  obtain ⟨n, hn, h⟩ := h
  rw [Option.bind_eq_some_iff] at h
  obtain ⟨xs, hxs, h⟩ := h
  split at h
  · split at h
    · cases h; exact ⟨Upd.refl _ _, .inl rfl⟩
    · split at h
      · simp only [place] at h
        cases h
        exact ⟨(Upd.refl _ _).new_of, .inr rfl⟩
      · cases h
  · split at h
    · split at h
      · cases h; exact ⟨Upd.refl _ _, .inl rfl⟩
      · cases h
    · split at h
      · rw [Option.map_eq_some_iff] at h
        obtain ⟨m1, h1, h2⟩ := h
        cases h2
        exact ⟨(aWrite_upd h1).1, .inl rfl⟩
      · split at h
        · split at h
          · simp only [place] at h
            cases h
            refine ⟨?_, .inr ?_⟩
            · split
              · exact (Upd.set (by simp [vb])).new_of
              · exact (Upd.refl _ _).new_of
            · split <;> rfl
          · cases h
        · cases h
  · cases h
/-- A function value is called. -/
def gV (R : Nat → Option FEnt) (fv : Value) (vs : List Value) (m : Mem) (Q : Value → Mem → Prop) (_ : Ph Q := ph) : Prop := ∃ f a b, fv = .func (.func f) a b ∧ WC R f (a.toList ++ vs ++ b.toList) m Q
theorem a_callv {R : Nat → Option FEnt} {at_ : Option Nat} {e : Env} {m : Mem} {Q : Value → Mem → Prop} {x : X} {xs : List X} : gpA R at_ e m (.callv x xs) Q = Got (x.ev e) fun fv => Got (evs e xs) fun vs => gV R fv vs m Q := by
  refine propext ⟨?_, ?_⟩
  · rintro ⟨f, a, b, vs, h1, h2, h3⟩; exact ⟨_, h1, _, h2, f, a, b, rfl, h3⟩
  · rintro ⟨_, h1, vs, h2, f, a, b, rfl, h3⟩; exact ⟨f, a, b, vs, h1, h2, h3⟩
theorem gV_func {R : Nat → Option FEnt} {m : Mem} {Q : Value → Mem → Prop} {f : Nat} {vs : List Value} : gV R (.func (.func f) #[] #[]) vs m Q = gC R f vs m Q := by
  refine propext ⟨?_, fun h => ⟨f, #[], #[], rfl, by have h : WC R f vs m Q := h; simpa using h⟩⟩
  rintro ⟨_, _, _, h, k⟩
  cases h
  show WC R f vs m Q
  simpa using k
attribute [go_sem] a_callv gV_func

theorem gV.of {R : Nat → Option FEnt} {fv : Value} {vs : List Value} {m : Mem} {Q Q' : Value → Mem → Prop} (h : gV R fv vs m Q') (k : ∀ v m', Q' v m' → Q v m') : gV R fv vs m Q := by
  obtain ⟨f, a, b, rfl, h2⟩ := h
  exact ⟨f, a, b, rfl, h2.mono k⟩
theorem gV_cap {R : Nat → Option FEnt} {m : Mem} {Q : Value → Mem → Prop} {f : Nat} {vs : List Value} {c : Value} : gV R (.func (.func f) #[] #[c]) vs m Q = gC R f (vs ++ [c]) m Q := by
  refine propext ⟨?_, fun h => ⟨f, #[], #[c], rfl, by have h : WC R f (vs ++ [c]) m Q := h; simpa using h⟩⟩
  rintro ⟨_, _, _, h, k⟩
  cases h
  show WC R f (vs ++ [c]) m Q
  simpa using k
theorem Own.updq {m0 m m' : Mem} {u n : Nat} {cs : List Value} {v : Value} {fp : List Nat} (h : Own m0 m u n cs v) (hx : Upd m m' fp) (ho : ∀ b ∈ vb v, b ∉ fp) : Own m0 m' u n cs v := by
  cases h with
  | nil h hc => exact .nil h hc
  | @«at» b c all hb hb2 hn hm hl hcs h1 => exact .at hb (Nat.lt_of_lt_of_le hb2 hx.next) hn (by rw [hx.same b hb2 (ho b (by simp [vb]))]; exact hm) hl hcs h1
end Go.Am


/- PlanX5 over the table of stage (relayset.py). -/
set_option linter.unusedVariables false
set_option linter.unusedSimpArgs false
namespace Go.Am
open Classical
variable {m : Mem}

theorem fin_no2 {P : Prop} [Decidable P] (h : ¬ P) : (Value.bool false = Value.bool (decide P)) := by rw [decide_eq_false h]
theorem fin_yes2 {P : Prop} [Decidable P] (h : P) : (Value.bool true = Value.bool (decide P)) := by rw [decide_eq_true h]

theorem EqualFunc_spec {l k : List Pl} {v w : Value} (hs : PlsV m l v) (ht : PlsV m k w) (hl : l.length < 1000000) (hk : k.length < 1000000) (hl2 : ∀ x ∈ l, x.pieces.length < 1000000) (hk2 : ∀ x ∈ k, x.pieces.length < 1000000) :
    WC R F.slices_EqualFunc_api_Place_api_Place_api_Place_api_Place [v, w, .func (.func F.plan_SamePlace) #[] #[]] m fun r m' => r = .bool (decide (l = k)) ∧ Ext m m' := by
  refine WC.of R.slices_EqualFunc_api_Place_api_Place_api_Place_api_Place rfl ?_
  simp only [RC.slices_EqualFunc_api_Place_api_Place_api_Place_api_Place, go_sem, Int.reduceBEq, Int.reduceBNe, Int.reduceNeg, reduceCtorEq, Nat.reduceEqDiff, Nat.reduceAdd, Nat.reduceLeDiff, Nat.reduceMul, Nat.reduceSub, Int.reduceToNat, Int.reduceLT, Int.reduceLE, hs.len, ht.len]
  refine gT.of (fun h' => ?_) (fun h' => ?_) <;> (have h := h'; try simp only [decide_eq_true_eq, decide_eq_false_iff_not, beq_iff_eq, bne_iff_ne, beq_eq_false_iff_ne, ne_eq, Bool.not_eq_true', Bool.not_eq_false', bne_eq_false_iff_eq, Int.not_lt, Int.not_le] at h)
  · have : l ≠ k := by rintro rfl; exact h rfl
    try simp only [go_sem, Int.reduceBEq, Int.reduceBNe, Int.reduceNeg, reduceCtorEq, Nat.reduceEqDiff, Nat.reduceAdd, Nat.reduceLeDiff, Nat.reduceMul, Nat.reduceSub, Int.reduceToNat, Int.reduceLT, Int.reduceLE, load_w, load_a, store_b, idxS_b, set_blk, new_blk, set_next, new_next, len_s, ldW_c, ldA_c, stB_c, toArr_one, size_one, toList_toArr, size_toArr, List.length_cons, List.length_nil, List.getElem?_cons_zero, List.getElem?_cons_succ, Nat.zero_add, Nat.add_zero, h']
    exact ⟨fin_no2 this, Ext.refl _⟩
  · have hlk : l.length = k.length := by have := h; omega
    try simp only [go_sem, Int.reduceBEq, Int.reduceBNe, Int.reduceNeg, reduceCtorEq, Nat.reduceEqDiff, Nat.reduceAdd, Nat.reduceLeDiff, Nat.reduceMul, Nat.reduceSub, Int.reduceToNat, Int.reduceLT, Int.reduceLE, load_w, load_a, store_b, idxS_b, set_blk, new_blk, set_next, new_next, len_s, ldW_c, ldA_c, stB_c, toArr_one, size_one, toList_toArr, size_toArr, List.length_cons, List.length_nil, List.getElem?_cons_zero, List.getElem?_cons_succ, Nat.zero_add, Nat.add_zero, h', hs.len]
    refine WL.of (fun n e m' => ∃ i : Nat, i ≤ l.length ∧ n = l.length - i ∧ e = [(1, w), (2, .func (.func F.plan_SamePlace) #[] #[]), (15, v), (16, .int .i64 l.length), (17, .int .i64 i)] ∧ (∀ j (h1 : j < l.length) (h2 : j < k.length), j < i → l[j] = k[j]) ∧ Ext m m') l.length
      ⟨0, by omega, by omega, by simp only [go_sem, Int.reduceBEq, Int.reduceBNe, Int.reduceNeg, reduceCtorEq, Nat.reduceEqDiff, Nat.reduceAdd, Nat.reduceLeDiff, Nat.reduceMul, Nat.reduceSub, Int.reduceToNat, Int.reduceLT, Int.reduceLE] <;> rfl, fun _ _ _ h => by omega, Ext.refl _⟩ ?_
    rintro _ _ m1 ⟨i, hi, rfl, rfl, hj, hx⟩
    have hs1 := hs.keep hx
    have ht1 := ht.keep hx
    simp only [RB.slices_EqualFunc_api_Place_api_Place_api_Place_api_Place_1, go_sem, Int.reduceBEq, Int.reduceBNe, Int.reduceNeg, reduceCtorEq, Nat.reduceEqDiff, Nat.reduceAdd, Nat.reduceLeDiff, Nat.reduceMul, Nat.reduceSub, Int.reduceToNat, Int.reduceLT, Int.reduceLE]
    refine gT.of (fun h2' => ?_) (fun h2' => ?_) <;> (have h2 := h2'; try simp only [decide_eq_true_eq, decide_eq_false_iff_not, beq_iff_eq, bne_iff_ne, beq_eq_false_iff_ne, ne_eq, Bool.not_eq_true', Bool.not_eq_false', bne_eq_false_iff_eq, Int.not_lt, Int.not_le] at h2)
    · have hil : i < l.length := by omega
      have hik : i < k.length := by omega
      obtain ⟨b, o, pv, a1, a2, a3, a4, a5⟩ := hs1.elem hil
      obtain ⟨b', o', qv, c1, c2, c3, c4, c5⟩ := ht1.elem hik
      have g1 := hl2 _ (List.getElem_mem hil)
      have g2 := hk2 _ (List.getElem_mem hik)
      have s1 := step1 (show i < 1000000 by omega)
      have bad : l[i] ≠ k[i] → l ≠ k := by rintro h rfl; exact h rfl
      generalize hxx : l[i] = x at *
      generalize hyy : k[i] = y at *
      simp only [plV] at a2 c2
      try simp only [go_sem, Int.reduceBEq, Int.reduceBNe, Int.reduceNeg, reduceCtorEq, Nat.reduceEqDiff, Nat.reduceAdd, Nat.reduceLeDiff, Nat.reduceMul, Nat.reduceSub, Int.reduceToNat, Int.reduceLT, Int.reduceLE, load_w, load_a, store_b, idxS_b, set_blk, new_blk, set_next, new_next, len_s, ldW_c, ldA_c, stB_c, toArr_one, size_one, toList_toArr, size_toArr, List.length_cons, List.length_nil, List.getElem?_cons_zero, List.getElem?_cons_succ, Nat.zero_add, Nat.add_zero, h2', a1, a2, a4.one]
      have hx2 : Ext m1 (m1.new (.cells [.int .i64 x.unit, .int .i64 x.share, .int .i64 x.core, pv] (some 4))) := Ext.new
      have hb2 : Bk (m1.new (.cells [.int .i64 x.unit, .int .i64 x.share, .int .i64 x.core, pv] (some 4))) m1.next [.int .i64 x.unit, .int .i64 x.share, .int .i64 x.core, pv] 4 := Bk.new
      generalize m1.new (.cells [.int .i64 x.unit, .int .i64 x.share, .int .i64 x.core, pv] (some 4)) = m2 at hx2 hb2 ⊢
      rw [← load_ext hx2 c5] at c2
      try simp only [go_sem, Int.reduceBEq, Int.reduceBNe, Int.reduceNeg, reduceCtorEq, Nat.reduceEqDiff, Nat.reduceAdd, Nat.reduceLeDiff, Nat.reduceMul, Nat.reduceSub, Int.reduceToNat, Int.reduceLT, Int.reduceLE, load_w, load_a, store_b, idxS_b, set_blk, new_blk, set_next, new_next, len_s, ldW_c, ldA_c, stB_c, toArr_one, size_one, toList_toArr, size_toArr, List.length_cons, List.length_nil, List.getElem?_cons_zero, List.getElem?_cons_succ, Nat.zero_add, Nat.add_zero, c1, c2, c4.one, hb2.ne, hb2.at_]
      have hx3 : Ext m2 (m2.new (.cells [.int .i64 y.unit, .int .i64 y.share, .int .i64 y.core, qv] (some 4))) := Ext.new
      have hb3 : Bk (m2.new (.cells [.int .i64 y.unit, .int .i64 y.share, .int .i64 y.core, qv] (some 4))) m2.next [.int .i64 y.unit, .int .i64 y.share, .int .i64 y.core, qv] 4 := Bk.new
      generalize m2.new (.cells [.int .i64 y.unit, .int .i64 y.share, .int .i64 y.core, qv] (some 4)) = m3 at hx3 hb3 ⊢
      have hb4 := hb2.keep hx3
      have hx23 := hx2.trans hx3
      try simp only [go_sem, Int.reduceBEq, Int.reduceBNe, Int.reduceNeg, reduceCtorEq, Nat.reduceEqDiff, Nat.reduceAdd, Nat.reduceLeDiff, Nat.reduceMul, Nat.reduceSub, Int.reduceToNat, Int.reduceLT, Int.reduceLE, load_w, load_a, store_b, idxS_b, set_blk, new_blk, set_next, new_next, len_s, ldW_c, ldA_c, stB_c, toArr_one, size_one, toList_toArr, size_toArr, List.length_cons, List.length_nil, List.getElem?_cons_zero, List.getElem?_cons_succ, Nat.zero_add, Nat.add_zero, hb3.at_, hb4.at_]
      refine gC.of (SamePlace_spec (x := x) (y := y) ⟨pv, rfl, a4.keep hx23⟩ ⟨qv, rfl, c4.keep hx23⟩ g1 g2) ?_
      rintro _ m4 ⟨rfl, hx4⟩
      simp only [go_sem, Int.reduceBEq, Int.reduceBNe, Int.reduceNeg, reduceCtorEq, Nat.reduceEqDiff, Nat.reduceAdd, Nat.reduceLeDiff, Nat.reduceMul, Nat.reduceSub, Int.reduceToNat, Int.reduceLT, Int.reduceLE]
      refine gT.of (fun h3' => ?_) (fun h3' => ?_) <;> (have h3 := h3'; try simp only [decide_eq_true_eq, decide_eq_false_iff_not, beq_iff_eq, bne_iff_ne, beq_eq_false_iff_ne, ne_eq, Bool.not_eq_true', Bool.not_eq_false', bne_eq_false_iff_eq, Int.not_lt, Int.not_le] at h3)
      · try simp only [go_sem, Int.reduceBEq, Int.reduceBNe, Int.reduceNeg, reduceCtorEq, Nat.reduceEqDiff, Nat.reduceAdd, Nat.reduceLeDiff, Nat.reduceMul, Nat.reduceSub, Int.reduceToNat, Int.reduceLT, Int.reduceLE, load_w, load_a, store_b, idxS_b, set_blk, new_blk, set_next, new_next, len_s, ldW_c, ldA_c, stB_c, toArr_one, size_one, toList_toArr, size_toArr, List.length_cons, List.length_nil, List.getElem?_cons_zero, List.getElem?_cons_succ, Nat.zero_add, Nat.add_zero, h3']
        exact ⟨fin_no2 (bad h3), hx.trans (hx23.trans hx4)⟩
      · have h4 : x = y := by simpa using h3'
        try simp only [go_sem, Int.reduceBEq, Int.reduceBNe, Int.reduceNeg, reduceCtorEq, Nat.reduceEqDiff, Nat.reduceAdd, Nat.reduceLeDiff, Nat.reduceMul, Nat.reduceSub, Int.reduceToNat, Int.reduceLT, Int.reduceLE, load_w, load_a, store_b, idxS_b, set_blk, new_blk, set_next, new_next, len_s, ldW_c, ldA_c, stB_c, toArr_one, size_one, toList_toArr, size_toArr, List.length_cons, List.length_nil, List.getElem?_cons_zero, List.getElem?_cons_succ, Nat.zero_add, Nat.add_zero, h3', s1]
        refine ⟨l.length - (i + 1), by omega, i + 1, by omega, rfl, rfl, ?_, hx.trans (hx23.trans hx4)⟩
        intro j q1 q2 q3
        by_cases e : j = i
        · subst e; rw [hxx, hyy]; exact h4
        · exact hj j q1 q2 (by omega)
    · have : l = k := List.ext_getElem hlk fun j g1 g2 => hj j g1 g2 (by omega)
      try simp only [go_sem, Int.reduceBEq, Int.reduceBNe, Int.reduceNeg, reduceCtorEq, Nat.reduceEqDiff, Nat.reduceAdd, Nat.reduceLeDiff, Nat.reduceMul, Nat.reduceSub, Int.reduceToNat, Int.reduceLT, Int.reduceLE, load_w, load_a, store_b, idxS_b, set_blk, new_blk, set_next, new_next, len_s, ldW_c, ldA_c, stB_c, toArr_one, size_one, toList_toArr, size_toArr, List.length_cons, List.length_nil, List.getElem?_cons_zero, List.getElem?_cons_succ, Nat.zero_add, Nat.add_zero, h2']
      exact ⟨fin_yes2 this, hx⟩

theorem plan_ext {p q : PlanD} : p = q ↔ p.frame = q.frame ∧ p.cores = q.cores ∧ p.places = q.places := by
  cases p; cases q; simp

theorem Same_spec {p q : PlanD} {v w : Value} (hv : PlanV m p v) (hw : PlanV m q w) (hl : PlanL p) (hk : PlanL q) :
    WC R F.plan_Same [v, w] m fun r m' => r = .bool (decide (p = q)) ∧ Ext m m' := by
  refine WC.of R.plan_Same rfl ?_
  obtain ⟨pv, rfl, hp⟩ := hv
  obtain ⟨qv, rfl, hq⟩ := hw
  simp only [RC.plan_Same, planV, go_sem, Int.reduceBEq, Int.reduceBNe, Int.reduceNeg, reduceCtorEq, Nat.reduceEqDiff, Nat.reduceAdd, Nat.reduceLeDiff, Nat.reduceMul, Nat.reduceSub, Int.reduceToNat, Int.reduceLT, Int.reduceLE, hp.one, hq.one]
  have hx : Ext m (m.new (.cells [.int .i64 p.frame, u32 p.cores, pv] (some 3))) := Ext.new
  have hb : Bk (m.new (.cells [.int .i64 p.frame, u32 p.cores, pv] (some 3))) m.next [.int .i64 p.frame, u32 p.cores, pv] 3 := Bk.new
  generalize m.new (.cells [.int .i64 p.frame, u32 p.cores, pv] (some 3)) = m1 at hx hb ⊢
  have hx2 : Ext m1 (m1.new (.cells [.int .i64 q.frame, u32 q.cores, qv] (some 3))) := Ext.new
  have hb2 : Bk (m1.new (.cells [.int .i64 q.frame, u32 q.cores, qv] (some 3))) m1.next [.int .i64 q.frame, u32 q.cores, qv] 3 := Bk.new
  generalize m1.new (.cells [.int .i64 q.frame, u32 q.cores, qv] (some 3)) = m2 at hx2 hb2 ⊢
  have hb := hb.keep hx2
  have hp := (hp.keep hx).keep hx2
  have hq := (hq.keep hx).keep hx2
  have hX := hx.trans hx2
  try simp only [go_sem, Int.reduceBEq, Int.reduceBNe, Int.reduceNeg, reduceCtorEq, Nat.reduceEqDiff, Nat.reduceAdd, Nat.reduceLeDiff, Nat.reduceMul, Nat.reduceSub, Int.reduceToNat, Int.reduceLT, Int.reduceLE, load_w, load_a, store_b, idxS_b, set_blk, new_blk, set_next, new_next, len_s, ldW_c, ldA_c, stB_c, toArr_one, size_one, toList_toArr, size_toArr, List.length_cons, List.length_nil, List.getElem?_cons_zero, List.getElem?_cons_succ, Nat.zero_add, Nat.add_zero, hb.at_, hb2.at_]
  refine gT.of (fun h1' => ?_) (fun h1' => ?_) <;> (have h1 := h1'; try simp only [decide_eq_true_eq, decide_eq_false_iff_not, beq_iff_eq, bne_iff_ne, beq_eq_false_iff_ne, ne_eq, Bool.not_eq_true', Bool.not_eq_false', bne_eq_false_iff_eq, Int.not_lt, Int.not_le] at h1)
  · try simp only [go_sem, Int.reduceBEq, Int.reduceBNe, Int.reduceNeg, reduceCtorEq, Nat.reduceEqDiff, Nat.reduceAdd, Nat.reduceLeDiff, Nat.reduceMul, Nat.reduceSub, Int.reduceToNat, Int.reduceLT, Int.reduceLE, load_w, load_a, store_b, idxS_b, set_blk, new_blk, set_next, new_next, len_s, ldW_c, ldA_c, stB_c, toArr_one, size_one, toList_toArr, size_toArr, List.length_cons, List.length_nil, List.getElem?_cons_zero, List.getElem?_cons_succ, Nat.zero_add, Nat.add_zero, h1', hb.at_, hb2.at_]
    refine gT.of (fun h2' => ?_) (fun h2' => ?_) <;> (have h2 := h2'; try simp only [decide_eq_true_eq, decide_eq_false_iff_not, beq_iff_eq, bne_iff_ne, beq_eq_false_iff_ne, ne_eq, Bool.not_eq_true', Bool.not_eq_false', bne_eq_false_iff_eq, Int.not_lt, Int.not_le] at h2)
    · try simp only [go_sem, Int.reduceBEq, Int.reduceBNe, Int.reduceNeg, reduceCtorEq, Nat.reduceEqDiff, Nat.reduceAdd, Nat.reduceLeDiff, Nat.reduceMul, Nat.reduceSub, Int.reduceToNat, Int.reduceLT, Int.reduceLE, load_w, load_a, store_b, idxS_b, set_blk, new_blk, set_next, new_next, len_s, ldW_c, ldA_c, stB_c, toArr_one, size_one, toList_toArr, size_toArr, List.length_cons, List.length_nil, List.getElem?_cons_zero, List.getElem?_cons_succ, Nat.zero_add, Nat.add_zero, h2', hb.at_, hb2.at_]
      refine gC.of (EqualFunc_spec hp hq hl.len hk.len hl.pcs hk.pcs) ?_
      rintro _ m3 ⟨rfl, hx3⟩
      simp only [go_sem, Int.reduceBEq, Int.reduceBNe, Int.reduceNeg, reduceCtorEq, Nat.reduceEqDiff, Nat.reduceAdd, Nat.reduceLeDiff, Nat.reduceMul, Nat.reduceSub, Int.reduceToNat, Int.reduceLT, Int.reduceLE]
      try simp only [go_sem, Int.reduceBEq, Int.reduceBNe, Int.reduceNeg, reduceCtorEq, Nat.reduceEqDiff, Nat.reduceAdd, Nat.reduceLeDiff, Nat.reduceMul, Nat.reduceSub, Int.reduceToNat, Int.reduceLT, Int.reduceLE, load_w, load_a, store_b, idxS_b, set_blk, new_blk, set_next, new_next, len_s, ldW_c, ldA_c, stB_c, toArr_one, size_one, toList_toArr, size_toArr, List.length_cons, List.length_nil, List.getElem?_cons_zero, List.getElem?_cons_succ, Nat.zero_add, Nat.add_zero]
      refine ⟨?_, hX.trans hx3⟩
      congr 1
      exact decide_eq_decide.2 ⟨fun h => plan_ext.2 ⟨h1, h2, h⟩, fun h => (plan_ext.1 h).2.2⟩
    · try simp only [go_sem, Int.reduceBEq, Int.reduceBNe, Int.reduceNeg, reduceCtorEq, Nat.reduceEqDiff, Nat.reduceAdd, Nat.reduceLeDiff, Nat.reduceMul, Nat.reduceSub, Int.reduceToNat, Int.reduceLT, Int.reduceLE, load_w, load_a, store_b, idxS_b, set_blk, new_blk, set_next, new_next, len_s, ldW_c, ldA_c, stB_c, toArr_one, size_one, toList_toArr, size_toArr, List.length_cons, List.length_nil, List.getElem?_cons_zero, List.getElem?_cons_succ, Nat.zero_add, Nat.add_zero, h2']
      exact ⟨fin_no fun h => h2 (plan_ext.1 h).2.1, hX⟩
  · try simp only [go_sem, Int.reduceBEq, Int.reduceBNe, Int.reduceNeg, reduceCtorEq, Nat.reduceEqDiff, Nat.reduceAdd, Nat.reduceLeDiff, Nat.reduceMul, Nat.reduceSub, Int.reduceToNat, Int.reduceLT, Int.reduceLE, load_w, load_a, store_b, idxS_b, set_blk, new_blk, set_next, new_next, len_s, ldW_c, ldA_c, stB_c, toArr_one, size_one, toList_toArr, size_toArr, List.length_cons, List.length_nil, List.getElem?_cons_zero, List.getElem?_cons_succ, Nat.zero_add, Nat.add_zero, h1']
    exact ⟨fin_no fun h => h1 (plan_ext.1 h).1, hX⟩

theorem refSame_spec {p q : PlanD} {v w : Value} (hv : PlanV m p v) (hw : PlanV m q w) (hl : PlanL p) (hk : PlanL q) :
    WC R F.ref16_Same [v, w] m fun r m' => r = .bool (decide (p = q)) ∧ Ext m m' := by
  refine WC.of R.ref16_Same rfl ?_
  obtain ⟨pv, rfl, hp⟩ := hv
  obtain ⟨qv, rfl, hq⟩ := hw
  simp only [RC.ref16_Same, planV, go_sem, Int.reduceBEq, Int.reduceBNe, Int.reduceNeg, reduceCtorEq, Nat.reduceEqDiff, Nat.reduceAdd, Nat.reduceLeDiff, Nat.reduceMul, Nat.reduceSub, Int.reduceToNat, Int.reduceLT, Int.reduceLE, hp.one, hq.one]
  have hx : Ext m (m.new (.cells [.int .i64 p.frame, u32 p.cores, pv] (some 3))) := Ext.new
  have hb : Bk (m.new (.cells [.int .i64 p.frame, u32 p.cores, pv] (some 3))) m.next [.int .i64 p.frame, u32 p.cores, pv] 3 := Bk.new
  generalize m.new (.cells [.int .i64 p.frame, u32 p.cores, pv] (some 3)) = m1 at hx hb ⊢
  have hx2 : Ext m1 (m1.new (.cells [.int .i64 q.frame, u32 q.cores, qv] (some 3))) := Ext.new
  have hb2 : Bk (m1.new (.cells [.int .i64 q.frame, u32 q.cores, qv] (some 3))) m1.next [.int .i64 q.frame, u32 q.cores, qv] 3 := Bk.new
  generalize m1.new (.cells [.int .i64 q.frame, u32 q.cores, qv] (some 3)) = m2 at hx2 hb2 ⊢
  have hb := hb.keep hx2
  have hp := (hp.keep hx).keep hx2
  have hq := (hq.keep hx).keep hx2
  have hX := hx.trans hx2
  have hlen := hl.len
  try simp only [go_sem, Int.reduceBEq, Int.reduceBNe, Int.reduceNeg, reduceCtorEq, Nat.reduceEqDiff, Nat.reduceAdd, Nat.reduceLeDiff, Nat.reduceMul, Nat.reduceSub, Int.reduceToNat, Int.reduceLT, Int.reduceLE, load_w, load_a, store_b, idxS_b, set_blk, new_blk, set_next, new_next, len_s, ldW_c, ldA_c, stB_c, toArr_one, size_one, toList_toArr, size_toArr, List.length_cons, List.length_nil, List.getElem?_cons_zero, List.getElem?_cons_succ, Nat.zero_add, Nat.add_zero, hb.at_, hb2.at_]
  refine gT.of (fun h1' => ?_) (fun h1' => ?_) <;> (have h1 := h1'; try simp only [decide_eq_true_eq, decide_eq_false_iff_not, beq_iff_eq, bne_iff_ne, beq_eq_false_iff_ne, ne_eq, Bool.not_eq_true', Bool.not_eq_false', bne_eq_false_iff_eq, Int.not_lt, Int.not_le] at h1)
  · try simp only [go_sem, Int.reduceBEq, Int.reduceBNe, Int.reduceNeg, reduceCtorEq, Nat.reduceEqDiff, Nat.reduceAdd, Nat.reduceLeDiff, Nat.reduceMul, Nat.reduceSub, Int.reduceToNat, Int.reduceLT, Int.reduceLE, load_w, load_a, store_b, idxS_b, set_blk, new_blk, set_next, new_next, len_s, ldW_c, ldA_c, stB_c, toArr_one, size_one, toList_toArr, size_toArr, List.length_cons, List.length_nil, List.getElem?_cons_zero, List.getElem?_cons_succ, Nat.zero_add, Nat.add_zero, h1']
    exact ⟨fin_no fun h => h1 (plan_ext.1 h).1, hX⟩
  · try simp only [go_sem, Int.reduceBEq, Int.reduceBNe, Int.reduceNeg, reduceCtorEq, Nat.reduceEqDiff, Nat.reduceAdd, Nat.reduceLeDiff, Nat.reduceMul, Nat.reduceSub, Int.reduceToNat, Int.reduceLT, Int.reduceLE, load_w, load_a, store_b, idxS_b, set_blk, new_blk, set_next, new_next, len_s, ldW_c, ldA_c, stB_c, toArr_one, size_one, toList_toArr, size_toArr, List.length_cons, List.length_nil, List.getElem?_cons_zero, List.getElem?_cons_succ, Nat.zero_add, Nat.add_zero, h1', hb.at_, hb2.at_]
    refine gT.of (fun h2' => ?_) (fun h2' => ?_) <;> (have h2 := h2'; try simp only [decide_eq_true_eq, decide_eq_false_iff_not, beq_iff_eq, bne_iff_ne, beq_eq_false_iff_ne, ne_eq, Bool.not_eq_true', Bool.not_eq_false', bne_eq_false_iff_eq, Int.not_lt, Int.not_le] at h2)
    · try simp only [go_sem, Int.reduceBEq, Int.reduceBNe, Int.reduceNeg, reduceCtorEq, Nat.reduceEqDiff, Nat.reduceAdd, Nat.reduceLeDiff, Nat.reduceMul, Nat.reduceSub, Int.reduceToNat, Int.reduceLT, Int.reduceLE, load_w, load_a, store_b, idxS_b, set_blk, new_blk, set_next, new_next, len_s, ldW_c, ldA_c, stB_c, toArr_one, size_one, toList_toArr, size_toArr, List.length_cons, List.length_nil, List.getElem?_cons_zero, List.getElem?_cons_succ, Nat.zero_add, Nat.add_zero, h2']
      exact ⟨fin_no fun h => h2 (plan_ext.1 h).2.1, hX⟩
    · try simp only [go_sem, Int.reduceBEq, Int.reduceBNe, Int.reduceNeg, reduceCtorEq, Nat.reduceEqDiff, Nat.reduceAdd, Nat.reduceLeDiff, Nat.reduceMul, Nat.reduceSub, Int.reduceToNat, Int.reduceLT, Int.reduceLE, load_w, load_a, store_b, idxS_b, set_blk, new_blk, set_next, new_next, len_s, ldW_c, ldA_c, stB_c, toArr_one, size_one, toList_toArr, size_toArr, List.length_cons, List.length_nil, List.getElem?_cons_zero, List.getElem?_cons_succ, Nat.zero_add, Nat.add_zero, h2', hb.at_, hb2.at_, hp.len, hq.len]
      refine gT.of (fun h3' => ?_) (fun h3' => ?_) <;> (have h3 := h3'; try simp only [decide_eq_true_eq, decide_eq_false_iff_not, beq_iff_eq, bne_iff_ne, beq_eq_false_iff_ne, ne_eq, Bool.not_eq_true', Bool.not_eq_false', bne_eq_false_iff_eq, Int.not_lt, Int.not_le] at h3)
      · try simp only [go_sem, Int.reduceBEq, Int.reduceBNe, Int.reduceNeg, reduceCtorEq, Nat.reduceEqDiff, Nat.reduceAdd, Nat.reduceLeDiff, Nat.reduceMul, Nat.reduceSub, Int.reduceToNat, Int.reduceLT, Int.reduceLE, load_w, load_a, store_b, idxS_b, set_blk, new_blk, set_next, new_next, len_s, ldW_c, ldA_c, stB_c, toArr_one, size_one, toList_toArr, size_toArr, List.length_cons, List.length_nil, List.getElem?_cons_zero, List.getElem?_cons_succ, Nat.zero_add, Nat.add_zero, h3']
        exact ⟨fin_no fun h => h3 (by rw [(plan_ext.1 h).2.2]), hX⟩
      · have hlk : p.places.length = q.places.length := by have := h3; omega
        try simp only [go_sem, Int.reduceBEq, Int.reduceBNe, Int.reduceNeg, reduceCtorEq, Nat.reduceEqDiff, Nat.reduceAdd, Nat.reduceLeDiff, Nat.reduceMul, Nat.reduceSub, Int.reduceToNat, Int.reduceLT, Int.reduceLE, load_w, load_a, store_b, idxS_b, set_blk, new_blk, set_next, new_next, len_s, ldW_c, ldA_c, stB_c, toArr_one, size_one, toList_toArr, size_toArr, List.length_cons, List.length_nil, List.getElem?_cons_zero, List.getElem?_cons_succ, Nat.zero_add, Nat.add_zero, h3']
        refine WL.of (fun n e m' => ∃ i : Nat, i ≤ p.places.length ∧ n = p.places.length - i ∧ e = [(2, pt m.next), (3, pt m1.next), (5, .int .i64 i)] ∧ (∀ j (h1 : j < p.places.length) (h2 : j < q.places.length), j < i → p.places[j] = q.places[j]) ∧ Ext m2 m') p.places.length
          ⟨0, by omega, by omega, by simp only [go_sem, Int.reduceBEq, Int.reduceBNe, Int.reduceNeg, reduceCtorEq, Nat.reduceEqDiff, Nat.reduceAdd, Nat.reduceLeDiff, Nat.reduceMul, Nat.reduceSub, Int.reduceToNat, Int.reduceLT, Int.reduceLE] <;> rfl, fun _ _ _ h => by omega, Ext.refl _⟩ ?_
        rintro _ _ m3 ⟨i, hi, rfl, rfl, hj, hx3⟩
        have hb3 := hb.keep hx3
        have hc3 := hb2.keep hx3
        have hp3 := hp.keep hx3
        have hq3 := hq.keep hx3
        simp only [RB.ref16_Same_1, pt, go_sem, Int.reduceBEq, Int.reduceBNe, Int.reduceNeg, reduceCtorEq, Nat.reduceEqDiff, Nat.reduceAdd, Nat.reduceLeDiff, Nat.reduceMul, Nat.reduceSub, Int.reduceToNat, Int.reduceLT, Int.reduceLE, load_w, load_a, store_b, idxS_b, set_blk, new_blk, set_next, new_next, len_s, ldW_c, ldA_c, stB_c, toArr_one, size_one, toList_toArr, size_toArr, List.length_cons, List.length_nil, List.getElem?_cons_zero, List.getElem?_cons_succ, Nat.zero_add, Nat.add_zero, hb3.at_, hp3.len]
        refine gT.of (fun h4' => ?_) (fun h4' => ?_) <;> (have h4 := h4'; try simp only [decide_eq_true_eq, decide_eq_false_iff_not, beq_iff_eq, bne_iff_ne, beq_eq_false_iff_ne, ne_eq, Bool.not_eq_true', Bool.not_eq_false', bne_eq_false_iff_eq, Int.not_lt, Int.not_le] at h4)
        · have hil : i < p.places.length := by omega
          have hik : i < q.places.length := by omega
          obtain ⟨b, o, pv', a1, a2, a3, a4, a5⟩ := hp3.elem hil
          obtain ⟨b', o', qv', c1, c2, c3, c4, c5⟩ := hq3.elem hik
          have g1 := hl.pcs _ (List.getElem_mem hil)
          have g2 := hk.pcs _ (List.getElem_mem hik)
          have s1 := step1 (show i < 1000000 by omega)
          have bad : p.places[i] ≠ q.places[i] → p ≠ q := by rintro h rfl; exact h rfl
          generalize hxx : p.places[i] = x at *
          generalize hyy : q.places[i] = y at *
          try simp only [go_sem, Int.reduceBEq, Int.reduceBNe, Int.reduceNeg, reduceCtorEq, Nat.reduceEqDiff, Nat.reduceAdd, Nat.reduceLeDiff, Nat.reduceMul, Nat.reduceSub, Int.reduceToNat, Int.reduceLT, Int.reduceLE, load_w, load_a, store_b, idxS_b, set_blk, new_blk, set_next, new_next, len_s, ldW_c, ldA_c, stB_c, toArr_one, size_one, toList_toArr, size_toArr, List.length_cons, List.length_nil, List.getElem?_cons_zero, List.getElem?_cons_succ, Nat.zero_add, Nat.add_zero, h4', a1, a2, c1, c2, hb3.at_, hc3.at_]
          refine gC.of (refSamePlace_spec (x := x) (y := y) ⟨pv', rfl, a4⟩ ⟨qv', rfl, c4⟩ g1 g2) ?_
          rintro _ m4 ⟨rfl, hx4⟩
          simp only [go_sem, Int.reduceBEq, Int.reduceBNe, Int.reduceNeg, reduceCtorEq, Nat.reduceEqDiff, Nat.reduceAdd, Nat.reduceLeDiff, Nat.reduceMul, Nat.reduceSub, Int.reduceToNat, Int.reduceLT, Int.reduceLE]
          refine gT.of (fun h5' => ?_) (fun h5' => ?_) <;> (have h5 := h5'; try simp only [decide_eq_true_eq, decide_eq_false_iff_not, beq_iff_eq, bne_iff_ne, beq_eq_false_iff_ne, ne_eq, Bool.not_eq_true', Bool.not_eq_false', bne_eq_false_iff_eq, Int.not_lt, Int.not_le] at h5)
          · try simp only [go_sem, Int.reduceBEq, Int.reduceBNe, Int.reduceNeg, reduceCtorEq, Nat.reduceEqDiff, Nat.reduceAdd, Nat.reduceLeDiff, Nat.reduceMul, Nat.reduceSub, Int.reduceToNat, Int.reduceLT, Int.reduceLE, load_w, load_a, store_b, idxS_b, set_blk, new_blk, set_next, new_next, len_s, ldW_c, ldA_c, stB_c, toArr_one, size_one, toList_toArr, size_toArr, List.length_cons, List.length_nil, List.getElem?_cons_zero, List.getElem?_cons_succ, Nat.zero_add, Nat.add_zero, h5']
            exact ⟨fin_no (bad h5), hX.trans (hx3.trans hx4)⟩
          · have h6 : x = y := by simpa using h5'
            try simp only [go_sem, Int.reduceBEq, Int.reduceBNe, Int.reduceNeg, reduceCtorEq, Nat.reduceEqDiff, Nat.reduceAdd, Nat.reduceLeDiff, Nat.reduceMul, Nat.reduceSub, Int.reduceToNat, Int.reduceLT, Int.reduceLE, load_w, load_a, store_b, idxS_b, set_blk, new_blk, set_next, new_next, len_s, ldW_c, ldA_c, stB_c, toArr_one, size_one, toList_toArr, size_toArr, List.length_cons, List.length_nil, List.getElem?_cons_zero, List.getElem?_cons_succ, Nat.zero_add, Nat.add_zero, h5', s1]
            refine ⟨p.places.length - (i + 1), by omega, i + 1, by omega, rfl, rfl, ?_, hx3.trans hx4⟩
            intro j q1 q2 q3
            by_cases e : j = i
            · subst e; rw [hxx, hyy]; exact h6
            · exact hj j q1 q2 (by omega)
        · have : p.places = q.places := List.ext_getElem hlk fun j g1 g2 => hj j g1 g2 (by omega)
          try simp only [go_sem, Int.reduceBEq, Int.reduceBNe, Int.reduceNeg, reduceCtorEq, Nat.reduceEqDiff, Nat.reduceAdd, Nat.reduceLeDiff, Nat.reduceMul, Nat.reduceSub, Int.reduceToNat, Int.reduceLT, Int.reduceLE, load_w, load_a, store_b, idxS_b, set_blk, new_blk, set_next, new_next, len_s, ldW_c, ldA_c, stB_c, toArr_one, size_one, toList_toArr, size_toArr, List.length_cons, List.length_nil, List.getElem?_cons_zero, List.getElem?_cons_succ, Nat.zero_add, Nat.add_zero, h4']
          exact ⟨fin_yes (plan_ext.2 ⟨by simpa using h1', by simpa using h2', this⟩), hX.trans hx3⟩
end Go.Am


/- PlanM3 over the table of stage (relayset.py). -/
set_option linter.unusedVariables false
set_option linter.unusedSimpArgs false
namespace Go.Am
open Classical

theorem orW_bit {t : Nat} : ∀ {l : List Pc}, (orW l).getLsbD t = l.any fun y => y.2.getLsbD t := by
  have : ∀ (l : List Pc) (a : BitVec 64), (l.foldl (fun a y => a ||| y.2) a).getLsbD t = (a.getLsbD t || l.any fun y => y.2.getLsbD t) := by
    intro l
    induction l with
    | nil => intro a; simp
    | cons y l ih => intro a; rw [List.foldl_cons, ih, BitVec.getLsbD_or, List.any_cons, Bool.or_assoc]
  intro l
  unfold orW; rw [this]; simp

theorem cntA_eq {x : Pl} {t : Nat} (ht : t < 64) : cntA x t = x.pieces.countP fun y => y.2.getLsbD t := by
  unfold cntA
  exact List.countP_congr fun y _ => by rw [atB_all ht]

theorem any_count {α : Type} {f : α → Bool} {l : List α} : (l.any f = true) ↔ 0 < l.countP f := by
  rw [List.countP_pos_iff, List.any_eq_true]

theorem and_zero {a b : BitVec 64} : (a &&& b) = 0#64 ↔ ∀ t, t < 64 → ¬ (a.getLsbD t = true ∧ b.getLsbD t = true) := by
  constructor
  · intro h t _ ⟨h1, h2⟩
    have := congrArg (fun z => z.getLsbD t) h
    simp [h1, h2] at this
  · intro h
    refine word_ext fun t ht => ?_
    have := h t ht
    rw [BitVec.getLsbD_and]
    simp only [BitVec.getLsbD_zero]
    cases e1 : a.getLsbD t <;> cases e2 : b.getLsbD t <;> simp_all

/-- At most one at each tick: each one meets nobody ahead of it. -/
theorem once_iff {l : List Pc} {t : Nat} : (l.countP fun y => y.2.getLsbD t) ≤ 1 ↔ ∀ i (h : i < l.length), ¬ (l[i].2.getLsbD t = true ∧ (orW (l.take i)).getLsbD t = true) := by
  constructor
  · intro h i hi ⟨h1, h2⟩
    rw [orW_bit, any_count] at h2
    have e := countP_take (f := fun (y : Pc) => y.2.getLsbD t) hi
    rw [if_pos h1] at e
    have : (l.take (i + 1)).countP (fun y => y.2.getLsbD t) ≤ l.countP (fun y => y.2.getLsbD t) := (List.take_sublist _ _).countP_le
    omega
  · intro h
    have : ∀ n, n ≤ l.length → (l.take n).countP (fun y => y.2.getLsbD t) ≤ 1 := by
      intro n
      induction n with
      | zero => intro _; simp
      | succ n ih =>
        intro hn
        have e := countP_take (f := fun (y : Pc) => y.2.getLsbD t) (show n < l.length by omega)
        have := ih (by omega)
        rw [e]
        split
        · rename_i hb
          have := h n (by omega)
          rw [orW_bit, any_count] at this
          have : ¬ 0 < (l.take n).countP (fun y => y.2.getLsbD t) := fun g => this ⟨hb, g⟩
          omega
        · omega
    have := this l.length (Nat.le_refl _)
    rwa [List.take_length] at this

theorem pop_cnt {x : Pl} (h : ∀ t, t < 64 → cntA x t ≤ 1) : (pop (orW x.pieces) : Int) = sumA x 64 := by
  rw [pop_tks, tks_S, sumA_S]
  refine S_congr fun t ht => ?_
  have h1 := h t ht
  rw [cntA_eq ht] at *
  split
  · rename_i e; rw [orW_bit, any_count] at e; omega
  · rename_i e; rw [orW_bit, any_count] at e; omega

theorem pcs_iff {p : PlanD} {x : Pl} (h2 : 2 ≤ p.frame) (h64 : p.frame ≤ 64) (hne : x.pieces.length ≠ 0) :
    pcsP p x ↔ ((∀ i, i < x.pieces.length → pcOk p x.pieces i) ∧ (∀ t, t < 64 → cntA x t ≤ 1 ∧ (0 < cntA x t → (t : Int) < p.frame)) ∧ 2 ≤ x.pieces.length ∧ x.core = 0 ∧ (sumA x 64 : Int) = x.share) := by
  have hfr : (fr p.frame).toNat = p.frame.toNat := by unfold fr; omega
  have hin : (∀ i, i < x.pieces.length → pcIn p x.pieces i) ↔ ∀ t, t < 64 → cntA x t ≤ 1 ∧ (0 < cntA x t → (t : Int) < p.frame) := by
    constructor
    · intro h t ht
      rw [cntA_eq ht]
      refine ⟨once_iff.2 fun i hi => ?_, fun hpos => ?_⟩
      · obtain ⟨_, _, g⟩ := h i hi
        exact and_zero.1 g t ht
      · rw [← any_count, List.any_eq_true] at hpos
        obtain ⟨y, hy, hb⟩ := hpos
        obtain ⟨i, hi, rfl⟩ := List.getElem_of_mem hy
        obtain ⟨_, g, _⟩ := h i hi
        have := and_zero.1 g t ht
        rw [hfr, BitVec.getLsbD_not, allB_bit] at this
        simp [hb, ht] at this
        omega
    · intro h i hi
      refine ⟨hi, and_zero.2 fun t ht ⟨h1, h3⟩ => ?_, and_zero.2 fun t ht => ?_⟩
      · rw [hfr, BitVec.getLsbD_not, allB_bit] at h3
        have := (h t ht).2 (by rw [cntA_eq ht, ← any_count, List.any_eq_true]; exact ⟨_, List.getElem_mem hi, h1⟩)
        simp [ht] at h3
        omega
      · have := (h t ht).1
        rw [cntA_eq ht] at this
        exact once_iff.1 this i hi
  unfold pcsP
  constructor
  · rintro ⟨a, b, c, d⟩
    have q := hin.1 fun i hi => (a i hi).2
    exact ⟨fun i hi => (a i hi).1, q, by omega, c, by rw [← pop_cnt fun t ht => (q t ht).1]; exact d⟩
  · rintro ⟨a, q, b, c, d⟩
    exact ⟨fun i hi => ⟨a i hi, hin.2 q i hi⟩, by omega, c, by rw [pop_cnt fun t ht => (q t ht).1]; exact d⟩

theorem place_iff {p : PlanD} {x : Pl} (h2 : 2 ≤ p.frame) (h64 : p.frame ≤ 64) : placeP p x ↔ refPlaceP p x := by
  unfold placeP refPlaceP
  constructor
  · rintro ⟨a, b, c, d, e⟩; exact ⟨a, b, c, d, fun h => (pcs_iff h2 h64 h).1 (e h)⟩
  · rintro ⟨a, b, c, d, e⟩; exact ⟨a, b, c, d, fun h => (pcs_iff h2 h64 h).2 (e h)⟩

theorem flat_cnt {l : List Pl} {c t : Int} : cntL l c t = (l.flatMap (·.pieces)).countP (atB c t) := by
  induction l with
  | nil => rfl
  | cons x l ih => rw [cntL_cons, ih, List.flatMap_cons, List.countP_append]

theorem wAt_bit {ps : List Pc} {c t : Nat} (ht : t < 64) : (wAt ps (c : Nat)).getLsbD t = true ↔ 0 < ps.countP (atB (c : Nat) (t : Nat)) := by
  unfold wAt
  rw [winPc_bit]
  simp only [BitVec.getLsbD_zero, Bool.false_or]
  rw [any_count]
  have : ps.countP (fun y => decide (y.1 = (c : Int)) && y.2.getLsbD t) = ps.countP (atB (c : Nat) (t : Nat)) := List.countP_congr fun y _ => by rw [atB_eq ht]
  rw [this]

theorem apart_iff {ps : List Pc} (hc : ∀ y ∈ ps, 0 ≤ y.1 ∧ y.1 < 16) : apartP ps ↔ ∀ c, c < 16 → ∀ t, t < 64 → ps.countP (atB (c : Nat) (t : Nat)) ≤ 1 := by
  constructor
  · intro h c hc16 t ht
    have : ∀ n, n ≤ ps.length → (ps.take n).countP (atB (c : Nat) (t : Nat)) ≤ 1 := by
      intro n
      induction n with
      | zero => intro _; simp
      | succ n ih =>
        intro hn
        have e := countP_take (f := atB (c : Nat) (t : Nat)) (show n < ps.length by omega)
        have := ih (by omega)
        rw [e]
        split
        · rename_i hb
          have g := and_zero.1 (h n (by omega)) t ht
          rw [atB_eq ht] at hb
          simp only [Bool.and_eq_true, decide_eq_true_eq] at hb
          have hn0 : ¬ 0 < (ps.take n).countP (atB (c : Nat) (t : Nat)) := by
            intro hpos
            refine g ⟨?_, hb.2⟩
            rw [hb.1]
            exact (wAt_bit ht).2 hpos
          omega
        · omega
    have := this ps.length (Nat.le_refl _)
    rwa [List.take_length] at this
  · intro h i hi
    refine and_zero.2 fun t ht ⟨h1, h2⟩ => ?_
    obtain ⟨h0, h16⟩ := hc _ (List.getElem_mem hi)
    obtain ⟨c, hcc⟩ := Int.eq_ofNat_of_zero_le h0
    rw [hcc] at h1 h16
    have hpos := (wAt_bit ht).1 h1
    have e := countP_take (f := atB (c : Nat) (t : Nat)) hi
    rw [if_pos (by rw [atB_eq ht]; simp [hcc, h2])] at e
    have : (ps.take (i + 1)).countP (atB (c : Nat) (t : Nat)) ≤ ps.countP (atB (c : Nat) (t : Nat)) := (List.take_sublist _ _).countP_le
    have := h c (by omega) t ht
    omega

/-- Both call the same plans right. -/
theorem check_iff {p : PlanD} : CheckP p ↔ RightP p := by
  unfold CheckP RightP
  have hcores : p.cores >>> 16 = 0#32 ↔ p.cores.toNat ≤ 65535 := by
    rw [← BitVec.toNat_inj, BitVec.toNat_ushiftRight, Nat.shiftRight_eq_div_pow]
    have := p.cores.isLt
    simp; omega
  constructor
  · rintro ⟨a, b, c, d, e, f, g, h⟩
    refine ⟨a, b, c, hcores.1 d, fun i hi => ?_, ?_, g, fun c hc => ?_⟩
    · obtain ⟨q, r, s⟩ := e i hi
      exact ⟨q, (place_iff a b).1 r, s⟩
    · intro c hc t ht
      rw [flat_cnt]
      have hf : preP p.places p.places.length = p.places.flatMap (·.pieces) := by unfold preP; rw [List.take_length]
      rw [hf] at f
      exact (apart_iff (by
        intro y hy
        obtain ⟨x, hx, hy⟩ := List.mem_flatMap.1 hy
        exact plC_cores e x hx y hy)).1 f c hc t ht
    · have := h c hc
      rw [leftP_eq] at this; omega
  · rintro ⟨a, b, c, d, e, f, g, h⟩
    have e' : ∀ i, i < p.places.length → plC p i := fun i hi => by
      obtain ⟨q, r, s⟩ := e i hi
      exact ⟨q, (place_iff a b).2 r, s⟩
    refine ⟨a, b, c, hcores.2 d, e', ?_, g, fun c hc => ?_⟩
    · have hf : preP p.places p.places.length = p.places.flatMap (·.pieces) := by unfold preP; rw [List.take_length]
      rw [hf]
      refine (apart_iff (by
        intro y hy
        obtain ⟨x, hx, hy⟩ := List.mem_flatMap.1 hy
        exact plC_cores e' x hx y hy)).2 fun c hc t ht => ?_
      rw [← flat_cnt]; exact f c hc t ht
    · have := h c hc
      rw [leftP_eq]; omega
end Go.Am


/- PlanY1 over the table of stage (relayset.py). -/
set_option linter.unusedVariables false
set_option linter.unusedSimpArgs false
namespace Go.Am
open Classical
variable {m : Mem}

def cmpI (a b : Int) : Int := if a < b then -1 else if b < a then 1 else 0

theorem isNaN_spec {a : Int} : WC R F.cmp_isNaN_int [.int .i64 a] m fun r m' => r = .bool false ∧ m' = m := by
  refine WC.of R.cmp_isNaN_int rfl ?_
  simp only [RC.cmp_isNaN_int, go_sem, Int.reduceBEq, Int.reduceBNe, Int.reduceNeg, reduceCtorEq, Nat.reduceEqDiff, Nat.reduceAdd, Nat.reduceLeDiff, Nat.reduceMul, Nat.reduceSub, Int.reduceToNat, Int.reduceLT, Int.reduceLE]

theorem Compare_spec {a b : Int} : WC R F.cmp_Compare_int [.int .i64 a, .int .i64 b] m fun r m' => r = .int .i64 (cmpI a b) ∧ m' = m := by
  refine WC.of R.cmp_Compare_int rfl ?_
  simp only [RC.cmp_Compare_int, go_sem, Int.reduceBEq, Int.reduceBNe, Int.reduceNeg, reduceCtorEq, Nat.reduceEqDiff, Nat.reduceAdd, Nat.reduceLeDiff, Nat.reduceMul, Nat.reduceSub, Int.reduceToNat, Int.reduceLT, Int.reduceLE]
  refine gC.of isNaN_spec ?_
  rintro _ m_ ⟨rfl, hm_⟩
  replace hm_ := hm_.symm
  subst hm_
  simp only [go_sem, Int.reduceBEq, Int.reduceBNe, Int.reduceNeg, reduceCtorEq, Nat.reduceEqDiff, Nat.reduceAdd, Nat.reduceLeDiff, Nat.reduceMul, Nat.reduceSub, Int.reduceToNat, Int.reduceLT, Int.reduceLE]
  refine gC.of isNaN_spec ?_
  rintro _ m_ ⟨rfl, hm_⟩
  replace hm_ := hm_.symm
  subst hm_
  simp only [go_sem, Int.reduceBEq, Int.reduceBNe, Int.reduceNeg, reduceCtorEq, Nat.reduceEqDiff, Nat.reduceAdd, Nat.reduceLeDiff, Nat.reduceMul, Nat.reduceSub, Int.reduceToNat, Int.reduceLT, Int.reduceLE]
  unfold cmpI
  refine gT.of (fun h1' => ?_) (fun h1' => ?_) <;> (have h1 := h1'; try simp only [decide_eq_true_eq, decide_eq_false_iff_not, beq_iff_eq, bne_iff_ne, beq_eq_false_iff_ne, ne_eq, Bool.not_eq_true', Bool.not_eq_false', bne_eq_false_iff_eq, Int.not_lt, Int.not_le] at h1)
  · try simp only [go_sem, Int.reduceBEq, Int.reduceBNe, Int.reduceNeg, reduceCtorEq, Nat.reduceEqDiff, Nat.reduceAdd, Nat.reduceLeDiff, Nat.reduceMul, Nat.reduceSub, Int.reduceToNat, Int.reduceLT, Int.reduceLE, load_w, load_a, store_b, idxS_b, set_blk, new_blk, set_next, new_next, len_s, ldW_c, ldA_c, stB_c, toArr_one, size_one, toList_toArr, size_toArr, List.length_cons, List.length_nil, List.getElem?_cons_zero, List.getElem?_cons_succ, Nat.zero_add, Nat.add_zero, h1']
    rw [if_pos h1]
  · try simp only [go_sem, Int.reduceBEq, Int.reduceBNe, Int.reduceNeg, reduceCtorEq, Nat.reduceEqDiff, Nat.reduceAdd, Nat.reduceLeDiff, Nat.reduceMul, Nat.reduceSub, Int.reduceToNat, Int.reduceLT, Int.reduceLE, load_w, load_a, store_b, idxS_b, set_blk, new_blk, set_next, new_next, len_s, ldW_c, ldA_c, stB_c, toArr_one, size_one, toList_toArr, size_toArr, List.length_cons, List.length_nil, List.getElem?_cons_zero, List.getElem?_cons_succ, Nat.zero_add, Nat.add_zero, h1']
    refine gT.of (fun h2' => ?_) (fun h2' => ?_) <;> (have h2 := h2'; try simp only [decide_eq_true_eq, decide_eq_false_iff_not, beq_iff_eq, bne_iff_ne, beq_eq_false_iff_ne, ne_eq, Bool.not_eq_true', Bool.not_eq_false', bne_eq_false_iff_eq, Int.not_lt, Int.not_le] at h2)
    · try simp only [go_sem, Int.reduceBEq, Int.reduceBNe, Int.reduceNeg, reduceCtorEq, Nat.reduceEqDiff, Nat.reduceAdd, Nat.reduceLeDiff, Nat.reduceMul, Nat.reduceSub, Int.reduceToNat, Int.reduceLT, Int.reduceLE, load_w, load_a, store_b, idxS_b, set_blk, new_blk, set_next, new_next, len_s, ldW_c, ldA_c, stB_c, toArr_one, size_one, toList_toArr, size_toArr, List.length_cons, List.length_nil, List.getElem?_cons_zero, List.getElem?_cons_succ, Nat.zero_add, Nat.add_zero, h2']
      rw [if_neg (by omega), if_pos h2]
    · try simp only [go_sem, Int.reduceBEq, Int.reduceBNe, Int.reduceNeg, reduceCtorEq, Nat.reduceEqDiff, Nat.reduceAdd, Nat.reduceLeDiff, Nat.reduceMul, Nat.reduceSub, Int.reduceToNat, Int.reduceLT, Int.reduceLE, load_w, load_a, store_b, idxS_b, set_blk, new_blk, set_next, new_next, len_s, ldW_c, ldA_c, stB_c, toArr_one, size_one, toList_toArr, size_toArr, List.length_cons, List.length_nil, List.getElem?_cons_zero, List.getElem?_cons_succ, Nat.zero_add, Nat.add_zero, h2']
      rw [if_neg (by omega), if_neg (by omega)]

theorem find1_spec {x : Pl} {v : Value} {u : Int} (hv : PlV m x v) : WC R F.plan_find_1 [v, .int .i64 u] m fun r m' => r = .int .i64 (cmpI x.unit u) ∧ Ext m m' := by
  refine WC.of R.plan_find_1 rfl ?_
  obtain ⟨pv, rfl, hp⟩ := hv
  simp only [RC.plan_find_1, plV, go_sem, Int.reduceBEq, Int.reduceBNe, Int.reduceNeg, reduceCtorEq, Nat.reduceEqDiff, Nat.reduceAdd, Nat.reduceLeDiff, Nat.reduceMul, Nat.reduceSub, Int.reduceToNat, Int.reduceLT, Int.reduceLE, hp.one]
  have hx : Ext m (m.new (.cells [.int .i64 x.unit, .int .i64 x.share, .int .i64 x.core, pv] (some 4))) := Ext.new
  have hb : Bk (m.new (.cells [.int .i64 x.unit, .int .i64 x.share, .int .i64 x.core, pv] (some 4))) m.next [.int .i64 x.unit, .int .i64 x.share, .int .i64 x.core, pv] 4 := Bk.new
  generalize m.new (.cells [.int .i64 x.unit, .int .i64 x.share, .int .i64 x.core, pv] (some 4)) = m1 at hx hb ⊢
  try simp only [go_sem, Int.reduceBEq, Int.reduceBNe, Int.reduceNeg, reduceCtorEq, Nat.reduceEqDiff, Nat.reduceAdd, Nat.reduceLeDiff, Nat.reduceMul, Nat.reduceSub, Int.reduceToNat, Int.reduceLT, Int.reduceLE, load_w, load_a, store_b, idxS_b, set_blk, new_blk, set_next, new_next, len_s, ldW_c, ldA_c, stB_c, toArr_one, size_one, toList_toArr, size_toArr, List.length_cons, List.length_nil, List.getElem?_cons_zero, List.getElem?_cons_succ, Nat.zero_add, Nat.add_zero, hb.at_]
  refine gC.of Compare_spec ?_
  rintro _ m_ ⟨rfl, hm_⟩
  replace hm_ := hm_.symm
  subst hm_
  simp only [go_sem, Int.reduceBEq, Int.reduceBNe, Int.reduceNeg, reduceCtorEq, Nat.reduceEqDiff, Nat.reduceAdd, Nat.reduceLeDiff, Nat.reduceMul, Nat.reduceSub, Int.reduceToNat, Int.reduceLT, Int.reduceLE]
  exact hx
end Go.Am


/- PlanY2 over the table of stage (relayset.py). -/
set_option linter.unusedVariables false
set_option linter.unusedSimpArgs false
namespace Go.Am
open Classical
variable {m : Mem}

def Asc (l : List Pl) : Prop := ∀ i j (hi : i < j) (hj : j < l.length), (l[i]'(by omega)).unit < l[j].unit
/-- Where a unit is, or would be. -/
def atU (l : List Pl) (u : Int) (k : Nat) : Prop := k ≤ l.length ∧ (∀ t (h : t < l.length), t < k → l[t].unit < u) ∧ ∀ t (h : t < l.length), k ≤ t → u ≤ l[t].unit
def isAt (l : List Pl) (u : Int) (k : Nat) : Prop := ∃ h : k < l.length, l[k].unit = u

theorem half_eq {i j : Nat} (h : i + j < 2000000) : IntKind.wrap .i64 (((BitVec.ofInt 64 (IntKind.wrap .i64 ((i : Int) + j)) >>> (1#64).toNat).toNat : Nat) : Int) = ((i + j) / 2 : Nat) := by
  have e : IntKind.wrap .i64 ((i : Int) + j) = ((i + j : Nat) : Int) := by rw [wrap_i64 (by omega) (by omega)]; omega
  rw [show (1#64).toNat = 1 from rfl, e, BitVec.ofInt_natCast, BitVec.toNat_ushiftRight, BitVec.toNat_ofNat, Nat.mod_eq_of_lt (by omega), Nat.shiftRight_eq_div_pow, wrap_i64 (by omega) (by omega)]

theorem Binary_spec {l : List Pl} {v : Value} {u : Int} (hs : PlsV m l v) (hl : l.length < 1000000) (ha : Asc l) :
    WC R F.slices_BinarySearchFunc_api_Place_api_Place_int [v, .int .i64 u, .func (.func F.plan_find_1) #[] #[]] m fun r m' => ∃ k, atU l u k ∧ r = .tuple #[.int .i64 k, .bool (decide (isAt l u k))] ∧ Ext m m' := by
  refine WC.of R.slices_BinarySearchFunc_api_Place_api_Place_int rfl ?_
  simp only [RC.slices_BinarySearchFunc_api_Place_api_Place_int, go_sem, Int.reduceBEq, Int.reduceBNe, Int.reduceNeg, reduceCtorEq, Nat.reduceEqDiff, Nat.reduceAdd, Nat.reduceLeDiff, Nat.reduceMul, Nat.reduceSub, Int.reduceToNat, Int.reduceLT, Int.reduceLE, hs.len]
  refine WL.of (fun n e m' => ∃ i j : Nat, i ≤ j ∧ j ≤ l.length ∧ n = j - i ∧ e = [(0, v), (1, .int .i64 u), (2, .func (.func F.plan_find_1) #[] #[]), (8, .int .i64 l.length), (9, .int .i64 i), (10, .int .i64 j)] ∧ (∀ t (h : t < l.length), t < i → l[t].unit < u) ∧ (∀ t (h : t < l.length), j ≤ t → u ≤ l[t].unit) ∧ Ext m m') l.length
    ⟨0, l.length, by omega, by omega, by omega, by simp only [go_sem, Int.reduceBEq, Int.reduceBNe, Int.reduceNeg, reduceCtorEq, Nat.reduceEqDiff, Nat.reduceAdd, Nat.reduceLeDiff, Nat.reduceMul, Nat.reduceSub, Int.reduceToNat, Int.reduceLT, Int.reduceLE] <;> rfl, fun t h h2 => by omega, fun t h h2 => by omega, Ext.refl _⟩ ?_
  rintro _ _ m1 ⟨i, j, hij, hj, rfl, rfl, hlo, hhi, hx⟩
  have hs1 := hs.keep hx
  simp only [RB.slices_BinarySearchFunc_api_Place_api_Place_int_1, go_sem, Int.reduceBEq, Int.reduceBNe, Int.reduceNeg, reduceCtorEq, Nat.reduceEqDiff, Nat.reduceAdd, Nat.reduceLeDiff, Nat.reduceMul, Nat.reduceSub, Int.reduceToNat, Int.reduceLT, Int.reduceLE]
  refine gT.of (fun h1' => ?_) (fun h1' => ?_) <;> (have h1 := h1'; try simp only [decide_eq_true_eq, decide_eq_false_iff_not, beq_iff_eq, bne_iff_ne, beq_eq_false_iff_ne, ne_eq, Bool.not_eq_true', Bool.not_eq_false', bne_eq_false_iff_eq, Int.not_lt, Int.not_le] at h1)
  · have hij2 : i < j := by omega
    have hh := half_eq (i := i) (j := j) (by omega)
    have hkl : (i + j) / 2 < l.length := by omega
    obtain ⟨b, o, qv, a1, a2, a3, a4, a5⟩ := hs1.elem hkl
    have hlow : l[(i + j) / 2].unit < u → ∀ t (h : t < l.length), t < (i + j) / 2 + 1 → l[t].unit < u := by
      intro g t h ht
      by_cases e : t = (i + j) / 2
      · subst e; exact g
      · have := ha t ((i + j) / 2) (by omega) hkl; omega
    have hhigh : ¬ l[(i + j) / 2].unit < u → ∀ t (h : t < l.length), (i + j) / 2 ≤ t → u ≤ l[t].unit := by
      intro g t h ht
      by_cases e : t = (i + j) / 2
      · subst e; omega
      · have := ha ((i + j) / 2) t (by omega) h; omega
    have hk1 : i ≤ (i + j) / 2 ∧ (i + j) / 2 < j := by omega
    generalize (i + j) / 2 = k at *
    have s1 := step1 (show k < 1000000 by omega)
    try simp only [go_sem, Int.reduceBEq, Int.reduceBNe, Int.reduceNeg, reduceCtorEq, Nat.reduceEqDiff, Nat.reduceAdd, Nat.reduceLeDiff, Nat.reduceMul, Nat.reduceSub, Int.reduceToNat, Int.reduceLT, Int.reduceLE, load_w, load_a, store_b, idxS_b, set_blk, new_blk, set_next, new_next, len_s, ldW_c, ldA_c, stB_c, toArr_one, size_one, toList_toArr, size_toArr, List.length_cons, List.length_nil, List.getElem?_cons_zero, List.getElem?_cons_succ, Nat.zero_add, Nat.add_zero, h1', hh, a1, a2]
    refine gC.of (find1_spec (x := l[k]) (u := u) ⟨qv, rfl, a4⟩) ?_
    rintro _ m2 ⟨rfl, hx2⟩
    simp only [go_sem, Int.reduceBEq, Int.reduceBNe, Int.reduceNeg, reduceCtorEq, Nat.reduceEqDiff, Nat.reduceAdd, Nat.reduceLeDiff, Nat.reduceMul, Nat.reduceSub, Int.reduceToNat, Int.reduceLT, Int.reduceLE]
    refine gT.of (fun h2' => ?_) (fun h2' => ?_) <;> (have h2 := h2'; try simp only [decide_eq_true_eq, decide_eq_false_iff_not, beq_iff_eq, bne_iff_ne, beq_eq_false_iff_ne, ne_eq, Bool.not_eq_true', Bool.not_eq_false', bne_eq_false_iff_eq, Int.not_lt, Int.not_le] at h2)
    · have h3 : l[k].unit < u := by unfold cmpI at h2; split at h2 <;> (try split at h2) <;> omega
      try simp only [go_sem, Int.reduceBEq, Int.reduceBNe, Int.reduceNeg, reduceCtorEq, Nat.reduceEqDiff, Nat.reduceAdd, Nat.reduceLeDiff, Nat.reduceMul, Nat.reduceSub, Int.reduceToNat, Int.reduceLT, Int.reduceLE, load_w, load_a, store_b, idxS_b, set_blk, new_blk, set_next, new_next, len_s, ldW_c, ldA_c, stB_c, toArr_one, size_one, toList_toArr, size_toArr, List.length_cons, List.length_nil, List.getElem?_cons_zero, List.getElem?_cons_succ, Nat.zero_add, Nat.add_zero, h2', s1]
      exact ⟨j - (k + 1), by omega, k + 1, j, by omega, by omega, rfl, rfl, hlow h3, hhi, hx.trans hx2⟩
    · have h3 : ¬ l[k].unit < u := by unfold cmpI at h2; split at h2 <;> (try split at h2) <;> omega
      try simp only [go_sem, Int.reduceBEq, Int.reduceBNe, Int.reduceNeg, reduceCtorEq, Nat.reduceEqDiff, Nat.reduceAdd, Nat.reduceLeDiff, Nat.reduceMul, Nat.reduceSub, Int.reduceToNat, Int.reduceLT, Int.reduceLE, load_w, load_a, store_b, idxS_b, set_blk, new_blk, set_next, new_next, len_s, ldW_c, ldA_c, stB_c, toArr_one, size_one, toList_toArr, size_toArr, List.length_cons, List.length_nil, List.getElem?_cons_zero, List.getElem?_cons_succ, Nat.zero_add, Nat.add_zero, h2']
      exact ⟨k - i, by omega, i, k, by omega, by omega, rfl, rfl, hlo, hhigh h3, hx.trans hx2⟩
  · have hij2 : i = j := by omega
    subst hij2
    have hat : atU l u i := ⟨hj, hlo, hhi⟩
    try simp only [go_sem, Int.reduceBEq, Int.reduceBNe, Int.reduceNeg, reduceCtorEq, Nat.reduceEqDiff, Nat.reduceAdd, Nat.reduceLeDiff, Nat.reduceMul, Nat.reduceSub, Int.reduceToNat, Int.reduceLT, Int.reduceLE, load_w, load_a, store_b, idxS_b, set_blk, new_blk, set_next, new_next, len_s, ldW_c, ldA_c, stB_c, toArr_one, size_one, toList_toArr, size_toArr, List.length_cons, List.length_nil, List.getElem?_cons_zero, List.getElem?_cons_succ, Nat.zero_add, Nat.add_zero, h1']
    refine gT.of (fun h2' => ?_) (fun h2' => ?_) <;> (have h2 := h2'; try simp only [decide_eq_true_eq, decide_eq_false_iff_not, beq_iff_eq, bne_iff_ne, beq_eq_false_iff_ne, ne_eq, Bool.not_eq_true', Bool.not_eq_false', bne_eq_false_iff_eq, Int.not_lt, Int.not_le] at h2)
    · have hil : i < l.length := by omega
      obtain ⟨b, o, qv, a1, a2, a3, a4, a5⟩ := hs1.elem hil
      try simp only [go_sem, Int.reduceBEq, Int.reduceBNe, Int.reduceNeg, reduceCtorEq, Nat.reduceEqDiff, Nat.reduceAdd, Nat.reduceLeDiff, Nat.reduceMul, Nat.reduceSub, Int.reduceToNat, Int.reduceLT, Int.reduceLE, load_w, load_a, store_b, idxS_b, set_blk, new_blk, set_next, new_next, len_s, ldW_c, ldA_c, stB_c, toArr_one, size_one, toList_toArr, size_toArr, List.length_cons, List.length_nil, List.getElem?_cons_zero, List.getElem?_cons_succ, Nat.zero_add, Nat.add_zero, h2', a1, a2]
      refine gC.of (find1_spec (x := l[i]) (u := u) ⟨qv, rfl, a4⟩) ?_
      rintro _ m2 ⟨rfl, hx2⟩
      simp only [go_sem, Int.reduceBEq, Int.reduceBNe, Int.reduceNeg, reduceCtorEq, Nat.reduceEqDiff, Nat.reduceAdd, Nat.reduceLeDiff, Nat.reduceMul, Nat.reduceSub, Int.reduceToNat, Int.reduceLT, Int.reduceLE]
      try simp only [go_sem, Int.reduceBEq, Int.reduceBNe, Int.reduceNeg, reduceCtorEq, Nat.reduceEqDiff, Nat.reduceAdd, Nat.reduceLeDiff, Nat.reduceMul, Nat.reduceSub, Int.reduceToNat, Int.reduceLT, Int.reduceLE, load_w, load_a, store_b, idxS_b, set_blk, new_blk, set_next, new_next, len_s, ldW_c, ldA_c, stB_c, toArr_one, size_one, toList_toArr, size_toArr, List.length_cons, List.length_nil, List.getElem?_cons_zero, List.getElem?_cons_succ, Nat.zero_add, Nat.add_zero, h2']
      have hge := hhi i hil (Nat.le_refl _)
      have key : (cmpI l[i].unit u == 0) = decide (isAt l u i) := by
        rw [Bool.eq_iff_iff, beq_iff_eq, decide_eq_true_eq]
        unfold cmpI
        constructor
        · intro h; refine ⟨hil, ?_⟩; split at h <;> (try split at h) <;> omega
        · rintro ⟨_, h⟩; rw [if_neg (by omega), if_neg (by omega)]
      exact ⟨i, hat, by rw [key], hx.trans hx2⟩
    · try simp only [go_sem, Int.reduceBEq, Int.reduceBNe, Int.reduceNeg, reduceCtorEq, Nat.reduceEqDiff, Nat.reduceAdd, Nat.reduceLeDiff, Nat.reduceMul, Nat.reduceSub, Int.reduceToNat, Int.reduceLT, Int.reduceLE, load_w, load_a, store_b, idxS_b, set_blk, new_blk, set_next, new_next, len_s, ldW_c, ldA_c, stB_c, toArr_one, size_one, toList_toArr, size_toArr, List.length_cons, List.length_nil, List.getElem?_cons_zero, List.getElem?_cons_succ, Nat.zero_add, Nat.add_zero, h2']
      have key : decide (isAt l u i) = false := decide_eq_false fun ⟨h, _⟩ => by omega
      exact ⟨i, hat, by rw [key], hx⟩

theorem find_spec {p : PlanD} {v : Value} {u : Int} (hv : PlanV m p v) (hl : p.places.length < 1000000) (ha : Asc p.places) :
    WC R F.plan_find [v, .int .i64 u] m fun r m' => ∃ k, atU p.places u k ∧ r = .tuple #[.int .i64 k, .bool (decide (isAt p.places u k))] ∧ Ext m m' := by
  refine WC.of R.plan_find rfl ?_
  obtain ⟨pv, rfl, hp⟩ := hv
  simp only [RC.plan_find, planV, go_sem, Int.reduceBEq, Int.reduceBNe, Int.reduceNeg, reduceCtorEq, Nat.reduceEqDiff, Nat.reduceAdd, Nat.reduceLeDiff, Nat.reduceMul, Nat.reduceSub, Int.reduceToNat, Int.reduceLT, Int.reduceLE, hp.one]
  have hx : Ext m (m.new (.cells [.int .i64 p.frame, u32 p.cores, pv] (some 3))) := Ext.new
  have hb : Bk (m.new (.cells [.int .i64 p.frame, u32 p.cores, pv] (some 3))) m.next [.int .i64 p.frame, u32 p.cores, pv] 3 := Bk.new
  generalize m.new (.cells [.int .i64 p.frame, u32 p.cores, pv] (some 3)) = m1 at hx hb ⊢
  try simp only [go_sem, Int.reduceBEq, Int.reduceBNe, Int.reduceNeg, reduceCtorEq, Nat.reduceEqDiff, Nat.reduceAdd, Nat.reduceLeDiff, Nat.reduceMul, Nat.reduceSub, Int.reduceToNat, Int.reduceLT, Int.reduceLE, load_w, load_a, store_b, idxS_b, set_blk, new_blk, set_next, new_next, len_s, ldW_c, ldA_c, stB_c, toArr_one, size_one, toList_toArr, size_toArr, List.length_cons, List.length_nil, List.getElem?_cons_zero, List.getElem?_cons_succ, Nat.zero_add, Nat.add_zero, hb.at_]
  refine gC.of (Binary_spec (hp.keep hx) hl ha) ?_
  rintro _ m2 ⟨k, hk, rfl, hx2⟩
  try simp only [go_sem, Int.reduceBEq, Int.reduceBNe, Int.reduceNeg, reduceCtorEq, Nat.reduceEqDiff, Nat.reduceAdd, Nat.reduceLeDiff, Nat.reduceMul, Nat.reduceSub, Int.reduceToNat, Int.reduceLT, Int.reduceLE, load_w, load_a, store_b, idxS_b, set_blk, new_blk, set_next, new_next, len_s, ldW_c, ldA_c, stB_c, toArr_one, size_one, toList_toArr, size_toArr, List.length_cons, List.length_nil, List.getElem?_cons_zero, List.getElem?_cons_succ, Nat.zero_add, Nat.add_zero, aExt0, aExt1]
  exact ⟨k, hk, rfl, hx.trans hx2⟩

/-- A copy of pieces. -/
theorem Clone_spec {l : List Pc} {v : Value} (hs : PcV m l v) (hl : l.length < 1000000) : WC R F.slices_Clone_api_Piece_api_Piece [v] m fun r m' => Own m m' 2 l.length (l.flatMap pcV) r ∧ Ext m m' := by
  refine WC.of R.slices_Clone_api_Piece_api_Piece rfl ?_
  have hone : oneCells (l.flatMap pcV) = true := by
    unfold oneCells
    rw [List.all_eq_true]
    intro x hx
    obtain ⟨y, _, hy⟩ := List.mem_flatMap.1 hx
    simp only [pcV, List.mem_cons, List.not_mem_nil, or_false] at hy
    rcases hy with rfl | rfl <;> rfl
  obtain ⟨h1, h2⟩ := hs
  have hs0 : Sl m 2 l.length (l.flatMap pcV) v := h1
  cases h1 with
  | nil h hc =>
    simp only [RC.slices_Clone_api_Piece_api_Piece, go_sem, Int.reduceBEq, Int.reduceBNe, Int.reduceNeg, reduceCtorEq, Nat.reduceEqDiff, Nat.reduceAdd, Nat.reduceLeDiff, Nat.reduceMul, Nat.reduceSub, Int.reduceToNat, Int.reduceLT, Int.reduceLE, Option.isNone_none]
    exact ⟨.nil h hc, Ext.refl _⟩
  | @«at» b o c hc h =>
    simp only [RC.slices_Clone_api_Piece_api_Piece, go_sem, Int.reduceBEq, Int.reduceBNe, Int.reduceNeg, reduceCtorEq, Nat.reduceEqDiff, Nat.reduceAdd, Nat.reduceLeDiff, Nat.reduceMul, Nat.reduceSub, Int.reduceToNat, Int.reduceLT, Int.reduceLE]
    obtain ⟨v', m', e1, e2, e3⟩ := app_copy (by_ := 16) (hs0.keep h2 Ext.new) hone (by omega) (by omega)
    rw [e1, Got.some]
    try simp only [go_sem, Int.reduceBEq, Int.reduceBNe, Int.reduceNeg, reduceCtorEq, Nat.reduceEqDiff, Nat.reduceAdd, Nat.reduceLeDiff, Nat.reduceMul, Nat.reduceSub, Int.reduceToNat, Int.reduceLT, Int.reduceLE, load_w, load_a, store_b, idxS_b, set_blk, new_blk, set_next, new_next, len_s, ldW_c, ldA_c, stB_c, toArr_one, size_one, toList_toArr, size_toArr, List.length_cons, List.length_nil, List.getElem?_cons_zero, List.getElem?_cons_succ, Nat.zero_add, Nat.add_zero]
    exact ⟨e2, e3⟩

def find0 : Pl := ⟨0, 0, 0, []⟩
noncomputable def findP (l : List Pl) (u : Int) : Pl := if h : ∃ i, ∃ h : i < l.length, l[i].unit = u then l[h.choose]'(h.choose_spec.choose) else find0
def hasU (l : List Pl) (u : Int) : Prop := ∃ i, ∃ h : i < l.length, l[i].unit = u

theorem Asc.inj {l : List Pl} (ha : Asc l) {i j : Nat} (hi : i < l.length) (hj : j < l.length) (h : l[i].unit = l[j].unit) : i = j := by
  rcases Nat.lt_trichotomy i j with g | g | g
  · have := ha i j g hj; omega
  · exact g
  · have := ha j i g hi; omega
theorem findP_at {l : List Pl} {u : Int} (ha : Asc l) {i : Nat} (hi : i < l.length) (h : l[i].unit = u) : findP l u = l[i] := by
  have hex : ∃ i, ∃ h : i < l.length, l[i].unit = u := ⟨i, hi, h⟩
  unfold findP
  rw [dif_pos hex]
  have e : hex.choose = i := ha.inj hex.choose_spec.choose hi (by rw [hex.choose_spec.choose_spec, h])
  simp only [e]
theorem findP_not {l : List Pl} {u : Int} (h : ¬ hasU l u) : findP l u = find0 := by unfold findP; exact dif_neg h

theorem Find_spec {p : PlanD} {v : Value} {u : Int} (hv : PlanV m p v) (hl : PlanL p) (ha : Asc p.places) :
    WC R F.plan_Find [v, .int .i64 u] m fun r m' => ∃ w, r = .tuple #[w, .bool (decide (hasU p.places u))] ∧ PlV m' (findP p.places u) w ∧ Ext m m' := by
  refine WC.of R.plan_Find rfl ?_
  obtain ⟨pv, rfl, hp⟩ := hv
  simp only [RC.plan_Find, planV, go_sem, Int.reduceBEq, Int.reduceBNe, Int.reduceNeg, reduceCtorEq, Nat.reduceEqDiff, Nat.reduceAdd, Nat.reduceLeDiff, Nat.reduceMul, Nat.reduceSub, Int.reduceToNat, Int.reduceLT, Int.reduceLE, hp.one]
  have hx : Ext m (m.new (.cells [.int .i64 p.frame, u32 p.cores, pv] (some 3))) := Ext.new
  have hb : Bk (m.new (.cells [.int .i64 p.frame, u32 p.cores, pv] (some 3))) m.next [.int .i64 p.frame, u32 p.cores, pv] 3 := Bk.new
  generalize m.new (.cells [.int .i64 p.frame, u32 p.cores, pv] (some 3)) = m1 at hx hb ⊢
  have hbn := hb.ne
  try simp only [go_sem, Int.reduceBEq, Int.reduceBNe, Int.reduceNeg, reduceCtorEq, Nat.reduceEqDiff, Nat.reduceAdd, Nat.reduceLeDiff, Nat.reduceMul, Nat.reduceSub, Int.reduceToNat, Int.reduceLT, Int.reduceLE, load_w, load_a, store_b, idxS_b, set_blk, new_blk, set_next, new_next, len_s, ldW_c, ldA_c, stB_c, toArr_one, size_one, toList_toArr, size_toArr, List.length_cons, List.length_nil, List.getElem?_cons_zero, List.getElem?_cons_succ, Nat.zero_add, Nat.add_zero, hb.at_, hbn]
  have hx2 : Ext m1 (m1.new (.cells [.int .i64 0, .int .i64 0, .int .i64 0, .slice none 0 0] (some 4))) := Ext.new
  have hb2 : Bk (m1.new (.cells [.int .i64 0, .int .i64 0, .int .i64 0, .slice none 0 0] (some 4))) m1.next [.int .i64 0, .int .i64 0, .int .i64 0, .slice none 0 0] 4 := Bk.new
  have hn2 : (m1.new (.cells [.int .i64 0, .int .i64 0, .int .i64 0, .slice none 0 0] (some 4))).next = m1.next + 1 := rfl
  generalize m1.new (.cells [.int .i64 0, .int .i64 0, .int .i64 0, .slice none 0 0] (some 4)) = m2 at hx2 hb2 hn2 ⊢
  have hp2 := (hp.keep hx).keep hx2
  have hb' := hb.keep hx2
  try simp only [go_sem, Int.reduceBEq, Int.reduceBNe, Int.reduceNeg, reduceCtorEq, Nat.reduceEqDiff, Nat.reduceAdd, Nat.reduceLeDiff, Nat.reduceMul, Nat.reduceSub, Int.reduceToNat, Int.reduceLT, Int.reduceLE, load_w, load_a, store_b, idxS_b, set_blk, new_blk, set_next, new_next, len_s, ldW_c, ldA_c, stB_c, toArr_one, size_one, toList_toArr, size_toArr, List.length_cons, List.length_nil, List.getElem?_cons_zero, List.getElem?_cons_succ, Nat.zero_add, Nat.add_zero, hb'.at_]
  refine gC.of (find_spec (p := p) ⟨pv, rfl, hp2⟩ hl.len ha) ?_
  rintro _ m3 ⟨k, ⟨hk1, hk2, hk3⟩, rfl, hx3⟩
  have hp3 := hp2.keep hx3
  have hb3 := hb'.keep hx3
  have hr3 := hb2.keep hx3
  try simp only [go_sem, Int.reduceBEq, Int.reduceBNe, Int.reduceNeg, reduceCtorEq, Nat.reduceEqDiff, Nat.reduceAdd, Nat.reduceLeDiff, Nat.reduceMul, Nat.reduceSub, Int.reduceToNat, Int.reduceLT, Int.reduceLE, load_w, load_a, store_b, idxS_b, set_blk, new_blk, set_next, new_next, len_s, ldW_c, ldA_c, stB_c, toArr_one, size_one, toList_toArr, size_toArr, List.length_cons, List.length_nil, List.getElem?_cons_zero, List.getElem?_cons_succ, Nat.zero_add, Nat.add_zero, aExt0, aExt1]
  have hiff : isAt p.places u k ↔ hasU p.places u := by
    constructor
    · rintro ⟨h, e⟩; exact ⟨k, h, e⟩
    · rintro ⟨i, h, e⟩
      have : i = k := by
        rcases Nat.lt_trichotomy i k with g | g | g
        · have := hk2 i h g; omega
        · exact g
        · have h1 := hk3 k (by omega) (Nat.le_refl _)
          have := ha k i g h
          omega
      subst this; exact ⟨h, e⟩
  refine gT.of (fun h1' => ?_) (fun h1' => ?_) <;> (have h1 := h1'; try simp only [decide_eq_true_eq, decide_eq_false_iff_not, beq_iff_eq, bne_iff_ne, beq_eq_false_iff_ne, ne_eq, Bool.not_eq_true', Bool.not_eq_false', bne_eq_false_iff_eq, Int.not_lt, Int.not_le] at h1)
  · have hno : ¬ isAt p.places u k := by simpa using h1'
    have hnu : ¬ hasU p.places u := fun h => hno (hiff.2 h)
    have hX : Ext m1 m3 := hx2.trans hx3
    try simp only [go_sem, Int.reduceBEq, Int.reduceBNe, Int.reduceNeg, reduceCtorEq, Nat.reduceEqDiff, Nat.reduceAdd, Nat.reduceLeDiff, Nat.reduceMul, Nat.reduceSub, Int.reduceToNat, Int.reduceLT, Int.reduceLE, load_w, load_a, store_b, idxS_b, set_blk, new_blk, set_next, new_next, len_s, ldW_c, ldA_c, stB_c, toArr_one, size_one, toList_toArr, size_toArr, List.length_cons, List.length_nil, List.getElem?_cons_zero, List.getElem?_cons_succ, Nat.zero_add, Nat.add_zero, h1', hr3.at_]
    refine ⟨_, by rw [decide_eq_false hnu], ?_, hx.trans (hX.set (Nat.le_refl _))⟩
    rw [findP_not hnu]
    exact ⟨.slice none 0 0, rfl, .nil rfl rfl, trivial⟩
  · have hyes : isAt p.places u k := by simpa using h1'
    obtain ⟨hkl, hku⟩ := hyes
    try simp only [go_sem, Int.reduceBEq, Int.reduceBNe, Int.reduceNeg, reduceCtorEq, Nat.reduceEqDiff, Nat.reduceAdd, Nat.reduceLeDiff, Nat.reduceMul, Nat.reduceSub, Int.reduceToNat, Int.reduceLT, Int.reduceLE, load_w, load_a, store_b, idxS_b, set_blk, new_blk, set_next, new_next, len_s, ldW_c, ldA_c, stB_c, toArr_one, size_one, toList_toArr, size_toArr, List.length_cons, List.length_nil, List.getElem?_cons_zero, List.getElem?_cons_succ, Nat.zero_add, Nat.add_zero, h1', hb3.at_]
    obtain ⟨b, o, qv, a1, a2, a3, a4, a5⟩ := hp3.elem hkl
    have hfx : findP p.places u = p.places[k] := findP_at ha hkl hku
    have hhas : hasU p.places u := ⟨k, hkl, hku⟩
    have hpl := hl.pcs _ (List.getElem_mem hkl)
    generalize p.places[k] = x at *
    simp only [plV] at a2
    try simp only [go_sem, Int.reduceBEq, Int.reduceBNe, Int.reduceNeg, reduceCtorEq, Nat.reduceEqDiff, Nat.reduceAdd, Nat.reduceLeDiff, Nat.reduceMul, Nat.reduceSub, Int.reduceToNat, Int.reduceLT, Int.reduceLE, load_w, load_a, store_b, idxS_b, set_blk, new_blk, set_next, new_next, len_s, ldW_c, ldA_c, stB_c, toArr_one, size_one, toList_toArr, size_toArr, List.length_cons, List.length_nil, List.getElem?_cons_zero, List.getElem?_cons_succ, Nat.zero_add, Nat.add_zero, a1, a2, a4.one]
    have hx4 : Ext m3 (m3.new (.cells [.int .i64 x.unit, .int .i64 x.share, .int .i64 x.core, qv] (some 4))) := Ext.new
    have hb4 : Bk (m3.new (.cells [.int .i64 x.unit, .int .i64 x.share, .int .i64 x.core, qv] (some 4))) m3.next [.int .i64 x.unit, .int .i64 x.share, .int .i64 x.core, qv] 4 := Bk.new
    generalize m3.new (.cells [.int .i64 x.unit, .int .i64 x.share, .int .i64 x.core, qv] (some 4)) = m4 at hx4 hb4 ⊢
    try simp only [go_sem, Int.reduceBEq, Int.reduceBNe, Int.reduceNeg, reduceCtorEq, Nat.reduceEqDiff, Nat.reduceAdd, Nat.reduceLeDiff, Nat.reduceMul, Nat.reduceSub, Int.reduceToNat, Int.reduceLT, Int.reduceLE, load_w, load_a, store_b, idxS_b, set_blk, new_blk, set_next, new_next, len_s, ldW_c, ldA_c, stB_c, toArr_one, size_one, toList_toArr, size_toArr, List.length_cons, List.length_nil, List.getElem?_cons_zero, List.getElem?_cons_succ, Nat.zero_add, Nat.add_zero, hb4.at_]
    refine gC.of (Clone_spec (a4.keep hx4) hpl) ?_
    rintro w m5 ⟨ho, hx5⟩
    have hb5 := hb4.keep hx5
    have hr5 := (hr3.keep hx4).keep hx5
    have hne : m1.next ≠ m3.next := by have := hr3.lt; omega
    have hso : ∀ {m'}, Upd m5 m' [m1.next, m3.next] → PcV m' x.pieces w := by
      intro m' h
      have hoff : SlOff [m1.next, m3.next] w := ho.off (by
        intro z hz
        have := hr3.lt; have := hx4.next; have := hb4.lt
        simp at hz; omega)
      exact ⟨ho.sl.upd ho.lt hoff h, ho.lt.upd h⟩
    have hw : ∃ a n c, w = .slice a n c := by cases ho <;> exact ⟨_, _, _, rfl⟩
    have hw1 := ho.sl.one
    obtain ⟨wa, wn, wc, rfl⟩ := hw
    have hne' : (m1.next = m3.next) = False := eq_false hne
    try simp only [go_sem, Int.reduceBEq, Int.reduceBNe, Int.reduceNeg, reduceCtorEq, Nat.reduceEqDiff, Nat.reduceAdd, Nat.reduceLeDiff, Nat.reduceMul, Nat.reduceSub, Int.reduceToNat, Int.reduceLT, Int.reduceLE, load_w, load_a, store_b, idxS_b, set_blk, new_blk, set_next, new_next, len_s, ldW_c, ldA_c, stB_c, toArr_one, size_one, toList_toArr, size_toArr, List.length_cons, List.length_nil, List.getElem?_cons_zero, List.getElem?_cons_succ, Nat.zero_add, Nat.add_zero, hb5.at_, hw1, hne', hr5.at_]
    have hle : m1.next ≤ m3.next := by have := hr3.lt; omega
    refine ⟨_, by rw [decide_eq_true hhas], ?_, hx.trans (((((hx2.trans hx3).trans hx4).trans hx5).set hle).set (Nat.le_refl _))⟩
    rw [hfx]
    exact ⟨.slice wa wn wc, rfl, hso ((Upd.set (fp := [m1.next, m3.next]) (by simp)).trans (Upd.set (fp := [m1.next, m3.next]) (by simp)) (fun _ h => h) (fun _ h => .inl h))⟩
end Go.Am


/- SlcPlanPl over the table of stage (relayset.py). -/
set_option linter.unusedVariables false
set_option linter.unusedSimpArgs false
namespace Go.Am
variable {α : Type} {f : α → List Value} {m : Mem}

theorem pl_upd2 {all A B C : List Value} {o : Nat} (h : all = A ++ B ++ C) (ho : A.length = o) {X : List Value} (hl : X.length = B.length) : writeL all o X = A ++ X ++ C := by
  subst h
  unfold writeL
  have e1 : (A ++ B ++ C).take o = A := by rw [List.append_assoc]; exact List.take_left' ho
  have e2 : (A ++ B ++ C).drop (o + X.length) = C := List.drop_left' (by rw [List.length_append, ho, hl])
  rw [e1, e2]

/-- One left out; the last place is cleared. -/
theorem pl_Delete1 {l : List α} {v : Value} {m0 : Mem} {i : Nat} (hf : ∀ a, (f a).length = 4) (h1 : ∀ a, oneCells (f a) = true) (ho : Own m0 m 4 l.length (l.flatMap f) v) (hx0 : Ext m0 m) (hl : l.length < 100000) (hi : i < l.length) :
    WC R F.slices_Delete_api_Place_api_Place [v, .int .i64 i, .int .i64 (i + 1 : Nat)] m fun r m' => Own m0 m' 4 (l.eraseIdx i).length ((l.eraseIdx i).flatMap f) r ∧ Ext m0 m' ∧ vb r = vb v ∧ Upd m m' (vb v) := by
  refine WC.of R.slices_Delete_api_Place_api_Place rfl ?_
  simp only [RC.slices_Delete_api_Place_api_Place, go_sem, Int.reduceBEq, Int.reduceBNe, Int.reduceNeg, reduceCtorEq, Nat.reduceEqDiff, Nat.reduceAdd, Nat.reduceLeDiff, Nat.reduceMul, Nat.reduceSub, Int.reduceToNat, Int.reduceLT, Int.reduceLE]
  cases ho with
  | nil h hc => omega
  | @«at» b c all hb hb2 hnc hm hal hcs hone =>
    have hun : unitOk 4 m b = true := unitOk_own hm
    have b3 : aSub 4 m (.slice (some ⟨b, 0, none⟩) l.length c) (some (.int .i64 (i : Nat))) (some (.int .i64 ((i + 1 : Nat) : Int))) (some (.int .i64 (l.length : Nat))) = some (.slice (some ⟨b, 0 + i * 4, none⟩) (i + 1 - i) (l.length - i)) := by
      have q : ∀ (N n : Nat), n ≤ N → aBound N (.int .i64 (n : Nat)) = some n := fun N n h => by
        simp only [aBound]; rw [if_pos (by omega)]; simp
      simp only [aSub, hun, if_true, aBounds, q c l.length hnc, q l.length (i + 1) (by omega), q (i + 1) i (by omega), Option.bind_some, cutAt]
      rw [if_pos (by omega)]
    have ne : ((i : Int) == ((i + 1 : Nat) : Int)) = false := by rw [beq_eq_false_iff_ne]; omega
    have hunb : ∀ n, unitOk 4 (m.bump n) b = true := fun n => hun
    have c1 : ∀ n, aSub 4 (m.bump n) (.slice (some ⟨b, 0, none⟩) l.length c) none (some (.int .i64 (i : Nat))) none = some (.slice (some ⟨b, 0, none⟩) i c) := fun n => sub_to (hunb n) (by omega)
    have c2 : ∀ n, aSub 4 (m.bump n) (.slice (some ⟨b, 0, none⟩) l.length c) (some (.int .i64 ((i + 1 : Nat) : Int))) none none = some (.slice (some ⟨b, (i + 1) * 4, none⟩) (l.length - (i + 1)) (c - (i + 1))) := fun n => by
      have := sub_from (m := m.bump n) (b := b) (o := 0) (n := l.length) (c := c) (u := 4) (k := .i64) (i := i + 1) (hunb n) (by omega) hnc
      rw [Nat.zero_add] at this; exact this
    have key : ∀ (q n : Nat), ∃ (m' : Mem) (X : List Value), aApp (some q) 4 48 (m.bump n) (.slice (some ⟨b, 0, none⟩) i c) (.slice (some ⟨b, (i + 1) * 4, none⟩) (l.length - (i + 1)) (c - (i + 1))) = some (.slice (some ⟨b, 0, none⟩) (l.length - 1) c, m') ∧
        X.length = 4 ∧ m'.blk b = some (.cells ((l.eraseIdx i).flatMap f ++ X ++ all.drop (l.length * 4)) (some 4)) ∧ Upd m m' [b] := by
      intro q n
      have hbm : (m.bump n).blk b = some (.cells all (some 4)) := hm
      have hall : all = l.flatMap f ++ all.drop (l.length * 4) := by rw [← hcs, List.take_append_drop]
      generalize all.drop (l.length * 4) = sp at hall ⊢
      have hle : l.length * 4 ≤ c * 4 := Nat.mul_le_mul_right _ hnc
      have e0 : l = l.take i ++ l[i] :: l.drop (i + 1) := by rw [← List.drop_eq_getElem_cons hi, List.take_append_drop]
      have hti : ((l.take i).flatMap f).length = i * 4 := by rw [flat_len hf, List.length_take]; congr 1; omega
      have hdi : ((l.drop (i + 1)).flatMap f).length = (l.length - (i + 1)) * 4 := by rw [flat_len hf, List.length_drop]
      have hE : l.eraseIdx i = l.take i ++ l.drop (i + 1) := List.eraseIdx_eq_take_drop_succ ..
      have hl2 : l.flatMap f = (l.take i).flatMap f ++ (f l[i] ++ (l.drop (i + 1)).flatMap f) := by
        conv => lhs; rw [e0]
        rw [List.flatMap_append, List.flatMap_cons]
      by_cases hk : l.length - (i + 1) = 0
      · have hd : l.drop (i + 1) = [] := List.eq_nil_of_length_eq_zero (by rw [List.length_drop]; exact hk)
        refine ⟨m.bump n, f l[i], ?_, hf _, ?_, Ext.bump.upd⟩
        · rw [hk]
          simp only [aApp, sliceLen, Option.bind_some, aSrc, if_true]
          rw [if_pos ⟨by omega, by rw [hbm]; rfl⟩, show i = l.length - 1 by omega]
        · rw [hbm, hE, hd, List.append_nil, hall, hl2, hd, List.flatMap_nil, List.append_nil]
      · have hsl : Sl (m.bump n) 4 (l.length - (i + 1)) ((l.drop (i + 1)).flatMap f) (.slice (some ⟨b, (i + 1) * 4, none⟩) (l.length - (i + 1)) (c - (i + 1))) := by
          refine .at (by omega) ?_
          unfold aCells
          rw [hbm]
          have e1 : all.length = c * 4 := hal
          have e2 : (i + 1) * 4 + (l.length - (i + 1)) * 4 = l.length * 4 := by rw [← Nat.add_mul]; congr 1; omega
          have e3 : all.drop ((i + 1) * 4) = (l.drop (i + 1)).flatMap f ++ sp := by
            rw [hall, hl2]
            have : ((l.take i).flatMap f ++ (f l[i] ++ (l.drop (i + 1)).flatMap f) ++ sp) = ((l.take i).flatMap f ++ f l[i]) ++ ((l.drop (i + 1)).flatMap f ++ sp) := by simp only [List.append_assoc]
            rw [this]
            exact List.drop_left' (by rw [List.length_append, hti, hf, Nat.succ_mul])
          simp only
          rw [if_pos (by omega), e3, List.take_left' hdi]
        obtain ⟨s1, s2⟩ := hsl.src
        have oneD : oneCells ((l.drop (i + 1)).flatMap f) = true := by
          unfold oneCells
          rw [List.all_eq_true]
          intro x hx
          obtain ⟨y, _, hy⟩ := List.mem_flatMap.1 hx
          have := h1 y
          unfold oneCells at this
          exact List.all_eq_true.1 this x hy
        obtain ⟨B, X, hBX, hBl, hXl⟩ : ∃ B X : List Value, f l[i] ++ (l.drop (i + 1)).flatMap f = B ++ X ∧ B.length = (l.length - (i + 1)) * 4 ∧ X.length = 4 := by
          refine ⟨_, _, (List.take_append_drop ((l.length - (i + 1)) * 4) _).symm, ?_, ?_⟩
          · rw [List.length_take, List.length_append, hdi]; omega
          · rw [List.length_drop, List.length_append, hdi, hf]; omega
        have hw : writeL all (i * 4) ((l.drop (i + 1)).flatMap f) = (l.eraseIdx i).flatMap f ++ X ++ sp := by
          rw [pl_upd2 (A := (l.take i).flatMap f) (B := B) (C := X ++ sp) (by rw [hall, hl2, hBX]; simp only [List.append_assoc]) hti (by rw [hdi, hBl]), hE, List.flatMap_append]
          simp only [List.append_assoc]
        have hlen : i * 4 + (l.length - (i + 1)) * 4 ≤ all.length := by
          have e1 : all.length = c * 4 := hal
          have : i * 4 + (l.length - (i + 1)) * 4 ≤ l.length * 4 := by rw [← Nat.add_mul]; exact Nat.mul_le_mul_right _ (by omega)
          omega
        refine ⟨(m.bump n).set b (some (.cells ((l.eraseIdx i).flatMap f ++ X ++ sp) (some 4))), X, ?_, hXl, by simp [Mem.set], Ext.bump.upd.trans (Upd.set (fp := [b]) (by simp)) (fun _ h => h) (fun _ h => .inl h)⟩
        simp only [aApp, s2, Option.bind_some, s1, hk, if_false, Nat.zero_add]
        rw [if_pos (by omega)]
        unfold aWrite
        rw [hbm]
        simp only
        rw [if_pos ⟨by omega, oneD⟩, hw, show i + (l.length - (i + 1)) = l.length - 1 by omega]
        rfl
    obtain ⟨m1, X, k1, k2, k3, k4⟩ := key (m.next + 6) 8
    have hE2 : (l.eraseIdx i).length = l.length - 1 := by rw [List.length_eraseIdx]; simp [hi]
    have hfe : ((l.eraseIdx i).flatMap f).length = (l.length - 1) * 4 := by rw [flat_len hf, hE2]
    have hun1 : unitOk 4 m1 b = true := unitOk_own k3
    have c3 : aSub 4 m1 (.slice (some ⟨b, 0, none⟩) (l.length - 1) c) (some (.int .i64 ((l.length - 1 : Nat) : Int))) (some (.int .i64 (l.length : Nat))) none = some (.slice (some ⟨b, (l.length - 1) * 4, none⟩) 1 (c - (l.length - 1))) := by
      have := sub_both (m := m1) (b := b) (o := 0) (n := l.length - 1) (c := c) (u := 4) (k := .i64) (k' := .i64) (i := l.length - 1) (j := l.length) hun1 (by omega) hnc
      rw [Nat.zero_add, show l.length - (l.length - 1) = 1 by omega] at this
      exact this
    have hclr : aClr 4 [(.int .i64 0), (.int .i64 0), (.int .i64 0), (.slice none 0 0)] m1 (.slice (some ⟨b, (l.length - 1) * 4, none⟩) 1 (c - (l.length - 1))) = some (m1.set b (some (.cells ((l.eraseIdx i).flatMap f ++ [(.int .i64 0), (.int .i64 0), (.int .i64 0), (.slice none 0 0)] ++ all.drop (l.length * 4)) (some 4)))) := by
      simp only [aClr]
      rw [if_neg (by omega), if_pos (show ([(.int .i64 0), (.int .i64 0), (.int .i64 0), (.slice none 0 0)] : List Value).length = 4 from rfl)]
      unfold aWrite
      rw [k3]
      have hz : zeros [(.int .i64 0), (.int .i64 0), (.int .i64 0), (.slice none 0 0)] 1 = [(.int .i64 0), (.int .i64 0), (.int .i64 0), (.slice none 0 0)] := by simp [zeros]
      rw [hz]
      simp only
      rw [if_pos ⟨by simp only [List.length_append, hfe, k2, List.length_cons, List.length_nil]; omega, rfl⟩]
      congr 4
      exact pl_upd2 rfl hfe (by rw [k2]; rfl)
    simp only [go_sem, Int.reduceBEq, Int.reduceBNe, Int.reduceNeg, reduceCtorEq, Nat.reduceEqDiff, Nat.reduceAdd, Nat.reduceLeDiff, Nat.reduceMul, Nat.reduceSub, Int.reduceToNat, Int.reduceLT, Int.reduceLE, len_s, b3, ne, c1, c2]
    rw [k1]
    simp only [go_sem, Int.reduceBEq, Int.reduceBNe, Int.reduceNeg, reduceCtorEq, Nat.reduceEqDiff, Nat.reduceAdd, Nat.reduceLeDiff, Nat.reduceMul, Nat.reduceSub, Int.reduceToNat, Int.reduceLT, Int.reduceLE, len_s, c3, hclr]
    have hu : Upd m (m1.set b (some (.cells ((l.eraseIdx i).flatMap f ++ [(.int .i64 0), (.int .i64 0), (.int .i64 0), (.slice none 0 0)] ++ all.drop (l.length * 4)) (some 4)))) [b] := k4.trans (Upd.set (fp := [b]) (by simp)) (fun _ h => h) (fun _ h => .inl h)
    refine ⟨?_, hu.ext_of hx0 (by simpa using hb), rfl, hu⟩
    rw [← hE2]
    refine .at (all := (l.eraseIdx i).flatMap f ++ [(.int .i64 0), (.int .i64 0), (.int .i64 0), (.slice none 0 0)] ++ all.drop (l.length * 4)) hb (Nat.lt_of_lt_of_le hb2 hu.next) (by omega) (by simp [Mem.set]) ?_ ?_ ?_
    · have e1 : l.length * 4 ≤ c * 4 := Nat.mul_le_mul_right _ hnc
      have e2 : (l.length - 1) * 4 + 4 = l.length * 4 := by rw [← Nat.succ_mul]; congr 1; omega
      simp only [List.length_append, hfe, List.length_drop, hal, List.length_cons, List.length_nil]
      omega
    · rw [List.append_assoc, List.take_left' (by rw [hfe, hE2])]
    · unfold oneCells
      rw [List.all_eq_true]
      intro x hx
      obtain ⟨y, _, hy⟩ := List.mem_flatMap.1 hx
      have := h1 y
      unfold oneCells at this
      exact List.all_eq_true.1 this x hy
end Go.Am


/- slices.Insert of one element, in our machine. -/
set_option linter.unusedVariables false
namespace Go.Am
open Go.RowKit

def insRow (u i : Nat) (row v : List Value) : List Value := row.take (i * u) ++ v ++ row.drop (i * u)

def X.insert (u by_ : Nat) : List Value → Mem → Option (Value × Mem)
  | [.slice none 0 0, .int .i64 i, .slice (some xa) 1 vc], m => if i = 0 then aApp none u by_ m (.slice none 0 0) (.slice (some xa) 1 vc) else none
  | [.slice (some ⟨b, o, none⟩) n cp, .int .i64 i, .slice (some ⟨vb, vo, none⟩) 1 vc], m =>
    if i = n then aApp none u by_ m (.slice (some ⟨b, o, none⟩) n cp) (.slice (some ⟨vb, vo, none⟩) 1 vc)
    else
      match m.blk b, m.blk vb with
      | some (.cells cs (some u')), some (.cells xs (some _)) =>
        if u' = u ∧ 0 < u ∧ 0 < by_ ∧ 0 ≤ i ∧ i < n ∧ vb ≠ b ∧ n ≤ cp ∧ o + cp * u = cs.length ∧ (n + 1) * by_ ≤ 2 ^ 47 ∧ n < 1000000000 ∧ vo + u ≤ xs.length ∧ oneCells ((cs.drop o).take (n * u)) = true ∧ oneCells ((xs.drop vo).take u) = true then
          some (.slice (some ⟨m.next, 0, none⟩) (n + 1) (n + 1), (m.set b none).new (.cells (insRow u i.toNat ((cs.drop o).take (n * u)) ((xs.drop vo).take u)) (some u)))
        else none
      | _, _ => none
  | _, _ => none

structure InsOk (P : Program) (f u by_ : Nat) (ts te : TypeId) : Prop where
  ht : P.underlying ts = some (.slice te)
  hs : szOf P te = some u
  hby : byOf P te = some by_
  hz : ∃ z, zeroOf P te = some z ∧ z.cells.size = u
  hu : 0 < u
  hb0 : 0 < by_
  shift : ∀ (b off n c i vb voff vc : Nat) (cs vs : List Value) (w : World), i < n → n + 1 ≤ c → n ≤ 1000000000 → vb ≠ b → cs.length = n * u → vs.length = u →
    (∀ j v, cs[j]? = some v → w.cell? ⟨b, off + j, none⟩ = some v) → (∀ j, j < (n + 1) * u → (w.cell? ⟨b, off + j, none⟩).isSome = true) → (∀ j, w.frozen? ⟨b, j, none⟩ = false) →
    (∀ j v, vs[j]? = some v → w.cell? ⟨vb, voff + j, none⟩ = some v) → (∀ v ∈ cs, v.oneCell' = true) → (∀ v ∈ vs, v.oneCell' = true) →
    ∀ (tA tB : TypeId) (kA kB : Nat), w.shape? vb = some (tA, kA) → w.shape? b = some (tB, kB) → kB ≠ 0 → w.frozen? ⟨vb, voff, none⟩ = false → w.frozen? ⟨vb, kA, none⟩ = false →
    Calls P f #[.slice (some ⟨b, off, none⟩) n c, .int .i64 i, .slice (some ⟨vb, voff, none⟩) 1 vc] w fun e w' =>
      e = .returned (.slice (some ⟨b, off, none⟩) (n + 1) c) ∧ w' = (w.drew.setCells b (off + (i + 1) * u) (cs.drop (i * u))).setCells b (off + i * u) vs
  grow : ∀ (b off n c i vb voff vc : Nat) (cs vs : List Value) (w : World), i < n → n ≤ c → c < n + 1 → (n + 1) * by_ ≤ 140737488355328 → vb ≠ b → cs.length = n * u → vs.length = u →
    (∀ j v, cs[j]? = some v → w.cell? ⟨b, off + j, none⟩ = some v) → (∀ j v, vs[j]? = some v → w.cell? ⟨vb, voff + j, none⟩ = some v) → (∀ v ∈ cs, v.oneCell' = true) → (∀ v ∈ vs, v.oneCell' = true) →
    Calls P f #[.slice (some ⟨b, off, none⟩) n c, .int .i64 i, .slice (some ⟨vb, voff, none⟩) 1 vc] w fun e w' =>
      ∃ (G : Nat) (R : Array Value), e = .returned (.slice (some ⟨w.heap.size, 0, none⟩) (n + 1) G) ∧ n + 1 ≤ G ∧ R.size = G * u ∧ (∀ j, j < i * u → R[j]? = cs[j]?) ∧
        w' = (((w.alloc (.cells R te)).drew.setCells w.heap.size (i * u) vs).drew).setCells w.heap.size ((i + 1) * u) (cs.drop (i * u))
  end_ : ∀ (base : Option Addr) (n c : Nat) (xa : Option Addr) (vc : Nat) (w w2 : World) (v2 : Value), n ≤ c → (base = none → c = 0) →
    (Builtin.append_ #[ts, ts] ts #[.slice base n c, .slice xa 1 vc]).run P w = .ok v2 w2 →
    Calls P f #[.slice base n c, .int .i64 n, .slice xa 1 vc] w fun e w' => e = .returned v2 ∧ w' = w2

variable {P : Program} {B0 : Nat} {σ : Inj} {m : Mem} {w : World}

theorem MR.setCells_out {B : Nat} (hB : B0 ≤ B) : ∀ (vs : List Value) (o : Nat) {w : World}, MR B0 σ m w → (∀ j, j < vs.length → ∃ u, w.cell? ⟨B, o + j, none⟩ = some u) →
    (∀ j, j < vs.length → ∀ b i c own, σ b = .live i → m.blk b = some (.cells c own) → ∀ k, k < i.len → (⟨B, o + j, none⟩ : Addr) ≠ ⟨i.block, i.off + k, none⟩) → MR B0 σ m (w.setCells B o vs) ∧ Below B0 w (w.setCells B o vs)
  | [], _, w, h, _, _ => ⟨h, Below.refl _ _⟩
  | v :: r, o, w, h, hc, ho => by
    have h1 := h.setCell_out (a := ⟨B, o, none⟩) (v := v) hB (by simpa using hc 0 (by simp)) (fun b i c own hb hm j hj => by simpa using ho 0 (by simp) b i c own hb hm j hj)
    obtain ⟨h2, h3⟩ := MR.setCells_out hB r (o + 1) h1 (fun j hj => by
      obtain ⟨x, hx⟩ := hc (j + 1) (by simp; omega)
      exact ⟨x, by rw [World.cell?_setCell_other _ _ _ _ (by simp <;> omega)]; rw [show o + 1 + j = o + (j + 1) by omega]; exact hx⟩) (fun j hj b i c own hb hm k hk => by
      have := ho (j + 1) (by simp; omega) b i c own hb hm k hk
      rwa [show o + (j + 1) = o + 1 + j by omega] at this)
    exact ⟨h2, ((Below.refl _ w).setCell hB v).trans h3⟩

/-- What really lies where a block's cells are. -/
theorem MR.real (h : MR B0 σ m w) {b o k : Nat} {i : Img} {c : List Value} {own : Option Nat} (hb : σ b = .live i) (hm : m.blk b = some (.cells c own)) (hle : o + k ≤ c.length) :
    ∃ C : List Value, C.length = k ∧ (∀ (j : Nat) v, C[j]? = some v → w.cell? ⟨i.block, i.off + o + j, none⟩ = some v) ∧ LR σ ((c.drop o).take k) C := by
  obtain ⟨-, hc⟩ := h.cells b i c own hb hm
  have key : ∀ j, j < k → ∃ v', w.cell? ⟨i.block, i.off + o + j, none⟩ = some v' ∧ ∀ v, c[o + j]? = some v → VR σ v v' := fun j hj => by
    obtain ⟨v', h1, h2⟩ := hc (o + j) c[o + j] (List.getElem?_eq_getElem (by omega))
    exact ⟨v', by rw [Nat.add_assoc]; exact h1, fun v hv => by rw [List.getElem?_eq_getElem (by omega)] at hv; cases hv; exact h2⟩
  refine ⟨List.ofFn fun j : _root_.Fin k => (key j.1 j.2).choose, by simp, fun j v hj => ?_, ?_, fun j x y hx hy => ?_⟩
  · have hjk : j < k := by have := (List.getElem?_eq_some_iff.1 hj).1; simpa using this
    rw [List.getElem?_ofFn] at hj
    simp only [hjk, dite_true, Option.some.injEq] at hj
    rw [← hj]; exact (key j hjk).choose_spec.1
  · simp; omega
  · have hjk : j < k := by have := (List.getElem?_eq_some_iff.1 hy).1; simpa using this
    rw [List.getElem?_ofFn] at hy
    simp only [hjk, dite_true, Option.some.injEq] at hy
    rw [List.getElem?_take, if_pos hjk, List.getElem?_drop] at hx
    rw [← hy]; exact (key j hjk).choose_spec.2 x hx

theorem oneCells_sub {a b : List Value} (h : oneCells a = true) (hs : ∀ x ∈ b, x ∈ a) : oneCells b = true := by
  unfold oneCells at *
  rw [List.all_eq_true] at *
  exact fun x hx => h x (hs x hx)
theorem one_mem {xs ys : List Value} (h : LR σ xs ys) (hx : oneCells xs = true) : ∀ v ∈ ys, v.oneCell' = true := by
  have := oneCells_lr h hx
  rwa [List.all_eq_true] at this
theorem LR.app {xs ys xs' ys' : List Value} (h : LR σ xs ys) (k : LR σ xs' ys') : LR σ (xs ++ xs') (ys ++ ys') :=
  ⟨by rw [List.length_append, List.length_append, h.1, k.1], fun j x y hx hy => by
    by_cases hj : j < xs.length
    · rw [List.getElem?_append_left hj] at hx
      rw [List.getElem?_append_left (by rw [← h.1]; exact hj)] at hy
      exact h.2 j x y hx hy
    · rw [List.getElem?_append_right (by omega)] at hx
      rw [List.getElem?_append_right (by rw [← h.1]; omega), ← h.1] at hy
      exact k.2 _ x y hx hy⟩
theorem LR.row {u i : Nat} {r r' v v' : List Value} (h : LR σ r r') (k : LR σ v v') : LR σ (insRow u i r v) (insRow u i r' v') := ((h.take _).app k).app (h.drop _)
theorem insRow_len {u i n : Nat} {r v : List Value} (hr : r.length = n * u) (hv : v.length = u) (hi : i < n) : (insRow u i r v).length = (n + 1) * u := by
  unfold insRow
  have h1 : i * u ≤ n * u := Nat.mul_le_mul_right _ (Nat.le_of_lt hi)
  rw [List.length_append, List.length_append, List.length_take, List.length_drop, hr, hv, Nat.succ_mul, Nat.min_eq_left h1]
  omega
/-- What stands in the new row, place by place. -/
theorem insRow_get {u i n j : Nat} {r v : List Value} (hr : r.length = n * u) (hv : v.length = u) (hi : i < n) :
    (insRow u i r v)[j]? = if j < i * u then r[j]? else if j < (i + 1) * u then v[j - i * u]? else (r.drop (i * u))[j - (i + 1) * u]? := by
  have hle : i * u ≤ n * u := Nat.mul_le_mul_right _ (Nat.le_of_lt hi)
  have e : (i + 1) * u = i * u + u := Nat.succ_mul _ _
  have hl : (r.take (i * u)).length = i * u := by rw [List.length_take]; omega
  unfold insRow
  rw [e]
  split
  · rw [List.getElem?_append_left (by rw [List.length_append, hl, hv]; omega), List.getElem?_append_left (by omega), List.getElem?_take, if_pos (by assumption)]
  · split
    · rw [List.getElem?_append_left (by rw [List.length_append, hl, hv]; omega), List.getElem?_append_right (by omega), hl]
    · rw [List.getElem?_append_right (by rw [List.length_append, hl, hv]; omega), List.length_append, hl, hv]

theorem X.insert_frame (u by_ : Nat) : ExtFrame (X.insert u by_) := by
  intro args m v m' k o hk hlt h
  have hb : ∀ {x : Nat} {ob : AObj}, m.blk x = some ob → x ≠ k ∧ (m.set k (some o)).blk x = some ob := fun {x ob} hx => by
    have : x ≠ k := by rintro rfl; rw [hk] at hx; cases hx
    exact ⟨this, by rw [Mem.set_ne _ _ this]; exact hx⟩
  unfold X.insert at h ⊢
  split at h
  · split at h
    · rename_i hi
      rw [if_pos hi]
      exact aApp_frame hk hlt (by simp) h
    · cases h
  · rename_i b oo n cp i vb vo vc
    split at h
    · rename_i hi
      rw [if_pos hi]
      exact aApp_frame hk hlt (by simp) h
    · rename_i hi
      rw [if_neg hi]
      split at h
      · rename_i cs u' xs u2 h1 h2
        split at h
        · rename_i hc
          obtain ⟨n1, e1⟩ := hb h1
          obtain ⟨n2, e2⟩ := hb h2
          simp only [e1, e2]
          rw [if_pos hc]
          cases h
          have hne : k ≠ m.next := by omega
          refine ⟨?_, ?_, ?_, ?_⟩
          · simp only [Mem.set_next, Option.some.injEq, Prod.mk.injEq, true_and]
            simp only [Mem.new, Mem.set]
            congr 1
            funext x
            by_cases h1 : x = k
            · subst h1; simp [hne, n1.symm]
            · simp [h1]; try rfl
          · simp [Mem.new, Mem.set, hne, hk]
          · simp [Mem.new]; omega
          · simp [Mem.new]
        · cases h
      · cases h
  · cases h

theorem MR.shape (h : MR B0 σ m w) {b : Nat} {i : Img} {c : List Value} {own : Option Nat} (hb : σ b = .live i) (hm : m.blk b = some (.cells c own)) (h0 : 0 < c.length) :
    ∃ (t : TypeId) (k : Nat), w.shape? i.block = some (t, k) ∧ k ≠ 0 := by
  obtain ⟨-, hc⟩ := h.cells b i c own hb hm
  obtain ⟨v', h1, -⟩ := hc 0 c[0] (List.getElem?_eq_getElem h0)
  unfold World.cell? at h1
  unfold World.shape?
  split at h1
  · rename_i hh
    refine ⟨_, _, by rw [hh], ?_⟩
    rename_i cc _ _
    simp only at h1
    intro e
    have : cc.size = 0 := e
    have h2 := (Array.getElem?_eq_some_iff.1 h1).1
    omega
  · cases h1

theorem some_setCells (b : Nat) (vs : List Value) (o : Nat) (w : World) (h : ∀ j, j < vs.length → (w.cell? ⟨b, o + j, none⟩).isSome = true) (k : Nat) (hk : (w.cell? ⟨b, k, none⟩).isSome = true) : ((w.setCells b o vs).cell? ⟨b, k, none⟩).isSome = true := by
  by_cases hin : o ≤ k ∧ k < o + vs.length
  · have := World.cell?_setCells_in b vs o w h (k - o) (by omega)
    rw [show o + (k - o) = k by omega] at this
    rw [this]; rfl
  · rw [World.cell?_setCells_out b vs o w ⟨b, k, none⟩ (fun _ _ => by show k < o ∨ o + vs.length ≤ k; omega)]
    exact hk

theorem ins_cells {u i n B off j : Nat} {C V : List Value} {W : World} (hC : C.length = n * u) (hV : V.length = u) (hi : i < n) (hj : j < (n + 1) * u) (h1 : ∀ q, q < i * u → W.cell? ⟨B, off + q, none⟩ = C[q]?) (h2 : ∀ q, q < (n + 1) * u → (W.cell? ⟨B, off + q, none⟩).isSome = true) :
    ((W.setCells B (off + (i + 1) * u) (C.drop (i * u))).setCells B (off + i * u) V).cell? ⟨B, off + j, none⟩ = (insRow u i C V)[j]? ∧
    ((W.setCells B (off + i * u) V).setCells B (off + (i + 1) * u) (C.drop (i * u))).cell? ⟨B, off + j, none⟩ = (insRow u i C V)[j]? := by
  have hle : i * u ≤ n * u := Nat.mul_le_mul_right _ (Nat.le_of_lt hi)
  have e : (i + 1) * u = i * u + u := Nat.succ_mul _ _
  have e2 : (n + 1) * u = n * u + u := Nat.succ_mul _ _
  have hD : (C.drop (i * u)).length = n * u - i * u := by rw [List.length_drop, hC]
  rw [insRow_get hC hV hi]
  constructor
  · split
    · rw [World.cell?_setCells_out _ _ _ _ _ (fun _ _ => by simp only; omega), World.cell?_setCells_out _ _ _ _ _ (fun _ _ => by simp only; omega)]
      exact h1 j (by assumption)
    · split
      · have := World.cell?_setCells_in B V (off + i * u) (W.setCells B (off + (i + 1) * u) (C.drop (i * u))) (fun q hq => some_setCells _ _ _ _ (fun t ht => by rw [Nat.add_assoc]; exact h2 _ (by omega)) _ (by rw [Nat.add_assoc]; exact h2 _ (by omega))) (j - i * u) (by omega)
        rw [show off + i * u + (j - i * u) = off + j by omega] at this
        rw [this, List.getElem?_eq_getElem (by omega)]
      · rw [World.cell?_setCells_out _ _ _ _ _ (fun _ _ => by simp only; omega)]
        have := World.cell?_setCells_in B (C.drop (i * u)) (off + (i + 1) * u) W (fun q hq => by rw [Nat.add_assoc]; exact h2 _ (by omega)) (j - (i + 1) * u) (by omega)
        rw [show off + (i + 1) * u + (j - (i + 1) * u) = off + j by omega] at this
        rw [this, List.getElem?_eq_getElem (by omega)]
  · split
    · rw [World.cell?_setCells_out _ _ _ _ _ (fun _ _ => by simp only; omega), World.cell?_setCells_out _ _ _ _ _ (fun _ _ => by simp only; omega)]
      exact h1 j (by assumption)
    · split
      · rw [World.cell?_setCells_out _ _ _ _ _ (fun _ _ => by simp only; omega)]
        have := World.cell?_setCells_in B V (off + i * u) W (fun q hq => by rw [Nat.add_assoc]; exact h2 _ (by omega)) (j - i * u) (by omega)
        rw [show off + i * u + (j - i * u) = off + j by omega] at this
        rw [this, List.getElem?_eq_getElem (by omega)]
      · have := World.cell?_setCells_in B (C.drop (i * u)) (off + (i + 1) * u) (W.setCells B (off + i * u) V) (fun q hq => some_setCells _ _ _ _ (fun t ht => by rw [Nat.add_assoc]; exact h2 _ (by omega)) _ (by rw [Nat.add_assoc]; exact h2 _ (by omega))) (j - (i + 1) * u) (by omega)
        rw [show off + (i + 1) * u + (j - (i + 1) * u) = off + j by omega] at this
        rw [this, List.getElem?_eq_getElem (by omega)]

theorem app_cap {u by_ b o n cp : Nat} {x v : Value} {m m' : Mem} (h : aApp none u by_ m (.slice (some ⟨b, o, none⟩) n cp) x = some (v, m')) (hx : sliceLen x = some 1) : n ≤ cp ∧ (m.blk b).isSome = true := by
  unfold aApp at h
  rw [hx] at h
  simp only [Option.bind_some] at h
  obtain ⟨xs, -, h'⟩ := Option.bind_eq_some_iff.1 h
  clear h
  simp only [Nat.one_ne_zero, if_false] at h'
  split at h'
  · obtain ⟨m1, h1, -⟩ := Option.map_eq_some_iff.1 h'
    refine ⟨by omega, ?_⟩
    unfold aWrite at h1
    split at h1
    · rename_i hb; rw [hb]; rfl
    · cases h1
  · split at h'
    · rename_i hb
      split at h'
      · rename_i hc
        exact ⟨hc.2.2.2.2.1, by rw [hb]; rfl⟩
      · cases h'
    · cases h'

theorem X.insert_sim {G : Nat → World → Prop} {f u by_ : Nat} {ts te : TypeId} (L : InsOk P f u by_ ts te) (args : List Value) (m : Mem) (v : Value) (m' : Mem) (h : X.insert u by_ args m = some (v, m')) : SimCall P G f args m v m' := by
  intro B0 σ args2 w hG hl hm
  obtain ⟨z, hz, hzs⟩ := L.hz
  unfold X.insert at h
  split at h
  · rename_i i xa vc
    split at h
    · rename_i hi
      subst hi
      obtain ⟨y1, r1, rfl, hy1, hr1⟩ := hl.cons_inv
      obtain ⟨y2, r2, rfl, hy2, hr2⟩ := hr1.cons_inv
      obtain ⟨y3, r3, rfl, hy3, hr3⟩ := hr2.cons_inv
      obtain rfl : r3 = [] := List.eq_nil_of_length_eq_zero hr3.1.symm
      obtain ⟨v2, w2, e1, e2⟩ := sim_app (P := P) (ty := ts) L.ht L.ht L.hs L.hby hz hzs L.hu L.hb0 hm (at_ := none) trivial hy1 hy3 h
      cases hy2
      cases hy1
      · have : ∃ xb vc', y3 = .slice xb 1 vc' := by cases hy3 <;> exact ⟨_, _, rfl⟩
        obtain ⟨xb, vc', rfl⟩ := this
        refine (L.end_ none 0 0 xb vc' w w2 v2 (Nat.le_refl _) (fun _ => rfl) e1).mono ?_
        rintro e w3 ⟨rfl, rfl⟩
        exact ⟨_, rfl, e2⟩
    · cases h
  · rename_i b o n cp i vb vo vc
    obtain ⟨y1, r1, rfl, hy1, hr1⟩ := hl.cons_inv
    obtain ⟨y2, r2, rfl, hy2, hr2⟩ := hr1.cons_inv
    obtain ⟨y3, r3, rfl, hy3, hr3⟩ := hr2.cons_inv
    obtain rfl : r3 = [] := List.eq_nil_of_length_eq_zero hr3.1.symm
    cases hy2
    split at h
    · rename_i hi
      subst hi
      obtain ⟨v2, w2, e1, e2⟩ := sim_app (P := P) (ty := ts) L.ht L.ht L.hs L.hby hz hzs L.hu L.hb0 hm (at_ := none) trivial hy1 hy3 h
      have h3 : ∃ xb vc', y3 = .slice xb 1 vc' := by cases hy3 <;> exact ⟨_, _, rfl⟩
      obtain ⟨xb, vc', rfl⟩ := h3
      obtain ⟨hnc, hsm⟩ := app_cap h rfl
      have h1 : ∃ q c', y1 = .slice (some q) n c' ∧ n ≤ c' := by
        cases hy1 with
        | slice q1 q2 q3 => exact ⟨_, _, rfl, Nat.le_trans hnc q2⟩
        | sliceZ q1 => exact ⟨_, _, rfl, Nat.le_refl _⟩
        | sliceDead q1 =>
          have := hm.dom b (fun i hi => by rw [q1] at hi; cases hi)
          rw [this] at hsm; cases hsm
      obtain ⟨q, c', rfl, hc'⟩ := h1
      refine (L.end_ (some q) n c' xb vc' w w2 v2 hc' (fun h => by cases h) e1).mono ?_
      rintro e w3 ⟨rfl, rfl⟩
      exact ⟨_, rfl, e2⟩
    · rename_i hi
      split at h
      · rename_i cs u' xs u2 h1 h2
        split at h
        · rename_i hc
          obtain ⟨rfl, hu0, hby0, hi0, hin, hvb, hncp, hocp, hbig, hn9, hvo, hone1, hone2⟩ := hc
          cases h
          obtain ⟨ib, hib⟩ := hm.live_of h1
          obtain ⟨iv, hiv⟩ := hm.live_of h2
          obtain ⟨ii, rfl⟩ : ∃ ii : Nat, i = ii := ⟨i.toNat, by omega⟩
          rw [Int.toNat_natCast]
          have hii : ii < n := by omega
          obtain ⟨hbu, hbB, hbrw⟩ := hm.rw b ib cs _ hib h1
          obtain ⟨hblen, -⟩ := hm.cells b ib cs _ hib h1
          obtain ⟨hvu, hvB, hvrw⟩ := hm.rw vb iv xs _ hiv h2
          obtain ⟨hvlen, -⟩ := hm.cells vb iv xs _ hiv h2
          have hnu : n * u' ≤ cp * u' := Nat.mul_le_mul_right _ hncp
          obtain ⟨C, hCl, hCc, hCr⟩ := hm.real (o := o) (k := n * u') hib h1 (by omega)
          obtain ⟨V, hVl, hVc, hVr⟩ := hm.real (o := vo) (k := u') hiv h2 hvo
          have hpos : 0 < n * u' := Nat.mul_pos (by omega) hu0
          have hy3' : ∃ vc', y3 = .slice (some ⟨iv.block, iv.off + vo, none⟩) 1 vc' := by
            cases hy3 with
            | slice q1 _ _ => rw [hiv] at q1; cases q1; exact ⟨_, rfl⟩
            | sliceDead q1 => rw [hiv] at q1; cases q1
          obtain ⟨vc', rfl⟩ := hy3'
          have hy1' : ∃ c', y1 = .slice (some ⟨ib.block, ib.off + o, none⟩) n c' ∧ n ≤ c' ∧ c' * u' ≤ cp * u' + ib.spare := by
            cases hy1 with
            | slice q1 q2 q3 =>
              rw [hib] at q1; cases q1
              rename_i c'
              refine ⟨c', rfl, by omega, ?_⟩
              by_cases hcc : cp < c'
              · have := (q3 hcc).2; rw [hbu] at this; exact this
              · have : c' = cp := by omega
                subst this; omega
            | sliceZ q1 => omega
            | sliceDead q1 => rw [hib] at q1; cases q1
          obtain ⟨c', rfl, hnc', hcsp⟩ := hy1'
          have hone1' : ∀ v ∈ C, v.oneCell' = true := one_mem hCr hone1
          have hone2' : ∀ v ∈ V, v.oneCell' = true := one_mem hVr hone2
          have hblk : iv.block ≠ ib.block := hm.apart vb b iv ib hvb hiv hib (.inl ⟨_, _, h2⟩)
          have hmk : MR B0 (σ.set b .dead) (m.set b none) w := hm.kill b (by rw [hib]; nofun)
          have hEk : Evo σ (σ.set b .dead) := Evo.set_dead
          have hothers : ∀ b' i', Inj.set σ b .dead b' = .live i' → i'.block ≠ ib.block := fun b' i' hb' => by
            have hne : b' ≠ b := by rintro rfl; rw [Inj.set_self] at hb'; cases hb'
            rw [Inj.set_ne _ _ hne] at hb'
            exact fun e => hm.apart b b' ib i' (fun e => hne e.symm) hib hb' (.inl ⟨_, _, h1⟩) e.symm
          have hfr : (Inj.set σ b .dead) m.next = .fresh := by
            rw [Inj.set_ne]; exact hm.fresh _ (Nat.le_refl _)
            intro e; rw [← e, hm.fresh _ (Nat.le_refl _)] at hib; cases hib
          have hCl' : C.length = n * u' := hCl
          have hrowl := insRow_len hCl' hVl hii
          have hrowA : (insRow u' ii ((cs.drop o).take (n * u')) ((xs.drop vo).take u')).length = (n + 1) * u' := insRow_len (by rw [hCr.1, hCl]) (by rw [hVr.1, hVl]) hii
          have hLR : LR (σ.set b .dead) (insRow u' ii ((cs.drop o).take (n * u')) ((xs.drop vo).take u')) (insRow u' ii C V) := by
            have := LR.row (u := u') (i := ii) hCr hVr
            exact ⟨this.1, fun j x y hx hy => (this.2 j x y hx hy).mono hEk⟩
          have fin : ∀ {w2 : World} {B off G : Nat}, MR B0 (σ.set b .dead) (m.set b none) w2 → B0 ≤ B → B < w2.heap.size → n + 1 ≤ G → (∀ j, j < (n + 1) * u' → w2.cell? ⟨B, off + j, none⟩ = (insRow u' ii C V)[j]?) →
              (∀ j, j < G * u' → (w2.cell? ⟨B, off + j, none⟩).isSome = true) → (∀ q, w2.frozen? ⟨B, q, none⟩ = false) → (∀ b' i', Inj.set σ b .dead b' = .live i' → B ≠ i'.block) → Below B0 w w2 →
              OpR P B0 σ m w none (.slice (some ⟨m.next, 0, none⟩) (n + 1) (n + 1)) ((m.set b none).new (.cells (insRow u' ii ((cs.drop o).take (n * u')) ((xs.drop vo).take u')) (some u'))) (.slice (some ⟨B, off, none⟩) (n + 1) G) w2 := by
            intro w2 B off G hm2 hB0 hBl hG hcell hex hfz hoth hbel
            have hle : (n + 1) * u' ≤ G * u' := Nat.mul_le_mul_right _ hG
            have := hm2.adopt (u := u') (c := insRow u' ii ((cs.drop o).take (n * u')) ((xs.drop vo).take u')) (i := ⟨B, off, (n + 1) * u', G * u' - (n + 1) * u', u'⟩) hB0 hBl hrowA.symm rfl (fun j x hj => by
                have hjl : j < (n + 1) * u' := by rw [← hrowA]; exact (List.getElem?_eq_some_iff.1 hj).1
                obtain ⟨y, hy, hv⟩ := hLR.get hj
                exact ⟨y, by rw [hcell j hjl]; exact hy, hv⟩) (fun j hj => ⟨Option.isSome_iff_exists.1 (hex j (by simp only at hj; omega)), hfz⟩) (fun b' i' hb' => hoth b' i' hb')
            refine ⟨(σ.set b .dead).set m.next (.live ⟨B, off, (n + 1) * u', G * u' - (n + 1) * u', u'⟩), ?_, this, hEk.trans (Evo.set_fresh hfr _), hbel, by simp [Mem.new], fun b' hb' _ hf => ?_⟩
            · exact VR.slice (i := ⟨B, off, (n + 1) * u', G * u' - (n + 1) * u', u'⟩) (by exact Inj.set_self _ _ _) hG (fun _ => by simp; omega)
            · rw [Inj.set_ne _ _ (by omega), Inj.set_ne]; exact hf
              rintro rfl; rw [hib] at hf; cases hf
          have hlb := hm.lt b ib hib
          have hle1 : (ii + 1) * u' ≤ (n + 1) * u' := Nat.mul_le_mul_right _ (by omega)
          have e1 : (ii + 1) * u' = ii * u' + u' := Nat.succ_mul _ _
          have e2 : (n + 1) * u' = n * u' + u' := Nat.succ_mul _ _
          have hle0 : ii * u' ≤ n * u' := Nat.mul_le_mul_right _ (by omega)
          by_cases hroom : n + 1 ≤ c'
          · have hlec : (n + 1) * u' ≤ c' * u' := Nat.mul_le_mul_right _ hroom
            have hsp : ∀ j, j < c' * u' → (w.cell? ⟨ib.block, ib.off + o + j, none⟩).isSome = true := fun j hj => by
              obtain ⟨⟨x, hx⟩, -⟩ := hbrw (o + j) (by omega)
              rw [Nat.add_assoc, hx]; rfl
            have hfz : ∀ q, w.frozen? ⟨ib.block, q, none⟩ = false := (hbrw 0 (by omega)).2
            obtain ⟨tA, kA, hsa, -⟩ := hm.shape hiv h2 (by omega)
            obtain ⟨tB, kB, hsb, hkB⟩ := hm.shape hib h1 (by omega)
            have hfv := (hvrw 0 (by omega)).2
            refine (L.shift ib.block (ib.off + o) n c' ii iv.block (iv.off + vo) vc' C V w hii hroom (by omega) hblk hCl hVl hCc (fun j hj => hsp j (by omega)) hfz hVc hone1' hone2' tA tB kA kB hsa hsb hkB (hfv _) (hfv _)).mono ?_
            rintro e w2 ⟨rfl, rfl⟩
            refine ⟨_, rfl, ?_⟩
            have hd0 : MR B0 (σ.set b .dead) (m.set b none) w.drew := hmk.same rfl
            have hout : ∀ (p : Nat), ∀ b0 i0 c0 own, Inj.set σ b .dead b0 = .live i0 → (m.set b none).blk b0 = some (.cells c0 own) → ∀ k, k < i0.len → (⟨ib.block, p, none⟩ : Addr) ≠ ⟨i0.block, i0.off + k, none⟩ := fun p b0 i0 c0 own hb0 _ k _ e => by
              simp only [Addr.mk.injEq] at e
              exact hothers b0 i0 hb0 e.1.symm
            have hdl : (C.drop (ii * u')).length = n * u' - ii * u' := by rw [List.length_drop, hCl]
            obtain ⟨hm1, hb1⟩ := MR.setCells_out hbB (C.drop (ii * u')) (ib.off + o + (ii + 1) * u') hd0 (fun j hj => Option.isSome_iff_exists.1 (by rw [Nat.add_assoc (ib.off + o)]; exact hsp _ (by omega))) (fun j hj => hout _)
            have hsp1 : ∀ j, j < c' * u' → ((w.drew.setCells ib.block (ib.off + o + (ii + 1) * u') (C.drop (ii * u'))).cell? ⟨ib.block, ib.off + o + j, none⟩).isSome = true := fun j hj =>
              some_setCells _ _ _ _ (fun t ht => by rw [Nat.add_assoc (ib.off + o)]; exact hsp _ (by omega)) _ (hsp j hj)
            obtain ⟨hm2, hb2⟩ := MR.setCells_out hbB V (ib.off + o + ii * u') hm1 (fun j hj => Option.isSome_iff_exists.1 (by rw [Nat.add_assoc (ib.off + o)]; exact hsp1 _ (by omega))) (fun j hj => hout _)
            have hbel := ((Below.refl B0 w).drew.trans hb1).trans hb2
            refine fin hm2 hbB (Nat.lt_of_lt_of_le hlb (by have := (((Below.refl w.heap.size w).drew).size); exact Nat.le_of_eq (by
                have sz : ∀ (vs : List Value) (q : Nat) (W : World), (W.setCells ib.block q vs).heap.size = W.heap.size := by
                  intro vs
                  induction vs with
                  | nil => intro q W; rfl
                  | cons x vs ih => intro q W; rw [World.setCells, ih]; simp
                rw [sz, sz]; rfl))) hroom (fun j hj => (ins_cells (W := w.drew) hCl hVl hii hj (fun q hq => by
                  have : q < C.length := by omega
                  rw [List.getElem?_eq_getElem this]
                  exact hCc q _ (List.getElem?_eq_getElem this)) (fun q hq => hsp q (by omega))).1) (fun j hj => some_setCells _ _ _ _ (fun t ht => by rw [Nat.add_assoc (ib.off + o)]; exact hsp1 _ (by omega)) _ (hsp1 j hj)) (fun q => by
                  rw [World.frozen?_setCells, World.frozen?_setCells]; exact hfz q) (fun b' i' hb' e => hothers b' i' hb' e.symm) hbel
          · refine (L.grow ib.block (ib.off + o) n c' ii iv.block (iv.off + vo) vc' C V w hii hnc' (by omega) hbig hblk hCl hVl hCc hVc hone1' hone2').mono ?_
            rintro e w2 ⟨G, Rw, rfl, hG, hRs, hRc, rfl⟩
            refine ⟨_, rfl, ?_⟩
            have hleG : (n + 1) * u' ≤ G * u' := Nat.mul_le_mul_right _ hG
            have hBw : Below w.heap.size w (((w.alloc (.cells Rw te)).drew.setCells w.heap.size (ii * u') V).drew.setCells w.heap.size ((ii + 1) * u') (C.drop (ii * u'))) := by
              have sc : ∀ (vs : List Value) (q : Nat) (W : World), Below w.heap.size w W → Below w.heap.size w (W.setCells w.heap.size q vs) := by
                intro vs
                induction vs with
                | nil => intro q W h; exact h
                | cons x vs ih => intro q W h; rw [World.setCells]; exact ih _ _ (h.setCell (Nat.le_refl _) x)
              exact sc _ _ _ (sc _ _ _ (((Below.refl _ w).alloc (Nat.le_refl _) _).drew)).drew
            have hA : ∀ j, (w.alloc (.cells Rw te)).cell? ⟨w.heap.size, j, none⟩ = Rw[j]? := fun j => World.cell?_alloc_new _ _ _ _
            have hex0 : ∀ j, j < G * u' → ((w.alloc (.cells Rw te)).cell? ⟨w.heap.size, 0 + j, none⟩).isSome = true := fun j hj => by
              rw [Nat.zero_add, hA, Array.getElem?_eq_getElem (by omega)]; rfl
            have hw2 : ((w.alloc (.cells Rw te)).drew.setCells w.heap.size (ii * u') V).drew.setCells w.heap.size ((ii + 1) * u') (C.drop (ii * u')) = (((w.alloc (.cells Rw te)).setCells w.heap.size (0 + ii * u') V).setCells w.heap.size (0 + (ii + 1) * u') (C.drop (ii * u'))).drew.drew := by
              have dr : ∀ (vs : List Value) (q : Nat) (W : World), W.drew.setCells w.heap.size q vs = (W.setCells w.heap.size q vs).drew := by
                intro vs
                induction vs with
                | nil => intro q W; rfl
                | cons x vs ih => intro q W; rw [World.setCells, World.setCells, ← ih]; rfl
              rw [dr, dr, dr, Nat.zero_add, Nat.zero_add]
            have hdl : (C.drop (ii * u')).length = n * u' - ii * u' := by rw [List.length_drop, hCl]
            have hex1 : ∀ j, j < G * u' → (((w.alloc (.cells Rw te)).setCells w.heap.size (0 + ii * u') V).cell? ⟨w.heap.size, 0 + j, none⟩).isSome = true := fun j hj =>
              some_setCells _ _ _ _ (fun t ht => by rw [Nat.add_assoc]; exact hex0 _ (by omega)) _ (hex0 j hj)
            refine fin (hmk.below hBw) hm.size ?_ hG (fun j hj => ?_) (fun j hj => ?_) (fun q => ?_) (fun b' i' hb' => ?_) (hBw.mono hm.size)
            · have := hBw.size
              have sz : ∀ (vs : List Value) (q : Nat) (W : World), (W.setCells w.heap.size q vs).heap.size = W.heap.size := by
                intro vs
                induction vs with
                | nil => intro q W; rfl
                | cons x vs ih => intro q W; rw [World.setCells, ih]; simp
              rw [sz]
              show w.heap.size < (World.setCells _ _ _ _).heap.size
              rw [sz]
              show w.heap.size < (w.heap.push _).size
              simp
            · rw [hw2]
              exact (ins_cells (off := 0) hCl hVl hii hj (fun q hq => by rw [Nat.zero_add, hA]; exact hRc q hq) (fun q hq => hex0 q (by omega))).2
            · rw [hw2]
              exact some_setCells _ _ _ _ (fun t ht => by rw [Nat.add_assoc]; exact hex1 _ (by omega)) _ (hex1 j hj)
            · rw [World.frozen?_setCells]
              show World.frozen? (World.setCells _ _ _ _) _ = false
              rw [World.frozen?_setCells]
              exact World.frozen?_alloc_new w Rw te q
            · have hne : b' ≠ b := by rintro rfl; rw [Inj.set_self] at hb'; cases hb'
              rw [Inj.set_ne _ _ hne] at hb'
              have := hm.lt b' i' hb'
              omega
        · cases h
      · cases h
  · cases h
end Go.Am
namespace Go.Proofs
open Go.RowKit
theorem run_copy_k {P : Program} (w : World) (k : Nat) (dT sT ty elem : TypeId) (b o dLen dCap : Nat) (a : Addr) (sLen sCap n : Nat) (cs : List Value)
    (hu : P.underlying dT = some (.slice elem)) (hs : (P.info? elem).map (·.size) = some k) (hn : n = Nat.min sLen dLen) (hl : cs.length = n * k)
    (hsrc : ∀ j v, cs[j]? = some v → w.cell? (a.add j) = some v) (hc : ∀ j, j < cs.length → (w.cell? ⟨b, o + j, none⟩).isSome = true) (hf : ∀ j, j < cs.length → w.frozen? ⟨b, o + j, none⟩ = false) (h1 : ∀ v ∈ cs, v.oneCell' = true) :
    (Builtin.copy_ #[dT, sT] ty #[.slice (some ⟨b, o, none⟩) dLen dCap, .slice (some a) sLen sCap]).run P w = .ok (goInt n) (w.setCells b o cs) := by
  have hld := run_loadCells_list (P := P) w a cs hsrc
  rw [hl] at hld
  have hst := run_storeCells_cells (P := P) b o cs 0 w (by simpa using hc) (by simpa using hf) h1
  cases hq : P.info? elem with
  | none => simp [hq] at hs
  | some i =>
    have hi : i.size = k := by simpa [hq] using hs
    simp [Builtin.copy_, run_underlying hu, Builtin.lenOf, Builtin.firstCells, sizeOf, typeInfo, hq, hi, ← hn, hld, hst]
end Go.Proofs


/- slices.Insert at one's own row. -/
set_option linter.unusedVariables false
set_option linter.unusedSimpArgs false
namespace Go.Am

/-- One more behind one's own, out of another block. -/
theorem Own.app1 {m0 m : Mem} {u n by_ : Nat} {cs xs : List Value} {v x : Value} (h : Own m0 m u n cs v) (hx : Ext m0 m) (hs : Sl m u 1 xs x) (h1 : oneCells xs = true) (hby : (n + 1) * by_ ≤ 2 ^ 47) (hn : n + 1 < 2 ^ 62) :
    ∃ v' m', aApp none u by_ m v x = some (v', m') ∧ Own m0 m' u (n + 1) (cs ++ xs) v' ∧ Ext m0 m' := by
  obtain ⟨hsrc, hlen⟩ := hs.src
  have hxl := hs.length
  cases h with
  | nil h hc =>
    subst h; subst hc
    refine ⟨.slice (some ⟨m.next, 0, none⟩) 1 1, m.new (.cells xs (some u)), ?_, ?_, hx.trans Ext.new⟩
    · simp only [aApp, hlen, Option.bind_some, hsrc, Nat.one_ne_zero, if_false]
      rw [if_pos ⟨by simpa using hby, by simp, h1⟩]
      rfl
    · rw [Nat.zero_add, List.nil_append]
      exact .at (all := xs) hx.next (by simp [Mem.new]) (Nat.le_refl _) (by simp [Mem.new]) hxl (by rw [← hxl, List.take_length]) h1
  | @«at» b c all hb hb2 hnc hm hl hcs hone =>
    by_cases hroom : n + 1 ≤ c
    · have hle : n * u + 1 * u ≤ c * u := by rw [← Nat.add_mul]; exact Nat.mul_le_mul_right _ hroom
      refine ⟨.slice (some ⟨b, 0, none⟩) (n + 1) c, m.set b (some (.cells (writeL all (n * u) xs) (some u))), ?_, ?_, hx.set hb⟩
      · simp only [aApp, hlen, Option.bind_some, hsrc, Nat.one_ne_zero, if_false, Nat.zero_add]
        rw [if_pos hroom]
        unfold aWrite
        rw [hm]
        simp only
        rw [if_pos ⟨by omega, h1⟩]; rfl
      · refine .at (all := writeL all (n * u) xs) hb (by simpa [Mem.set] using hb2) hroom (by simp [Mem.set]) ?_ ?_ (oneCells_append hone h1)
        · unfold writeL; simp; omega
        · unfold writeL
          rw [Nat.add_mul, List.append_assoc, List.take_append]
          have e : (all.take (n * u)).length = n * u := by simp; omega
          rw [e, List.take_of_length_le (by omega), show n * u + 1 * u - n * u = xs.length by omega, List.take_left, hcs]
    · have hcn : n = c := by omega
      subst hcn
      have hall : all.take (n * u) = all := by rw [← hl, List.take_length]
      rw [hall] at hcs
      subst hcs
      refine ⟨.slice (some ⟨m.next, 0, none⟩) (n + 1) (n + 1), (m.set b none).new (.cells (all ++ xs) (some u)), ?_, ?_, (hx.set hb).trans Ext.new⟩
      · simp only [aApp, hlen, Option.bind_some, hsrc, Nat.one_ne_zero, if_false, Nat.zero_add]
        rw [if_neg hroom, hm]
        simp only [List.drop_zero, hall]
        rw [if_pos ⟨hby, hn, h1, hone, Nat.le_refl _, by omega, .inr ⟨by first | rfl | trivial, .inr (by first | rfl | trivial)⟩⟩]
        simp only [Option.isSome_some, true_and, hl, if_true, place]
        rfl
      · refine .at (all := all ++ xs) (by have := hx.next; omega) (by simp [Mem.new, Mem.set]) (Nat.le_refl _) (by simp [Mem.new, Mem.set]) (by simp [hl, hxl, Nat.add_mul]) ?_ (oneCells_append hone h1)
        rw [Nat.add_mul, List.take_of_length_le (by simp; omega)]

theorem oneCells_ins {u i : Nat} {cs es : List Value} (h1 : oneCells cs = true) (h2 : oneCells es = true) : oneCells (insRow u i cs es) = true := by
  unfold insRow
  exact oneCells_append (oneCells_append (oneCells_sub h1 fun x hx => List.mem_of_mem_take hx) h2) (oneCells_sub h1 fun x hx => List.mem_of_mem_drop hx)

/-- One element into one's own row. -/
theorem insert_own {m0 m : Mem} {u n by_ q i : Nat} {cs es : List Value} {v : Value} (h : Own m0 m u n cs v) (hx : Ext m0 m) (hq : Bk m q es u) (hqv : q ∉ vb v) (he : es.length = u) (h1 : oneCells es = true) (hu : 0 < u) (hb0 : 0 < by_) (hby : (n + 1) * by_ ≤ 2 ^ 47) (hn : n < 1000000000) (hi : i ≤ n) :
    ∃ v' m', X.insert u by_ [v, .int .i64 i, .slice (some ⟨q, 0, none⟩) 1 1] m = some (v', m') ∧ Own m0 m' u (n + 1) (insRow u i cs es) v' ∧ Ext m0 m' := by
  have hs : Sl m u 1 es (.slice (some ⟨q, 0, none⟩) 1 1) := by
    refine .at (Nat.le_refl _) ?_
    unfold aCells
    rw [hq.at_]
    simp only [Nat.zero_add, List.drop_zero, Nat.one_mul]
    rw [if_pos (by omega), ← he, List.take_length]
  obtain ⟨v', m', e1, e2, e3⟩ := h.app1 (by_ := by_) hx hs h1 hby (by omega)
  have hcl := h.sl.length
  have hend : i = n → insRow u i cs es = cs ++ es := by
    rintro rfl
    unfold insRow
    rw [List.take_of_length_le (by omega), List.drop_of_length_le (by omega), List.append_nil]
  cases h with
  | nil hn0 hc =>
    subst hn0
    obtain rfl : i = 0 := by omega
    refine ⟨v', m', ?_, by rw [hend rfl]; exact e2, e3⟩
    simp only [X.insert]
    rw [if_pos (by rfl)]; exact e1
  | @«at» b c all hb hb2 hnc hm hl hcs hone =>
    by_cases hin : i = n
    · refine ⟨v', m', ?_, by rw [hend hin]; exact e2, e3⟩
      simp only [X.insert]
      rw [if_pos (by rw [hin])]; exact e1
    · have hnu : n * u ≤ c * u := Nat.mul_le_mul_right _ hnc
      have hqb : q ≠ b := fun e => hqv (by simp [vb, e])
      have hrow : (all.drop 0).take (n * u) = cs := by rw [List.drop_zero, hcs]
      have hx2 : (es.drop 0).take u = es := by rw [List.drop_zero, ← he, List.take_length]
      refine ⟨.slice (some ⟨m.next, 0, none⟩) (n + 1) (n + 1), (m.set b none).new (.cells (insRow u i cs es) (some u)), ?_, ?_, (hx.set hb).trans Ext.new⟩
      · simp only [X.insert]
        rw [if_neg (by omega), hm, hq.at_]
        simp only []
        rw [hrow, hx2, if_pos ⟨by first | rfl | trivial, hu, hb0, by omega, by omega, hqb, hnc, by omega, by omega, hn, by omega, hone, h1⟩, Int.toNat_natCast]
      · have hlen : (insRow u i cs es).length = (n + 1) * u := insRow_len hcl he (by omega)
        exact .at (all := insRow u i cs es) (by have := hx.next; omega) (by simp [Mem.new, Mem.set]) (Nat.le_refl _) (by simp [Mem.new, Mem.set]) hlen (by rw [← hlen, List.take_length]) (oneCells_ins hone h1)

theorem insRow_flat {α : Type} {f : α → List Value} {u i : Nat} {l : List α} {a : α} (hf : ∀ a, (f a).length = u) (hi : i ≤ l.length) : insRow u i (l.flatMap f) (f a) = (l.take i ++ a :: l.drop i).flatMap f := by
  unfold insRow
  have e : l.flatMap f = (l.take i).flatMap f ++ (l.drop i).flatMap f := by rw [← List.flatMap_append, List.take_append_drop]
  have hl : ((l.take i).flatMap f).length = i * u := by rw [flat_len hf, List.length_take]; congr 1; omega
  rw [e, List.take_left' hl, List.drop_left' hl]
  simp
end Go.Am


/- Cuts of slices. -/
set_option linter.unusedVariables false
set_option linter.unusedSimpArgs false
namespace Go.Am

/-- A slice that may be cut. -/
def Cut (u : Nat) (m : Mem) (v : Value) : Prop := ∀ b o n c, v = .slice (some ⟨b, o, none⟩) n c → unitOk u m b = true
theorem Cutable.cut {u : Nat} {m : Mem} {v : Value} (h : Cutable m v) : Cut u m v := fun b o n c e => by subst e; exact h.unit
theorem Own.cut {m0 m : Mem} {u n : Nat} {cs : List Value} {v : Value} (h : Own m0 m u n cs v) : Cut u m v := by
  intro b o n' c e
  cases h with
  | nil => cases e
  | «at» hb hb2 hn hm hl hcs h1 => cases e; exact unitOk_own hm
theorem Cut.keep {u : Nat} {m m' : Mem} {v : Value} (h : Cut u m v) (hb : SlLt m v) (hx : Ext m m') : Cut u m' v := by
  intro b o n c e
  have := h b o n c e
  subst e
  unfold unitOk at this ⊢
  rw [hx.same b hb]; exact this

theorem aCells_split {m : Mem} {b o n k : Nat} {cs : List Value} (h : aCells m b o n = some cs) (hk : k ≤ n) : aCells m b o k = some (cs.take k) ∧ aCells m b (o + k) (n - k) = some (cs.drop k) := by
  unfold aCells at h ⊢
  split at h
  · rename_i c w hm
    split at h
    · rename_i hle
      cases h
      constructor
      · rw [if_pos (by omega), List.take_take, Nat.min_eq_left hk]
      · rw [if_pos (by omega), ← List.drop_drop, List.drop_take]
    · cases h
  · cases h

theorem Sl.to {m : Mem} {u n : Nat} {cs : List Value} {v : Value} (h : Sl m u n cs v) (hc : Cut u m v) {k : IntKind} {i : Nat} (hi : i ≤ n) :
    ∃ v', aSub u m v none (some (.int k i)) none = some v' ∧ Sl m u i (cs.take (i * u)) v' ∧ (SlLt m v → SlLt m v') ∧ Cut u m v' := by
  cases h with
  | nil h hcs =>
    subst hcs
    have : i = 0 := by omega
    subst this
    exact ⟨.slice none 0 0, rfl, .nil rfl (by simp), id, fun _ _ _ _ e => by cases e⟩
  | @«at» b o c hnc h =>
    have hu := hc b o n c rfl
    refine ⟨.slice (some ⟨b, o, none⟩) i c, sub_to hu (by omega), .at (by omega) (aCells_split h (Nat.mul_le_mul_right _ hi)).1, id, fun _ _ _ _ e => by cases e; exact hu⟩

theorem Sl.from {m : Mem} {u n : Nat} {cs : List Value} {v : Value} (h : Sl m u n cs v) (hc : Cut u m v) {k : IntKind} {i : Nat} (hi : i ≤ n) :
    ∃ v', aSub u m v (some (.int k i)) none none = some v' ∧ Sl m u (n - i) (cs.drop (i * u)) v' ∧ (SlLt m v → SlLt m v') ∧ Cut u m v' := by
  cases h with
  | nil h hcs =>
    subst hcs
    have : i = 0 := by omega
    subst this
    exact ⟨.slice none 0 0, rfl, .nil (by omega) (by simp), id, fun _ _ _ _ e => by cases e⟩
  | @«at» b o c hnc h =>
    have hu := hc b o n c rfl
    refine ⟨.slice (some ⟨b, o + i * u, none⟩) (n - i) (c - i), sub_from hu hi hnc, .at (by omega) ?_, id, fun _ _ _ _ e => by cases e; exact hu⟩
    rw [Nat.sub_mul]
    exact (aCells_split h (Nat.mul_le_mul_right _ hi)).2

/-- Full: no room behind its last one. -/
def Full (v : Value) : Prop := ∀ a p q, v = .slice a p q → p = q
theorem app_full {u by_ : Nat} {m m' : Mem} {v v' x : Value} {k : Nat} (h : aApp none u by_ m v x = some (v', m')) (hk : sliceLen x = some k) (hf : Full v) : Full v' := by
  unfold aApp at h
  rw [hk] at h
  simp only [Option.bind_some] at h
  obtain ⟨xs, hx, h'⟩ := Option.bind_eq_some_iff.1 h
  clear h
  have h := h'
  clear h'
  split at h
  · split at h
    · cases h; intro a p q e; cases e; rfl
    · split at h
      · cases h; intro a p q e; cases e; rfl
      · cases h
  · rename_i b o l c
    have hlc : l = c := hf _ _ _ rfl
    split at h
    · split at h
      · cases h; intro a p q e; cases e; exact hlc
      · cases h
    · split at h
      · omega
      · split at h
        · split at h
          · cases h; intro a p q e; cases e; rfl
          · cases h
        · cases h
  · cases h
end Go.Am


/- One's own slice whose first block is older than what else is there: only that block, and newer ones, are touched. -/
set_option linter.unusedVariables false
set_option linter.unusedSimpArgs false
namespace Go.Am

theorem app_updA {at_ : Option Nat} {u by_ M : Nat} {m m' : Mem} {v v' x : Value} (h : aApp at_ u by_ m v x = some (v', m')) (ha : ∀ k, at_ = some k → M ≤ k) (hM : M ≤ m.next) :
    m.next ≤ m'.next ∧ (∀ b, b < M → b ∉ vb v → m'.blk b = m.blk b) ∧ (vb v' = vb v ∨ ∃ k, vb v' = [k] ∧ M ≤ k) := by
  have hpl : ∀ (m1 : Mem) (o : AObj), m1.next = m.next → m.next ≤ (place at_ m1 o).2.next ∧ (∀ b, b < M → (place at_ m1 o).2.blk b = m1.blk b) ∧ M ≤ (place at_ m1 o).1 := by
    intro m1 o h1
    unfold place
    split
    · refine ⟨by show m.next ≤ m1.next + 1; omega, fun b hb => ?_, by show M ≤ m1.next; omega⟩
      show (if b = m1.next then _ else _) = _
      rw [if_neg (by omega)]
    · rename_i k
      have := ha k rfl
      refine ⟨by show m.next ≤ m1.next; omega, fun b hb => ?_, this⟩
      show (if b = k then _ else _) = _
      rw [if_neg (by omega)]
  unfold aApp at h
  rw [Option.bind_eq_some_iff] at h
  obtain ⟨n, hn, h⟩ := h
  rw [Option.bind_eq_some_iff] at h
  obtain ⟨xs, hxs, h⟩ := h
  split at h
  · split at h
    · cases h; exact ⟨Nat.le_refl _, fun _ _ _ => rfl, .inl rfl⟩
    · split at h
      · obtain ⟨p1, p2, p3⟩ := hpl m (.cells xs (some u)) rfl
        generalize place at_ m (.cells xs (some u)) = P at h p1 p2 p3
        obtain ⟨b, m1⟩ := P
        cases h
        exact ⟨p1, fun b hb _ => p2 b hb, .inr ⟨_, rfl, p3⟩⟩
      · cases h
  · rename_i b o l c
    split at h
    · split at h
      · cases h; exact ⟨Nat.le_refl _, fun _ _ _ => rfl, .inl rfl⟩
      · cases h
    · split at h
      · rw [Option.map_eq_some_iff] at h
        obtain ⟨m1, h1, h2⟩ := h
        cases h2
        obtain ⟨a1, a2⟩ := aWrite_upd h1
        refine ⟨by omega, fun x hx hn => ?_, .inl rfl⟩
        exact a1.same x (by omega) hn
      · split at h
        · rename_i cs own hb
          split at h
          · have hs : ∀ c : Bool, (if c = true then m.set b none else m).next = m.next ∧ ∀ x, x ≠ b → (if c = true then m.set b none else m).blk x = m.blk x := by
              intro c
              cases c
              · exact ⟨rfl, fun _ _ => rfl⟩
              · refine ⟨rfl, fun x hx => ?_⟩
                show (if x = b then _ else _) = _
                rw [if_neg hx]
            simp only [] at h
            generalize hm1 : (if own.isSome = true ∧ o + c * u = cs.length then m.set b none else m) = m1 at h
            have hs1 : m1.next = m.next ∧ ∀ x, x ≠ b → m1.blk x = m.blk x := by
              rw [← hm1]
              split
              · exact hs true
              · exact hs false
            obtain ⟨p1, p2, p3⟩ := hpl m1 (.cells (List.take (l * u) (List.drop o cs) ++ xs) (some u)) hs1.1
            generalize place at_ m1 (.cells (List.take (l * u) (List.drop o cs) ++ xs) (some u)) = P at h p1 p2 p3
            obtain ⟨b', m2⟩ := P
            cases h
            refine ⟨p1, fun x hx hn => ?_, .inr ⟨_, rfl, p3⟩⟩
            rw [p2 x hx, hs1.2 x (by intro e; apply hn; simp [vb, e])]
          · cases h
        · cases h
  · cases h

theorem Own.ge {m0 m : Mem} {u n : Nat} {cs : List Value} {v : Value} (h : Own m0 m u n cs v) : ∀ b ∈ vb v, m0.next ≤ b := by
  cases h with
  | nil => intro b hb; simp [vb] at hb
  | «at» hb hb2 hn hm hl hcs h1 => intro b' hb'; simp [vb] at hb'; subst hb'; exact hb

structure OwnQ (m0 mb m : Mem) (q u n : Nat) (cs : List Value) (v : Value) : Prop where
  own : Own m0 m u n cs v
  upd : Upd mb m [q]
  at_ : ∀ b ∈ vb v, b = q ∨ mb.next ≤ b
  ext : Ext m0 m

variable {m0 mb m m' : Mem} {q u n : Nat} {cs : List Value} {v : Value}
theorem OwnQ.keep (h : OwnQ m0 mb m q u n cs v) (hx : Ext m m') : OwnQ m0 mb m' q u n cs v :=
  ⟨h.own.keep hx, h.upd.trans hx.upd (fun _ h => h) (fun _ h => .inl h), h.at_, h.ext.trans hx⟩

theorem OwnQ.app {by_ : Nat} {es : List Value} (h : OwnQ m0 mb m q u n cs v) (hu : 0 < u) (he : es.length = u) (h1 : oneCells es = true) (hby : (n + 1) * by_ ≤ 2 ^ 47) (hn : n + 1 < 2 ^ 62) :
    ∃ v' m', aApp none u by_ (m.new (.cells es (some u))) v (.slice (some ⟨m.next, 0, none⟩) 1 1) = some (v', m') ∧ OwnQ m0 mb m' q u (n + 1) (cs ++ es) v' := by
  obtain ⟨v', m', e1, e2, e3⟩ := h.own.app (by_ := by_) h.ext hu he h1 hby hn
  have hx : Ext m (m.new (.cells es (some u))) := Ext.new
  obtain ⟨a1, a2, a3⟩ := app_updA (M := (m.new (.cells es (some u))).next) e1 (fun k hk => by cases hk) (Nat.le_refl _)
  refine ⟨v', m', e1, e2, ?_, fun b hb => ?_, e3⟩
  · have hk := h.keep hx
    refine ⟨Nat.le_trans hk.upd.next a1, fun b hb hn => ?_⟩
    have hb2 := hk.upd.next
    rw [a2 b (by omega) (fun hm => by exact (h.at_ b hm).elim (fun e => hn (by simp [e])) (fun e => by omega)), hk.upd.same b hb hn]
  · have := h.upd.next
    have := hx.next
    rcases a3 with e | ⟨k, e, hk⟩
    · rw [e] at hb; exact h.at_ b hb
    · rw [e] at hb; simp at hb; subst hb; exact .inr (by omega)

theorem OwnQ.appD {by_ N s t : Nat} {es : List Value} (h : OwnQ m0 mb m q u n cs v) (he : es.length = u) (h1 : oneCells es = true) (hby : (n + 1) * by_ ≤ 2 ^ 47) (hn : n + 1 < 2 ^ 62) (hs : s < N) (ht : t < N) :
    ∃ v' m', aApp (some (m.next + t)) u by_ ((m.bump N).set (m.next + s) (some (.cells es (some u)))) v (.slice (some ⟨m.next + s, 0, none⟩) 1 1) = some (v', m') ∧ OwnQ m0 mb m' q u (n + 1) (cs ++ es) v' := by
  obtain ⟨v', m', e1, e2, e3⟩ := h.own.appD (by_ := by_) h.ext he h1 hby hn hs ht
  have hx : Ext m ((m.bump N).set (m.next + s) (some (.cells es (some u)))) := Ext.set ⟨by simp, fun b hb => rfl⟩ (by omega)
  obtain ⟨a1, a2, a3⟩ := app_updA (M := m.next) e1 (fun k hk => by cases hk; omega) hx.next
  refine ⟨v', m', e1, e2, ?_, fun b hb => ?_, e3⟩
  · have hk := h.keep hx
    refine ⟨Nat.le_trans hk.upd.next a1, fun b hb hn => ?_⟩
    have hb2 := h.upd.next
    rw [a2 b (by omega) (fun hm => by exact (h.at_ b hm).elim (fun e => hn (by simp [e])) (fun e => by omega)), hk.upd.same b hb hn]
  · have := h.upd.next
    rcases a3 with e | ⟨k, e, hk⟩
    · rw [e] at hb; exact h.at_ b hb
    · rw [e] at hb; simp at hb; subst hb; exact .inr (by omega)

theorem OwnQ.put {w : Value} {k : IntKind} {i o : Nat} (h : OwnQ m0 mb m q u n cs v) (hi : i < n) (ho : o < u) (hw : w.cells = #[w]) (hone : w.oneCell' = true) :
    ∃ b m', aIdxS u v (.int k i) = some (.pointer (some ⟨b, i * u, none⟩)) ∧ aStore 1 m (.pointer (some ⟨b, i * u + o, none⟩)) w = some m' ∧ OwnQ m0 mb m' q u n (cs.set (i * u + o) w) v := by
  obtain ⟨b, m', e1, e2, e3, e4⟩ := h.own.put (k := k) h.ext hi ho hw hone
  refine ⟨b, m', e1, e2, e3, ?_, h.at_, e4⟩
  have hbv : b ∈ vb v := by
    cases h.own with
    | nil h hc => omega
    | @«at» b2 c all hb hb2 hn hm hl hcs h1 =>
      simp only [aIdxS] at e1
      split at e1
      · have e1 := Option.some.inj e1
        simp only [Value.pointer.injEq, Option.some.injEq, Addr.mk.injEq] at e1
        rw [← e1.1]; simp [vb]
      · cases e1
  have hw' : aWrite m b (i * u + o) w.cells.toList = some m' := by
    simp only [aStore] at e2
    split at e2
    · exact e2
    · cases e2
  obtain ⟨a1, a2⟩ := aWrite_upd hw'
  refine ⟨by have := h.upd.next; omega, fun x hx hn => ?_⟩
  have := h.upd.next
  rw [a1.same x (by omega) (by simp; intro e; subst e; exact (h.at_ x hbv).elim (fun e => hn (by simp [e])) (fun e => by omega)), h.upd.same x hx hn]
end Go.Am
