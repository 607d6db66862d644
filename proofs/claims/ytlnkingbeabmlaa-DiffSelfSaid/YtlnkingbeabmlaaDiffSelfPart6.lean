/- Parts of the proofs of the statements of this seat: DiffPlanW9, DiffPlanM, DiffPlanM2, DiffPlanX1, DiffPlanX2, DiffPlanX3, DiffPlanX4, AmSl3, DiffPlanX5, DiffPlanM3, DiffPlanY1, DiffPlanY2, DiffSlcPlanPl, AmIns, AmIns2, AmCut, AmOwnQ, DiffPlanZ1, DiffPlanZ2, DiffPlanZ3, DiffPlanZ4. No conditions. -/
import Derived.Test.YtlnkingbeabmlaaDiffSelfPart4
import Derived.Test.YtlnkingbeabmlaaDiffSelfPart5
import Derived.Test.YtlnkingbeabmlaaDiffSelfPart3
import Derived.Laws.IdiomCopy
set_option linter.unusedVariables false
set_option linter.unusedSimpArgs false

/- PlanW9 over the table of diff (relayset.py). -/
set_option linter.unusedVariables false
set_option linter.unusedSimpArgs false
namespace Go.Am
open Classical
variable {m : Mem}

theorem fin_iff {P : Prop} {b : Bool} (h : b = true ↔ P) : (Value.bool b = Value.bool (decide P)) := by
  congr 1; rw [Bool.eq_iff_iff, decide_eq_true_eq]; exact h
theorem fin_no {P : Prop} (h : ¬ P) : (Value.bool false = Value.bool (decide P)) := by rw [decide_eq_false h]
theorem fin_yes {P : Prop} (h : P) : (Value.bool true = Value.bool (decide P)) := by rw [decide_eq_true h]

def cntL (l : List Pl) (c t : Int) : Nat := (l.map fun x => x.pieces.countP (atB c t)).sum
theorem cntL_succ {l : List Pl} {c t : Int} {i : Nat} (h : i < l.length) : cntL (l.take (i + 1)) c t = cntL (l.take i) c t + l[i].pieces.countP (atB c t) := by
  unfold cntL
  rw [List.take_succ_eq_append_getElem h, List.map_append, List.sum_append]; simp
theorem cntL_le {l : List Pl} {c t : Int} (h : ∀ x ∈ l, x.pieces.length < 1000000) : ∀ i, cntL (l.take i) c t ≤ 1000000 * i := by
  intro i
  induction i with
  | zero => simp [cntL]
  | succ i ih =>
    by_cases hi : i < l.length
    · rw [cntL_succ hi]
      have := h _ (List.getElem_mem hi)
      have h2 : l[i].pieces.countP (atB c t) ≤ l[i].pieces.length := List.countP_le_length
      omega
    · rw [List.take_of_length_le (by omega)] at *
      omega

def apartR (l : List Pl) : Prop := ∀ c, c < 16 → ∀ t, t < 64 → cntL l (c : Nat) (t : Nat) ≤ 1

theorem apart1_loop {p : PlanD} {pv : Value} {b0 c t : Nat} (hp : PlsV m p.places pv) (hb : Bk m b0 [.int .i64 p.frame, u32 p.cores, pv] 3) (hl : p.places.length < 1000000) (hp1 : ∀ x ∈ p.places, x.pieces.length < 1000000) :
    WL R [1, 3, 4, 5, 6] RB.ref16_apart_1 [(1, pt b0), (3, .int .i64 c), (4, .int .i64 t), (5, .int .i64 0), (6, .int .i64 0)] m fun x e m' =>
      x = .exit 4 ∧ e = [(1, pt b0), (3, .int .i64 c), (4, .int .i64 t), (5, .int .i64 (cntL p.places c t : Nat)), (6, .int .i64 p.places.length), (19, .bool false)] ∧ Ext m m' := by
  refine WL.of (fun n e m' => ∃ i : Nat, i ≤ p.places.length ∧ n = p.places.length - i ∧ e = [(1, pt b0), (3, .int .i64 c), (4, .int .i64 t), (5, .int .i64 (cntL (p.places.take i) c t : Nat)), (6, .int .i64 i)] ∧ Ext m m') p.places.length
    ⟨0, by omega, by omega, by simp only [go_sem, Int.reduceBEq, Int.reduceBNe, Int.reduceNeg, reduceCtorEq, Nat.reduceEqDiff, Nat.reduceAdd, Nat.reduceLeDiff, Nat.reduceMul, Nat.reduceSub, Int.reduceToNat, Int.reduceLT, Int.reduceLE] <;> rfl, Ext.refl _⟩ ?_
  rintro _ _ m4 ⟨i, hi, rfl, rfl, hx4⟩
  have hp4 := hp.keep hx4
  have hb4 := hb.keep hx4
  have hle := cntL_le (c := c) (t := t) hp1 i
  simp only [RB.ref16_apart_1, pt, go_sem, Int.reduceBEq, Int.reduceBNe, Int.reduceNeg, reduceCtorEq, Nat.reduceEqDiff, Nat.reduceAdd, Nat.reduceLeDiff, Nat.reduceMul, Nat.reduceSub, Int.reduceToNat, Int.reduceLT, Int.reduceLE, load_w, load_a, store_b, idxS_b, set_blk, new_blk, set_next, new_next, len_s, ldW_c, ldA_c, stB_c, toArr_one, size_one, toList_toArr, size_toArr, List.length_cons, List.length_nil, List.getElem?_cons_zero, List.getElem?_cons_succ, Nat.zero_add, Nat.add_zero, hb4.at_, hp4.len]
  refine gT.of (fun h3' => ?_) (fun h3' => ?_) <;> (have h3 := h3'; try simp only [decide_eq_true_eq, decide_eq_false_iff_not, beq_iff_eq, bne_iff_ne, beq_eq_false_iff_ne, ne_eq, Bool.not_eq_true', Bool.not_eq_false', bne_eq_false_iff_eq, Int.not_lt, Int.not_le] at h3)
  · have hil : i < p.places.length := by omega
    obtain ⟨b, o, qv, a1, a2, a3, a4, a5⟩ := hp4.elem hil
    have hf := cntL_succ (c := c) (t := t) hil
    have hpl := hp1 _ (List.getElem_mem hil)
    have hpl2 : p.places[i].pieces.countP (atB c t) ≤ p.places[i].pieces.length := List.countP_le_length
    generalize p.places[i] = x at *
    try simp only [go_sem, Int.reduceBEq, Int.reduceBNe, Int.reduceNeg, reduceCtorEq, Nat.reduceEqDiff, Nat.reduceAdd, Nat.reduceLeDiff, Nat.reduceMul, Nat.reduceSub, Int.reduceToNat, Int.reduceLT, Int.reduceLE, load_w, load_a, store_b, idxS_b, set_blk, new_blk, set_next, new_next, len_s, ldW_c, ldA_c, stB_c, toArr_one, size_one, toList_toArr, size_toArr, List.length_cons, List.length_nil, List.getElem?_cons_zero, List.getElem?_cons_succ, Nat.zero_add, Nat.add_zero, hb4.at_, a1, a2]
    refine gC.of (At_spec (x := x) ⟨qv, rfl, a4⟩ hpl) ?_
    rintro _ m5 ⟨rfl, hx5⟩
    simp only [go_sem, Int.reduceBEq, Int.reduceBNe, Int.reduceNeg, reduceCtorEq, Nat.reduceEqDiff, Nat.reduceAdd, Nat.reduceLeDiff, Nat.reduceMul, Nat.reduceSub, Int.reduceToNat, Int.reduceLT, Int.reduceLE]
    try simp only [go_sem, Int.reduceBEq, Int.reduceBNe, Int.reduceNeg, reduceCtorEq, Nat.reduceEqDiff, Nat.reduceAdd, Nat.reduceLeDiff, Nat.reduceMul, Nat.reduceSub, Int.reduceToNat, Int.reduceLT, Int.reduceLE, load_w, load_a, store_b, idxS_b, set_blk, new_blk, set_next, new_next, len_s, ldW_c, ldA_c, stB_c, toArr_one, size_one, toList_toArr, size_toArr, List.length_cons, List.length_nil, List.getElem?_cons_zero, List.getElem?_cons_succ, Nat.zero_add, Nat.add_zero, step1 (show i < 1000000 by omega)]
    refine ⟨p.places.length - (i + 1), by omega, i + 1, by omega, rfl, ?_, hx4.trans hx5⟩
    rw [hf, wrap_i64 (by omega) (by omega)]; rfl
  · have hi : i = p.places.length := by omega
    subst hi
    rw [List.take_of_length_le (Nat.le_refl _)]
    try simp only [go_sem, Int.reduceBEq, Int.reduceBNe, Int.reduceNeg, reduceCtorEq, Nat.reduceEqDiff, Nat.reduceAdd, Nat.reduceLeDiff, Nat.reduceMul, Nat.reduceSub, Int.reduceToNat, Int.reduceLT, Int.reduceLE, load_w, load_a, store_b, idxS_b, set_blk, new_blk, set_next, new_next, len_s, ldW_c, ldA_c, stB_c, toArr_one, size_one, toList_toArr, size_toArr, List.length_cons, List.length_nil, List.getElem?_cons_zero, List.getElem?_cons_succ, Nat.zero_add, Nat.add_zero, h3']
    exact hx4

theorem apart2_loop {p : PlanD} {pv : Value} {b0 c : Nat} (hp : PlsV m p.places pv) (hb : Bk m b0 [.int .i64 p.frame, u32 p.cores, pv] 3) (hl : p.places.length < 1000000) (hp1 : ∀ x ∈ p.places, x.pieces.length < 1000000) (h16 : c < 16) :
    WL R [1, 3, 4] RB.ref16_apart_2 [(1, pt b0), (3, .int .i64 c), (4, .int .i64 0)] m fun x e m' =>
      (x = .ret ∧ e = [(2, .bool false)] ∧ ¬ apartR p.places ∧ Ext m m') ∨ (x = .exit 2 ∧ e = [(1, pt b0), (3, .int .i64 c), (4, .int .i64 64), (12, .bool false)] ∧ (∀ t, t < 64 → cntL p.places (c : Nat) (t : Nat) ≤ 1) ∧ Ext m m') := by
  refine WL.of (fun n e m' => ∃ t : Nat, t ≤ 64 ∧ n = 64 - t ∧ e = [(1, pt b0), (3, .int .i64 c), (4, .int .i64 t)] ∧ (∀ s, s < t → cntL p.places (c : Nat) (s : Nat) ≤ 1) ∧ Ext m m') 64
    ⟨0, by omega, by omega, by simp only [go_sem, Int.reduceBEq, Int.reduceBNe, Int.reduceNeg, reduceCtorEq, Nat.reduceEqDiff, Nat.reduceAdd, Nat.reduceLeDiff, Nat.reduceMul, Nat.reduceSub, Int.reduceToNat, Int.reduceLT, Int.reduceLE] <;> rfl, fun d hd => by omega, Ext.refl _⟩ ?_
  rintro _ _ m3 ⟨t, ht, rfl, rfl, hts, hx3⟩
  simp only [RB.ref16_apart_2, pt, go_sem, Int.reduceBEq, Int.reduceBNe, Int.reduceNeg, reduceCtorEq, Nat.reduceEqDiff, Nat.reduceAdd, Nat.reduceLeDiff, Nat.reduceMul, Nat.reduceSub, Int.reduceToNat, Int.reduceLT, Int.reduceLE]
  refine gT.of (fun h2' => ?_) (fun h2' => ?_) <;> (have h2 := h2'; try simp only [decide_eq_true_eq, decide_eq_false_iff_not, beq_iff_eq, bne_iff_ne, beq_eq_false_iff_ne, ne_eq, Bool.not_eq_true', Bool.not_eq_false', bne_eq_false_iff_eq, Int.not_lt, Int.not_le] at h2)
  · try simp only [go_sem, Int.reduceBEq, Int.reduceBNe, Int.reduceNeg, reduceCtorEq, Nat.reduceEqDiff, Nat.reduceAdd, Nat.reduceLeDiff, Nat.reduceMul, Nat.reduceSub, Int.reduceToNat, Int.reduceLT, Int.reduceLE, load_w, load_a, store_b, idxS_b, set_blk, new_blk, set_next, new_next, len_s, ldW_c, ldA_c, stB_c, toArr_one, size_one, toList_toArr, size_toArr, List.length_cons, List.length_nil, List.getElem?_cons_zero, List.getElem?_cons_succ, Nat.zero_add, Nat.add_zero]
    refine WL.mono (apart1_loop (b0 := b0) (c := c) (t := t) (hp.keep hx3) (hb.keep hx3) hl hp1) ?_
    rintro _ _ m4 ⟨rfl, rfl, hx4⟩
    simp only [pt]
    try simp only [go_sem, Int.reduceBEq, Int.reduceBNe, Int.reduceNeg, reduceCtorEq, Nat.reduceEqDiff, Nat.reduceAdd, Nat.reduceLeDiff, Nat.reduceMul, Nat.reduceSub, Int.reduceToNat, Int.reduceLT, Int.reduceLE, load_w, load_a, store_b, idxS_b, set_blk, new_blk, set_next, new_next, len_s, ldW_c, ldA_c, stB_c, toArr_one, size_one, toList_toArr, size_toArr, List.length_cons, List.length_nil, List.getElem?_cons_zero, List.getElem?_cons_succ, Nat.zero_add, Nat.add_zero]
    refine gT.of (fun h4' => ?_) (fun h4' => ?_) <;> (have h4 := h4'; try simp only [decide_eq_true_eq, decide_eq_false_iff_not, beq_iff_eq, bne_iff_ne, beq_eq_false_iff_ne, ne_eq, Bool.not_eq_true', Bool.not_eq_false', bne_eq_false_iff_eq, Int.not_lt, Int.not_le] at h4)
    · try simp only [go_sem, Int.reduceBEq, Int.reduceBNe, Int.reduceNeg, reduceCtorEq, Nat.reduceEqDiff, Nat.reduceAdd, Nat.reduceLeDiff, Nat.reduceMul, Nat.reduceSub, Int.reduceToNat, Int.reduceLT, Int.reduceLE, load_w, load_a, store_b, idxS_b, set_blk, new_blk, set_next, new_next, len_s, ldW_c, ldA_c, stB_c, toArr_one, size_one, toList_toArr, size_toArr, List.length_cons, List.length_nil, List.getElem?_cons_zero, List.getElem?_cons_succ, Nat.zero_add, Nat.add_zero, h4']
      exact .inl ⟨fun h => by have := h c h16 t (by omega); omega, hx3.trans hx4⟩
    · try simp only [go_sem, Int.reduceBEq, Int.reduceBNe, Int.reduceNeg, reduceCtorEq, Nat.reduceEqDiff, Nat.reduceAdd, Nat.reduceLeDiff, Nat.reduceMul, Nat.reduceSub, Int.reduceToNat, Int.reduceLT, Int.reduceLE, load_w, load_a, store_b, idxS_b, set_blk, new_blk, set_next, new_next, len_s, ldW_c, ldA_c, stB_c, toArr_one, size_one, toList_toArr, size_toArr, List.length_cons, List.length_nil, List.getElem?_cons_zero, List.getElem?_cons_succ, Nat.zero_add, Nat.add_zero, h4', step1 (show t < 1000000 by omega)]
      refine ⟨64 - (t + 1), by omega, t + 1, by omega, rfl, rfl, fun s hs => ?_, hx3.trans hx4⟩
      by_cases e : s = t
      · subst e; omega
      · exact hts s (by omega)
  · have : t = 64 := by omega
    subst this
    try simp only [go_sem, Int.reduceBEq, Int.reduceBNe, Int.reduceNeg, reduceCtorEq, Nat.reduceEqDiff, Nat.reduceAdd, Nat.reduceLeDiff, Nat.reduceMul, Nat.reduceSub, Int.reduceToNat, Int.reduceLT, Int.reduceLE, load_w, load_a, store_b, idxS_b, set_blk, new_blk, set_next, new_next, len_s, ldW_c, ldA_c, stB_c, toArr_one, size_one, toList_toArr, size_toArr, List.length_cons, List.length_nil, List.getElem?_cons_zero, List.getElem?_cons_succ, Nat.zero_add, Nat.add_zero, h2']
    exact .inr ⟨hts, hx3⟩

theorem refApart_spec {p : PlanD} {v : Value} (hv : PlanV m p v) (hl : p.places.length < 1000000) (hp1 : ∀ x ∈ p.places, x.pieces.length < 1000000) : WC R F.ref16_apart [v] m fun r m' => r = .bool (decide (apartR p.places)) ∧ Ext m m' := by
  refine WC.of R.ref16_apart rfl ?_
  obtain ⟨pv, rfl, hp⟩ := hv
  simp only [RC.ref16_apart, planV, go_sem, Int.reduceBEq, Int.reduceBNe, Int.reduceNeg, reduceCtorEq, Nat.reduceEqDiff, Nat.reduceAdd, Nat.reduceLeDiff, Nat.reduceMul, Nat.reduceSub, Int.reduceToNat, Int.reduceLT, Int.reduceLE, hp.one]
  have hx : Ext m (m.new (.cells [.int .i64 p.frame, u32 p.cores, pv] (some 3))) := Ext.new
  have hb : Bk (m.new (.cells [.int .i64 p.frame, u32 p.cores, pv] (some 3))) m.next [.int .i64 p.frame, u32 p.cores, pv] 3 := Bk.new
  generalize m.new (.cells [.int .i64 p.frame, u32 p.cores, pv] (some 3)) = m1 at hx hb ⊢
  refine WL.of (fun n e m' => ∃ c : Nat, c ≤ 16 ∧ n = 16 - c ∧ e = [(1, pt m.next), (3, .int .i64 c)] ∧ (∀ d, d < c → ∀ t, t < 64 → cntL p.places (d : Nat) (t : Nat) ≤ 1) ∧ Ext m1 m') 16
    ⟨0, by omega, by omega, by simp only [go_sem, Int.reduceBEq, Int.reduceBNe, Int.reduceNeg, reduceCtorEq, Nat.reduceEqDiff, Nat.reduceAdd, Nat.reduceLeDiff, Nat.reduceMul, Nat.reduceSub, Int.reduceToNat, Int.reduceLT, Int.reduceLE] <;> rfl, fun d hd => by omega, Ext.refl _⟩ ?_
  rintro _ _ m2 ⟨c, hc, rfl, rfl, hcs, hx2⟩
  simp only [RB.ref16_apart_3, pt, go_sem, Int.reduceBEq, Int.reduceBNe, Int.reduceNeg, reduceCtorEq, Nat.reduceEqDiff, Nat.reduceAdd, Nat.reduceLeDiff, Nat.reduceMul, Nat.reduceSub, Int.reduceToNat, Int.reduceLT, Int.reduceLE]
  refine gT.of (fun h1' => ?_) (fun h1' => ?_) <;> (have h1 := h1'; try simp only [decide_eq_true_eq, decide_eq_false_iff_not, beq_iff_eq, bne_iff_ne, beq_eq_false_iff_ne, ne_eq, Bool.not_eq_true', Bool.not_eq_false', bne_eq_false_iff_eq, Int.not_lt, Int.not_le] at h1)
  · try simp only [go_sem, Int.reduceBEq, Int.reduceBNe, Int.reduceNeg, reduceCtorEq, Nat.reduceEqDiff, Nat.reduceAdd, Nat.reduceLeDiff, Nat.reduceMul, Nat.reduceSub, Int.reduceToNat, Int.reduceLT, Int.reduceLE, load_w, load_a, store_b, idxS_b, set_blk, new_blk, set_next, new_next, len_s, ldW_c, ldA_c, stB_c, toArr_one, size_one, toList_toArr, size_toArr, List.length_cons, List.length_nil, List.getElem?_cons_zero, List.getElem?_cons_succ, Nat.zero_add, Nat.add_zero]
    refine WL.mono (apart2_loop (b0 := m.next) (c := c) ((hp.keep hx).keep hx2) (hb.keep hx2) hl hp1 (by omega)) ?_
    rintro _ _ m3 (⟨rfl, rfl, hno, hx3⟩ | ⟨rfl, rfl, hts, hx3⟩)
    · try simp only [go_sem, Int.reduceBEq, Int.reduceBNe, Int.reduceNeg, reduceCtorEq, Nat.reduceEqDiff, Nat.reduceAdd, Nat.reduceLeDiff, Nat.reduceMul, Nat.reduceSub, Int.reduceToNat, Int.reduceLT, Int.reduceLE, load_w, load_a, store_b, idxS_b, set_blk, new_blk, set_next, new_next, len_s, ldW_c, ldA_c, stB_c, toArr_one, size_one, toList_toArr, size_toArr, List.length_cons, List.length_nil, List.getElem?_cons_zero, List.getElem?_cons_succ, Nat.zero_add, Nat.add_zero]
      exact ⟨fin_no hno, hx.trans (hx2.trans hx3)⟩
    · simp only [pt]
      try simp only [go_sem, Int.reduceBEq, Int.reduceBNe, Int.reduceNeg, reduceCtorEq, Nat.reduceEqDiff, Nat.reduceAdd, Nat.reduceLeDiff, Nat.reduceMul, Nat.reduceSub, Int.reduceToNat, Int.reduceLT, Int.reduceLE, load_w, load_a, store_b, idxS_b, set_blk, new_blk, set_next, new_next, len_s, ldW_c, ldA_c, stB_c, toArr_one, size_one, toList_toArr, size_toArr, List.length_cons, List.length_nil, List.getElem?_cons_zero, List.getElem?_cons_succ, Nat.zero_add, Nat.add_zero, step1 (show c < 1000000 by omega)]
      refine ⟨16 - (c + 1), by omega, c + 1, by omega, rfl, rfl, fun d hd => ?_, hx2.trans hx3⟩
      by_cases e : d = c
      · subst e; exact hts
      · exact hcs d (by omega)
  · have : c = 16 := by omega
    subst this
    try simp only [go_sem, Int.reduceBEq, Int.reduceBNe, Int.reduceNeg, reduceCtorEq, Nat.reduceEqDiff, Nat.reduceAdd, Nat.reduceLeDiff, Nat.reduceMul, Nat.reduceSub, Int.reduceToNat, Int.reduceLT, Int.reduceLE, load_w, load_a, store_b, idxS_b, set_blk, new_blk, set_next, new_next, len_s, ldW_c, ldA_c, stB_c, toArr_one, size_one, toList_toArr, size_toArr, List.length_cons, List.length_nil, List.getElem?_cons_zero, List.getElem?_cons_succ, Nat.zero_add, Nat.add_zero]
    exact ⟨fin_yes hcs, hx.trans hx2⟩

def plOk (p : PlanD) (i : Nat) : Prop := ∃ h : i < p.places.length, refPlaceP p p.places[i] ∧ ∀ h : 0 < i, (p.places[i - 1]'(by omega)).unit < p.places[i].unit
def RightP (p : PlanD) : Prop :=
  2 ≤ p.frame ∧ p.frame ≤ 64 ∧ p.cores ≠ 0#32 ∧ p.cores.toNat ≤ 65535 ∧ (∀ i, i < p.places.length → plOk p i) ∧ apartR p.places ∧ p.places.countP isSp < (csP p 16).length ∧
  ∀ c ∈ csP p 16, loadR p (c : Nat) ≤ p.frame

theorem RightP.r {p : PlanD} (h : 2 ≤ p.frame) (h2 : p.frame ≤ 64) (hl : p.places.length < 1000000) (hp1 : ∀ x ∈ p.places, x.pieces.length < 1000000) (ha : ∀ i, i < p.places.length → plOk p i) : PlanR p := by
  refine ⟨hl, hp1, fun x hx => ?_, by omega, h2⟩
  obtain ⟨i, hi, rfl⟩ := List.getElem_of_mem hx
  obtain ⟨_, h, -⟩ := ha i hi
  have := h.2.1; have := h.2.2.1
  omega

theorem PlsV.prev {m : Mem} {l : List Pl} {v : Value} (h : PlsV m l v) {i : Nat} (hi : i < l.length) : ∃ b o, aIdxS 4 v (.int .i64 i) = some (.pointer (some ⟨b, o, none⟩)) ∧ ∀ m', Ext m m' → aLoad false 1 m' (.pointer (some ⟨b, o, none⟩)) = some (.int .i64 l[i].unit) := by
  obtain ⟨b, o, qv, a1, a2, a3, a4, a5⟩ := h.elem hi
  refine ⟨b, o, a1, fun m' hm => ?_⟩
  obtain ⟨b', o', qv', c1, c2, c3, c4, c5⟩ := (h.keep hm).elem hi
  rw [a1] at c1; cases c1
  have := c3 0 (by omega)
  simpa [plV] using this

theorem refRight_spec {p : PlanD} {v : Value} (hv : PlanV m p v) (hl : p.places.length < 1000000) (hp1 : ∀ x ∈ p.places, x.pieces.length < 1000000) : WC R F.ref16_Right [v] m fun r m' => r = .bool (decide (RightP p)) ∧ Ext m m' := by
  refine WC.of R.ref16_Right rfl ?_
  obtain ⟨pv, rfl, hp⟩ := hv
  simp only [RC.ref16_Right, planV, go_sem, Int.reduceBEq, Int.reduceBNe, Int.reduceNeg, reduceCtorEq, Nat.reduceEqDiff, Nat.reduceAdd, Nat.reduceLeDiff, Nat.reduceMul, Nat.reduceSub, Int.reduceToNat, Int.reduceLT, Int.reduceLE, hp.one]
  have hx : Ext m (m.new (.cells [.int .i64 p.frame, u32 p.cores, pv] (some 3))) := Ext.new
  have hb : Bk (m.new (.cells [.int .i64 p.frame, u32 p.cores, pv] (some 3))) m.next [.int .i64 p.frame, u32 p.cores, pv] 3 := Bk.new
  generalize m.new (.cells [.int .i64 p.frame, u32 p.cores, pv] (some 3)) = m1 at hx hb ⊢
  try simp only [go_sem, Int.reduceBEq, Int.reduceBNe, Int.reduceNeg, reduceCtorEq, Nat.reduceEqDiff, Nat.reduceAdd, Nat.reduceLeDiff, Nat.reduceMul, Nat.reduceSub, Int.reduceToNat, Int.reduceLT, Int.reduceLE, load_w, load_a, store_b, idxS_b, set_blk, new_blk, set_next, new_next, len_s, ldW_c, ldA_c, stB_c, toArr_one, size_one, toList_toArr, size_toArr, List.length_cons, List.length_nil, List.getElem?_cons_zero, List.getElem?_cons_succ, Nat.zero_add, Nat.add_zero, hb.at_]
  refine gT.of (fun h1' => ?_) (fun h1' => ?_) <;> (have h1 := h1'; try simp only [decide_eq_true_eq, decide_eq_false_iff_not, beq_iff_eq, bne_iff_ne, beq_eq_false_iff_ne, ne_eq, Bool.not_eq_true', Bool.not_eq_false', bne_eq_false_iff_eq, Int.not_lt, Int.not_le] at h1)
  · try simp only [go_sem, Int.reduceBEq, Int.reduceBNe, Int.reduceNeg, reduceCtorEq, Nat.reduceEqDiff, Nat.reduceAdd, Nat.reduceLeDiff, Nat.reduceMul, Nat.reduceSub, Int.reduceToNat, Int.reduceLT, Int.reduceLE, load_w, load_a, store_b, idxS_b, set_blk, new_blk, set_next, new_next, len_s, ldW_c, ldA_c, stB_c, toArr_one, size_one, toList_toArr, size_toArr, List.length_cons, List.length_nil, List.getElem?_cons_zero, List.getElem?_cons_succ, Nat.zero_add, Nat.add_zero, h1']
    exact ⟨fin_no fun h => by have := h.1; omega, hx⟩
  · try simp only [go_sem, Int.reduceBEq, Int.reduceBNe, Int.reduceNeg, reduceCtorEq, Nat.reduceEqDiff, Nat.reduceAdd, Nat.reduceLeDiff, Nat.reduceMul, Nat.reduceSub, Int.reduceToNat, Int.reduceLT, Int.reduceLE, load_w, load_a, store_b, idxS_b, set_blk, new_blk, set_next, new_next, len_s, ldW_c, ldA_c, stB_c, toArr_one, size_one, toList_toArr, size_toArr, List.length_cons, List.length_nil, List.getElem?_cons_zero, List.getElem?_cons_succ, Nat.zero_add, Nat.add_zero, h1', hb.at_]
    refine gT.of (fun h2' => ?_) (fun h2' => ?_) <;> (have h2 := h2'; try simp only [decide_eq_true_eq, decide_eq_false_iff_not, beq_iff_eq, bne_iff_ne, beq_eq_false_iff_ne, ne_eq, Bool.not_eq_true', Bool.not_eq_false', bne_eq_false_iff_eq, Int.not_lt, Int.not_le] at h2)
    · try simp only [go_sem, Int.reduceBEq, Int.reduceBNe, Int.reduceNeg, reduceCtorEq, Nat.reduceEqDiff, Nat.reduceAdd, Nat.reduceLeDiff, Nat.reduceMul, Nat.reduceSub, Int.reduceToNat, Int.reduceLT, Int.reduceLE, load_w, load_a, store_b, idxS_b, set_blk, new_blk, set_next, new_next, len_s, ldW_c, ldA_c, stB_c, toArr_one, size_one, toList_toArr, size_toArr, List.length_cons, List.length_nil, List.getElem?_cons_zero, List.getElem?_cons_succ, Nat.zero_add, Nat.add_zero, h2']
      exact ⟨fin_no fun h => by have := h.2.1; omega, hx⟩
    · try simp only [go_sem, Int.reduceBEq, Int.reduceBNe, Int.reduceNeg, reduceCtorEq, Nat.reduceEqDiff, Nat.reduceAdd, Nat.reduceLeDiff, Nat.reduceMul, Nat.reduceSub, Int.reduceToNat, Int.reduceLT, Int.reduceLE, load_w, load_a, store_b, idxS_b, set_blk, new_blk, set_next, new_next, len_s, ldW_c, ldA_c, stB_c, toArr_one, size_one, toList_toArr, size_toArr, List.length_cons, List.length_nil, List.getElem?_cons_zero, List.getElem?_cons_succ, Nat.zero_add, Nat.add_zero, h2', hb.at_]
      refine gT.of (fun h3' => ?_) (fun h3' => ?_) <;> (have h3 := h3'; try simp only [decide_eq_true_eq, decide_eq_false_iff_not, beq_iff_eq, bne_iff_ne, beq_eq_false_iff_ne, ne_eq, Bool.not_eq_true', Bool.not_eq_false', bne_eq_false_iff_eq, Int.not_lt, Int.not_le] at h3)
      · try simp only [go_sem, Int.reduceBEq, Int.reduceBNe, Int.reduceNeg, reduceCtorEq, Nat.reduceEqDiff, Nat.reduceAdd, Nat.reduceLeDiff, Nat.reduceMul, Nat.reduceSub, Int.reduceToNat, Int.reduceLT, Int.reduceLE, load_w, load_a, store_b, idxS_b, set_blk, new_blk, set_next, new_next, len_s, ldW_c, ldA_c, stB_c, toArr_one, size_one, toList_toArr, size_toArr, List.length_cons, List.length_nil, List.getElem?_cons_zero, List.getElem?_cons_succ, Nat.zero_add, Nat.add_zero, h3']
        exact ⟨fin_no fun h => h.2.2.1 h3, hx⟩
      · try simp only [go_sem, Int.reduceBEq, Int.reduceBNe, Int.reduceNeg, reduceCtorEq, Nat.reduceEqDiff, Nat.reduceAdd, Nat.reduceLeDiff, Nat.reduceMul, Nat.reduceSub, Int.reduceToNat, Int.reduceLT, Int.reduceLE, load_w, load_a, store_b, idxS_b, set_blk, new_blk, set_next, new_next, len_s, ldW_c, ldA_c, stB_c, toArr_one, size_one, toList_toArr, size_toArr, List.length_cons, List.length_nil, List.getElem?_cons_zero, List.getElem?_cons_succ, Nat.zero_add, Nat.add_zero, h3', hb.at_]
        refine gT.of (fun h4' => ?_) (fun h4' => ?_) <;> (have h4 := h4'; try simp only [decide_eq_true_eq, decide_eq_false_iff_not, beq_iff_eq, bne_iff_ne, beq_eq_false_iff_ne, ne_eq, Bool.not_eq_true', Bool.not_eq_false', bne_eq_false_iff_eq, Int.not_lt, Int.not_le] at h4)
        · try simp only [go_sem, Int.reduceBEq, Int.reduceBNe, Int.reduceNeg, reduceCtorEq, Nat.reduceEqDiff, Nat.reduceAdd, Nat.reduceLeDiff, Nat.reduceMul, Nat.reduceSub, Int.reduceToNat, Int.reduceLT, Int.reduceLE, load_w, load_a, store_b, idxS_b, set_blk, new_blk, set_next, new_next, len_s, ldW_c, ldA_c, stB_c, toArr_one, size_one, toList_toArr, size_toArr, List.length_cons, List.length_nil, List.getElem?_cons_zero, List.getElem?_cons_succ, Nat.zero_add, Nat.add_zero, h4']
          exact ⟨fin_no fun h => by have := h.2.2.2.1; simp at h4; omega, hx⟩
        · have hc : p.cores.toNat ≤ 65535 := by simp at h4; omega
          try simp only [go_sem, Int.reduceBEq, Int.reduceBNe, Int.reduceNeg, reduceCtorEq, Nat.reduceEqDiff, Nat.reduceAdd, Nat.reduceLeDiff, Nat.reduceMul, Nat.reduceSub, Int.reduceToNat, Int.reduceLT, Int.reduceLE, load_w, load_a, store_b, idxS_b, set_blk, new_blk, set_next, new_next, len_s, ldW_c, ldA_c, stB_c, toArr_one, size_one, toList_toArr, size_toArr, List.length_cons, List.length_nil, List.getElem?_cons_zero, List.getElem?_cons_succ, Nat.zero_add, Nat.add_zero, h4']
          refine WL.of (fun n e m' => ∃ i : Nat, i ≤ p.places.length ∧ n = p.places.length - i ∧ e = [(1, pt m.next), (3, .int .i64 i)] ∧ (∀ j, j < i → plOk p j) ∧ Ext m1 m') p.places.length
            ⟨0, by omega, by omega, by simp only [go_sem, Int.reduceBEq, Int.reduceBNe, Int.reduceNeg, reduceCtorEq, Nat.reduceEqDiff, Nat.reduceAdd, Nat.reduceLeDiff, Nat.reduceMul, Nat.reduceSub, Int.reduceToNat, Int.reduceLT, Int.reduceLE] <;> rfl, fun d hd => by omega, Ext.refl _⟩ ?_
          rintro _ _ m2 ⟨i, hi, rfl, rfl, hall, hx2⟩
          have hp2 := (hp.keep hx).keep hx2
          have hb2 := hb.keep hx2
          simp only [RB.ref16_Right_2, pt, go_sem, Int.reduceBEq, Int.reduceBNe, Int.reduceNeg, reduceCtorEq, Nat.reduceEqDiff, Nat.reduceAdd, Nat.reduceLeDiff, Nat.reduceMul, Nat.reduceSub, Int.reduceToNat, Int.reduceLT, Int.reduceLE, load_w, load_a, store_b, idxS_b, set_blk, new_blk, set_next, new_next, len_s, ldW_c, ldA_c, stB_c, toArr_one, size_one, toList_toArr, size_toArr, List.length_cons, List.length_nil, List.getElem?_cons_zero, List.getElem?_cons_succ, Nat.zero_add, Nat.add_zero, hb2.at_, hp2.len]
          refine gT.of (fun h5' => ?_) (fun h5' => ?_) <;> (have h5 := h5'; try simp only [decide_eq_true_eq, decide_eq_false_iff_not, beq_iff_eq, bne_iff_ne, beq_eq_false_iff_ne, ne_eq, Bool.not_eq_true', Bool.not_eq_false', bne_eq_false_iff_eq, Int.not_lt, Int.not_le] at h5)
          · have hil : i < p.places.length := by omega
            obtain ⟨b, o, qv, a1, a2, a3, a4, a5⟩ := hp2.elem hil
            obtain ⟨b1, o1, d1, d2⟩ := hp2.prev hil
            have hprev : ∀ h : 0 < i, ∃ b' o', aIdxS 4 pv (.int .i64 (i - 1 : Nat)) = some (.pointer (some ⟨b', o', none⟩)) ∧ ∀ m', Ext m2 m' → aLoad false 1 m' (.pointer (some ⟨b', o', none⟩)) = some (.int .i64 (p.places[i - 1]'(by omega)).unit) := fun h => hp2.prev (by omega)
            have bad : ¬ (refPlaceP p p.places[i] ∧ ∀ h : 0 < i, (p.places[i - 1]'(by omega)).unit < p.places[i].unit) → ¬ RightP p := fun h h2 => h (let ⟨_, g⟩ := h2.2.2.2.2.1 i hil; g)
            have good : (refPlaceP p p.places[i] ∧ ∀ h : 0 < i, (p.places[i - 1]'(by omega)).unit < p.places[i].unit) → ∀ j, j < i + 1 → plOk p j := by
              intro h j hj
              by_cases e : j = i
              · subst e; exact ⟨hil, h⟩
              · exact hall j (by omega)
            have hpl := hp1 _ (List.getElem_mem hil)
            rw [a1] at d1; cases d1
            generalize p.places[i] = x at *
            try simp only [go_sem, Int.reduceBEq, Int.reduceBNe, Int.reduceNeg, reduceCtorEq, Nat.reduceEqDiff, Nat.reduceAdd, Nat.reduceLeDiff, Nat.reduceMul, Nat.reduceSub, Int.reduceToNat, Int.reduceLT, Int.reduceLE, load_w, load_a, store_b, idxS_b, set_blk, new_blk, set_next, new_next, len_s, ldW_c, ldA_c, stB_c, toArr_one, size_one, toList_toArr, size_toArr, List.length_cons, List.length_nil, List.getElem?_cons_zero, List.getElem?_cons_succ, Nat.zero_add, Nat.add_zero, hb2.at_, a1, a2]
            refine gC.of (refPlace_spec (p := p) (x := x) ⟨pv, rfl, hp2⟩ ⟨qv, rfl, a4⟩ hpl) ?_
            rintro _ m3 ⟨rfl, hx3⟩
            simp only [go_sem, Int.reduceBEq, Int.reduceBNe, Int.reduceNeg, reduceCtorEq, Nat.reduceEqDiff, Nat.reduceAdd, Nat.reduceLeDiff, Nat.reduceMul, Nat.reduceSub, Int.reduceToNat, Int.reduceLT, Int.reduceLE]
            have hb3 := hb2.keep hx3
            try simp only [go_sem, Int.reduceBEq, Int.reduceBNe, Int.reduceNeg, reduceCtorEq, Nat.reduceEqDiff, Nat.reduceAdd, Nat.reduceLeDiff, Nat.reduceMul, Nat.reduceSub, Int.reduceToNat, Int.reduceLT, Int.reduceLE, load_w, load_a, store_b, idxS_b, set_blk, new_blk, set_next, new_next, len_s, ldW_c, ldA_c, stB_c, toArr_one, size_one, toList_toArr, size_toArr, List.length_cons, List.length_nil, List.getElem?_cons_zero, List.getElem?_cons_succ, Nat.zero_add, Nat.add_zero, hb3.at_, hb2.at_]
            refine gT.of (fun h6' => ?_) (fun h6' => ?_) <;> (have h6 := h6'; try simp only [decide_eq_true_eq, decide_eq_false_iff_not, beq_iff_eq, bne_iff_ne, beq_eq_false_iff_ne, ne_eq, Bool.not_eq_true', Bool.not_eq_false', bne_eq_false_iff_eq, Int.not_lt, Int.not_le] at h6)
            · try simp only [go_sem, Int.reduceBEq, Int.reduceBNe, Int.reduceNeg, reduceCtorEq, Nat.reduceEqDiff, Nat.reduceAdd, Nat.reduceLeDiff, Nat.reduceMul, Nat.reduceSub, Int.reduceToNat, Int.reduceLT, Int.reduceLE, load_w, load_a, store_b, idxS_b, set_blk, new_blk, set_next, new_next, len_s, ldW_c, ldA_c, stB_c, toArr_one, size_one, toList_toArr, size_toArr, List.length_cons, List.length_nil, List.getElem?_cons_zero, List.getElem?_cons_succ, Nat.zero_add, Nat.add_zero, h6']
              exact ⟨fin_no (bad fun h => h6 h.1), hx.trans (hx2.trans hx3)⟩
            · have h6 : refPlaceP p x := by simpa using h6'
              try simp only [go_sem, Int.reduceBEq, Int.reduceBNe, Int.reduceNeg, reduceCtorEq, Nat.reduceEqDiff, Nat.reduceAdd, Nat.reduceLeDiff, Nat.reduceMul, Nat.reduceSub, Int.reduceToNat, Int.reduceLT, Int.reduceLE, load_w, load_a, store_b, idxS_b, set_blk, new_blk, set_next, new_next, len_s, ldW_c, ldA_c, stB_c, toArr_one, size_one, toList_toArr, size_toArr, List.length_cons, List.length_nil, List.getElem?_cons_zero, List.getElem?_cons_succ, Nat.zero_add, Nat.add_zero, h6', hb3.at_]
              refine gT.of (fun h7' => ?_) (fun h7' => ?_) <;> (have h7 := h7'; try simp only [decide_eq_true_eq, decide_eq_false_iff_not, beq_iff_eq, bne_iff_ne, beq_eq_false_iff_ne, ne_eq, Bool.not_eq_true', Bool.not_eq_false', bne_eq_false_iff_eq, Int.not_lt, Int.not_le] at h7)
              · obtain ⟨b', o', c1, c2⟩ := hprev (by omega)
                try simp only [go_sem, Int.reduceBEq, Int.reduceBNe, Int.reduceNeg, reduceCtorEq, Nat.reduceEqDiff, Nat.reduceAdd, Nat.reduceLeDiff, Nat.reduceMul, Nat.reduceSub, Int.reduceToNat, Int.reduceLT, Int.reduceLE, load_w, load_a, store_b, idxS_b, set_blk, new_blk, set_next, new_next, len_s, ldW_c, ldA_c, stB_c, toArr_one, size_one, toList_toArr, size_toArr, List.length_cons, List.length_nil, List.getElem?_cons_zero, List.getElem?_cons_succ, Nat.zero_add, Nat.add_zero, h7', hb3.at_, sub1 (show 0 < i by omega) (show i < 1000000 by omega), c1, c2 _ hx3, a1, d2 _ hx3]
                refine gT.of (fun h8' => ?_) (fun h8' => ?_) <;> (have h8 := h8'; try simp only [decide_eq_true_eq, decide_eq_false_iff_not, beq_iff_eq, bne_iff_ne, beq_eq_false_iff_ne, ne_eq, Bool.not_eq_true', Bool.not_eq_false', bne_eq_false_iff_eq, Int.not_lt, Int.not_le] at h8)
                · try simp only [go_sem, Int.reduceBEq, Int.reduceBNe, Int.reduceNeg, reduceCtorEq, Nat.reduceEqDiff, Nat.reduceAdd, Nat.reduceLeDiff, Nat.reduceMul, Nat.reduceSub, Int.reduceToNat, Int.reduceLT, Int.reduceLE, load_w, load_a, store_b, idxS_b, set_blk, new_blk, set_next, new_next, len_s, ldW_c, ldA_c, stB_c, toArr_one, size_one, toList_toArr, size_toArr, List.length_cons, List.length_nil, List.getElem?_cons_zero, List.getElem?_cons_succ, Nat.zero_add, Nat.add_zero, h8']
                  exact ⟨fin_no (bad fun h => by have := h.2 (by omega); omega), hx.trans (hx2.trans hx3)⟩
                · try simp only [go_sem, Int.reduceBEq, Int.reduceBNe, Int.reduceNeg, reduceCtorEq, Nat.reduceEqDiff, Nat.reduceAdd, Nat.reduceLeDiff, Nat.reduceMul, Nat.reduceSub, Int.reduceToNat, Int.reduceLT, Int.reduceLE, load_w, load_a, store_b, idxS_b, set_blk, new_blk, set_next, new_next, len_s, ldW_c, ldA_c, stB_c, toArr_one, size_one, toList_toArr, size_toArr, List.length_cons, List.length_nil, List.getElem?_cons_zero, List.getElem?_cons_succ, Nat.zero_add, Nat.add_zero, h8', step1 (show i < 1000000 by omega)]
                  exact ⟨p.places.length - (i + 1), by omega, i + 1, by omega, rfl, rfl, good ⟨h6, fun h => by omega⟩, hx2.trans hx3⟩
              · try simp only [go_sem, Int.reduceBEq, Int.reduceBNe, Int.reduceNeg, reduceCtorEq, Nat.reduceEqDiff, Nat.reduceAdd, Nat.reduceLeDiff, Nat.reduceMul, Nat.reduceSub, Int.reduceToNat, Int.reduceLT, Int.reduceLE, load_w, load_a, store_b, idxS_b, set_blk, new_blk, set_next, new_next, len_s, ldW_c, ldA_c, stB_c, toArr_one, size_one, toList_toArr, size_toArr, List.length_cons, List.length_nil, List.getElem?_cons_zero, List.getElem?_cons_succ, Nat.zero_add, Nat.add_zero, h7', step1 (show i < 1000000 by omega)]
                exact ⟨p.places.length - (i + 1), by omega, i + 1, by omega, rfl, rfl, good ⟨h6, fun h => by omega⟩, hx2.trans hx3⟩
          · have hi : i = p.places.length := by omega
            subst hi
            have hr := RightP.r (by omega) (by omega) hl hp1 hall
            try simp only [go_sem, Int.reduceBEq, Int.reduceBNe, Int.reduceNeg, reduceCtorEq, Nat.reduceEqDiff, Nat.reduceAdd, Nat.reduceLeDiff, Nat.reduceMul, Nat.reduceSub, Int.reduceToNat, Int.reduceLT, Int.reduceLE, load_w, load_a, store_b, idxS_b, set_blk, new_blk, set_next, new_next, len_s, ldW_c, ldA_c, stB_c, toArr_one, size_one, toList_toArr, size_toArr, List.length_cons, List.length_nil, List.getElem?_cons_zero, List.getElem?_cons_succ, Nat.zero_add, Nat.add_zero, hb2.at_]
            refine gC.of (refApart_spec (p := p) ⟨pv, rfl, hp2⟩ hl hp1) ?_
            rintro _ m3 ⟨rfl, hx3⟩
            simp only [go_sem, Int.reduceBEq, Int.reduceBNe, Int.reduceNeg, reduceCtorEq, Nat.reduceEqDiff, Nat.reduceAdd, Nat.reduceLeDiff, Nat.reduceMul, Nat.reduceSub, Int.reduceToNat, Int.reduceLT, Int.reduceLE]
            have hb3 := hb2.keep hx3
            have hp3 := hp2.keep hx3
            try simp only [go_sem, Int.reduceBEq, Int.reduceBNe, Int.reduceNeg, reduceCtorEq, Nat.reduceEqDiff, Nat.reduceAdd, Nat.reduceLeDiff, Nat.reduceMul, Nat.reduceSub, Int.reduceToNat, Int.reduceLT, Int.reduceLE, load_w, load_a, store_b, idxS_b, set_blk, new_blk, set_next, new_next, len_s, ldW_c, ldA_c, stB_c, toArr_one, size_one, toList_toArr, size_toArr, List.length_cons, List.length_nil, List.getElem?_cons_zero, List.getElem?_cons_succ, Nat.zero_add, Nat.add_zero, hb3.at_, hb2.at_]
            refine gT.of (fun h6' => ?_) (fun h6' => ?_) <;> (have h6 := h6'; try simp only [decide_eq_true_eq, decide_eq_false_iff_not, beq_iff_eq, bne_iff_ne, beq_eq_false_iff_ne, ne_eq, Bool.not_eq_true', Bool.not_eq_false', bne_eq_false_iff_eq, Int.not_lt, Int.not_le] at h6)
            · try simp only [go_sem, Int.reduceBEq, Int.reduceBNe, Int.reduceNeg, reduceCtorEq, Nat.reduceEqDiff, Nat.reduceAdd, Nat.reduceLeDiff, Nat.reduceMul, Nat.reduceSub, Int.reduceToNat, Int.reduceLT, Int.reduceLE, load_w, load_a, store_b, idxS_b, set_blk, new_blk, set_next, new_next, len_s, ldW_c, ldA_c, stB_c, toArr_one, size_one, toList_toArr, size_toArr, List.length_cons, List.length_nil, List.getElem?_cons_zero, List.getElem?_cons_succ, Nat.zero_add, Nat.add_zero, h6']
              exact ⟨fin_no fun h => h6 h.2.2.2.2.2.1, hx.trans (hx2.trans hx3)⟩
            · have h6 : apartR p.places := by simpa using h6'
              try simp only [go_sem, Int.reduceBEq, Int.reduceBNe, Int.reduceNeg, reduceCtorEq, Nat.reduceEqDiff, Nat.reduceAdd, Nat.reduceLeDiff, Nat.reduceMul, Nat.reduceSub, Int.reduceToNat, Int.reduceLT, Int.reduceLE, load_w, load_a, store_b, idxS_b, set_blk, new_blk, set_next, new_next, len_s, ldW_c, ldA_c, stB_c, toArr_one, size_one, toList_toArr, size_toArr, List.length_cons, List.length_nil, List.getElem?_cons_zero, List.getElem?_cons_succ, Nat.zero_add, Nat.add_zero, h6', hb3.at_]
              refine gC.of (refSplits_spec (p := p) ⟨pv, rfl, hp3⟩ hl) ?_
              rintro _ m4 ⟨rfl, hx4⟩
              simp only [go_sem, Int.reduceBEq, Int.reduceBNe, Int.reduceNeg, reduceCtorEq, Nat.reduceEqDiff, Nat.reduceAdd, Nat.reduceLeDiff, Nat.reduceMul, Nat.reduceSub, Int.reduceToNat, Int.reduceLT, Int.reduceLE]
              have hb4 := hb3.keep hx4
              have hp4 := hp3.keep hx4
              try simp only [go_sem, Int.reduceBEq, Int.reduceBNe, Int.reduceNeg, reduceCtorEq, Nat.reduceEqDiff, Nat.reduceAdd, Nat.reduceLeDiff, Nat.reduceMul, Nat.reduceSub, Int.reduceToNat, Int.reduceLT, Int.reduceLE, load_w, load_a, store_b, idxS_b, set_blk, new_blk, set_next, new_next, len_s, ldW_c, ldA_c, stB_c, toArr_one, size_one, toList_toArr, size_toArr, List.length_cons, List.length_nil, List.getElem?_cons_zero, List.getElem?_cons_succ, Nat.zero_add, Nat.add_zero, hb3.at_, hb4.at_]
              refine gC.of (refCores_spec (p := p) ⟨pv, rfl, hp4⟩) ?_
              rintro w m5 ⟨ho, hx5⟩
              have hb5 := hb4.keep hx5
              have hp5 := hp4.keep hx5
              try simp only [go_sem, Int.reduceBEq, Int.reduceBNe, Int.reduceNeg, reduceCtorEq, Nat.reduceEqDiff, Nat.reduceAdd, Nat.reduceLeDiff, Nat.reduceMul, Nat.reduceSub, Int.reduceToNat, Int.reduceLT, Int.reduceLE, load_w, load_a, store_b, idxS_b, set_blk, new_blk, set_next, new_next, len_s, ldW_c, ldA_c, stB_c, toArr_one, size_one, toList_toArr, size_toArr, List.length_cons, List.length_nil, List.getElem?_cons_zero, List.getElem?_cons_succ, Nat.zero_add, Nat.add_zero, hb4.at_, hb5.at_, ho.sl.len]
              refine gT.of (fun h7' => ?_) (fun h7' => ?_) <;> (have h7 := h7'; try simp only [decide_eq_true_eq, decide_eq_false_iff_not, beq_iff_eq, bne_iff_ne, beq_eq_false_iff_ne, ne_eq, Bool.not_eq_true', Bool.not_eq_false', bne_eq_false_iff_eq, Int.not_lt, Int.not_le] at h7)
              · try simp only [go_sem, Int.reduceBEq, Int.reduceBNe, Int.reduceNeg, reduceCtorEq, Nat.reduceEqDiff, Nat.reduceAdd, Nat.reduceLeDiff, Nat.reduceMul, Nat.reduceSub, Int.reduceToNat, Int.reduceLT, Int.reduceLE, load_w, load_a, store_b, idxS_b, set_blk, new_blk, set_next, new_next, len_s, ldW_c, ldA_c, stB_c, toArr_one, size_one, toList_toArr, size_toArr, List.length_cons, List.length_nil, List.getElem?_cons_zero, List.getElem?_cons_succ, Nat.zero_add, Nat.add_zero, h7']
                exact ⟨fin_no fun h => by have := h.2.2.2.2.2.2.1; omega, hx.trans (hx2.trans (hx3.trans (hx4.trans hx5)))⟩
              · try simp only [go_sem, Int.reduceBEq, Int.reduceBNe, Int.reduceNeg, reduceCtorEq, Nat.reduceEqDiff, Nat.reduceAdd, Nat.reduceLeDiff, Nat.reduceMul, Nat.reduceSub, Int.reduceToNat, Int.reduceLT, Int.reduceLE, load_w, load_a, store_b, idxS_b, set_blk, new_blk, set_next, new_next, len_s, ldW_c, ldA_c, stB_c, toArr_one, size_one, toList_toArr, size_toArr, List.length_cons, List.length_nil, List.getElem?_cons_zero, List.getElem?_cons_succ, Nat.zero_add, Nat.add_zero, h7', hb5.at_]
                refine gC.of (refCores_spec (p := p) ⟨pv, rfl, hp5⟩) ?_
                rintro w2 m6 ⟨ho6, hx6⟩
                have hsl := ho6.sl
                have hlt := ho6.lt
                have hlen := csP_len (p := p) (n := 16)
                try simp only [go_sem, Int.reduceBEq, Int.reduceBNe, Int.reduceNeg, reduceCtorEq, Nat.reduceEqDiff, Nat.reduceAdd, Nat.reduceLeDiff, Nat.reduceMul, Nat.reduceSub, Int.reduceToNat, Int.reduceLT, Int.reduceLE, load_w, load_a, store_b, idxS_b, set_blk, new_blk, set_next, new_next, len_s, ldW_c, ldA_c, stB_c, toArr_one, size_one, toList_toArr, size_toArr, List.length_cons, List.length_nil, List.getElem?_cons_zero, List.getElem?_cons_succ, Nat.zero_add, Nat.add_zero]
                refine WL.of (fun n e m' => ∃ k : Nat, k ≤ (csP p 16).length ∧ n = (csP p 16).length - k ∧ e = [(1, pt m.next), (4, w2), (5, .int .i64 k)] ∧ (∀ c ∈ (csP p 16).take k, loadR p (c : Nat) ≤ p.frame) ∧ Ext m6 m') (csP p 16).length
                  ⟨0, by omega, by omega, by simp only [go_sem, Int.reduceBEq, Int.reduceBNe, Int.reduceNeg, reduceCtorEq, Nat.reduceEqDiff, Nat.reduceAdd, Nat.reduceLeDiff, Nat.reduceMul, Nat.reduceSub, Int.reduceToNat, Int.reduceLT, Int.reduceLE] <;> rfl, by simp, Ext.refl _⟩ ?_
                rintro _ _ m7 ⟨k, hk, rfl, rfl, hld, hx7⟩
                have hb7 := (hb5.keep hx6).keep hx7
                have hp7 := (hp5.keep hx6).keep hx7
                have hsl7 := hsl.keep hlt hx7
                simp only [RB.ref16_Right_1, pt, go_sem, Int.reduceBEq, Int.reduceBNe, Int.reduceNeg, reduceCtorEq, Nat.reduceEqDiff, Nat.reduceAdd, Nat.reduceLeDiff, Nat.reduceMul, Nat.reduceSub, Int.reduceToNat, Int.reduceLT, Int.reduceLE, hsl7.len]
                refine gT.of (fun h8' => ?_) (fun h8' => ?_) <;> (have h8 := h8'; try simp only [decide_eq_true_eq, decide_eq_false_iff_not, beq_iff_eq, bne_iff_ne, beq_eq_false_iff_ne, ne_eq, Bool.not_eq_true', Bool.not_eq_false', bne_eq_false_iff_eq, Int.not_lt, Int.not_le] at h8)
                · have hkl : k < (csP p 16).length := by omega
                  obtain ⟨q, e1, e2⟩ := hsl7.get (k := .i64) (i := k) hkl
                  rw [ints_get hkl] at e2
                  have hsn : (csP p 16).take (k + 1) = (csP p 16).take k ++ [(csP p 16)[k]] := List.take_succ_eq_append_getElem hkl
                  have hmm : (csP p 16)[k] ∈ csP p 16 := List.getElem_mem hkl
                  generalize (csP p 16)[k] = c at *
                  try simp only [go_sem, Int.reduceBEq, Int.reduceBNe, Int.reduceNeg, reduceCtorEq, Nat.reduceEqDiff, Nat.reduceAdd, Nat.reduceLeDiff, Nat.reduceMul, Nat.reduceSub, Int.reduceToNat, Int.reduceLT, Int.reduceLE, load_w, load_a, store_b, idxS_b, set_blk, new_blk, set_next, new_next, len_s, ldW_c, ldA_c, stB_c, toArr_one, size_one, toList_toArr, size_toArr, List.length_cons, List.length_nil, List.getElem?_cons_zero, List.getElem?_cons_succ, Nat.zero_add, Nat.add_zero, hb7.at_, e1, e2]
                  refine gC.of (refLoad_spec (p := p) (c := c) ⟨pv, rfl, hp7⟩ hl hp1 hr.sh) ?_
                  rintro _ m8 ⟨rfl, hx8⟩
                  simp only [go_sem, Int.reduceBEq, Int.reduceBNe, Int.reduceNeg, reduceCtorEq, Nat.reduceEqDiff, Nat.reduceAdd, Nat.reduceLeDiff, Nat.reduceMul, Nat.reduceSub, Int.reduceToNat, Int.reduceLT, Int.reduceLE]
                  have hb8 := hb7.keep hx8
                  try simp only [go_sem, Int.reduceBEq, Int.reduceBNe, Int.reduceNeg, reduceCtorEq, Nat.reduceEqDiff, Nat.reduceAdd, Nat.reduceLeDiff, Nat.reduceMul, Nat.reduceSub, Int.reduceToNat, Int.reduceLT, Int.reduceLE, load_w, load_a, store_b, idxS_b, set_blk, new_blk, set_next, new_next, len_s, ldW_c, ldA_c, stB_c, toArr_one, size_one, toList_toArr, size_toArr, List.length_cons, List.length_nil, List.getElem?_cons_zero, List.getElem?_cons_succ, Nat.zero_add, Nat.add_zero, hb7.at_, hb8.at_]
                  refine gT.of (fun h9' => ?_) (fun h9' => ?_) <;> (have h9 := h9'; try simp only [decide_eq_true_eq, decide_eq_false_iff_not, beq_iff_eq, bne_iff_ne, beq_eq_false_iff_ne, ne_eq, Bool.not_eq_true', Bool.not_eq_false', bne_eq_false_iff_eq, Int.not_lt, Int.not_le] at h9)
                  · try simp only [go_sem, Int.reduceBEq, Int.reduceBNe, Int.reduceNeg, reduceCtorEq, Nat.reduceEqDiff, Nat.reduceAdd, Nat.reduceLeDiff, Nat.reduceMul, Nat.reduceSub, Int.reduceToNat, Int.reduceLT, Int.reduceLE, load_w, load_a, store_b, idxS_b, set_blk, new_blk, set_next, new_next, len_s, ldW_c, ldA_c, stB_c, toArr_one, size_one, toList_toArr, size_toArr, List.length_cons, List.length_nil, List.getElem?_cons_zero, List.getElem?_cons_succ, Nat.zero_add, Nat.add_zero, h9']
                    exact ⟨fin_no fun h => by have := h.2.2.2.2.2.2.2 c hmm; omega, hx.trans (hx2.trans (hx3.trans (hx4.trans (hx5.trans (hx6.trans (hx7.trans hx8))))))⟩
                  · try simp only [go_sem, Int.reduceBEq, Int.reduceBNe, Int.reduceNeg, reduceCtorEq, Nat.reduceEqDiff, Nat.reduceAdd, Nat.reduceLeDiff, Nat.reduceMul, Nat.reduceSub, Int.reduceToNat, Int.reduceLT, Int.reduceLE, load_w, load_a, store_b, idxS_b, set_blk, new_blk, set_next, new_next, len_s, ldW_c, ldA_c, stB_c, toArr_one, size_one, toList_toArr, size_toArr, List.length_cons, List.length_nil, List.getElem?_cons_zero, List.getElem?_cons_succ, Nat.zero_add, Nat.add_zero, h9', step1 (show k < 1000000 by omega)]
                    refine ⟨(csP p 16).length - (k + 1), by omega, k + 1, by omega, rfl, rfl, ?_, hx7.trans hx8⟩
                    intro c' hc'
                    rw [hsn] at hc'
                    rcases List.mem_append.1 hc' with h | h
                    · exact hld c' h
                    · rw [List.mem_singleton.1 h]; omega
                · try simp only [go_sem, Int.reduceBEq, Int.reduceBNe, Int.reduceNeg, reduceCtorEq, Nat.reduceEqDiff, Nat.reduceAdd, Nat.reduceLeDiff, Nat.reduceMul, Nat.reduceSub, Int.reduceToNat, Int.reduceLT, Int.reduceLE, load_w, load_a, store_b, idxS_b, set_blk, new_blk, set_next, new_next, len_s, ldW_c, ldA_c, stB_c, toArr_one, size_one, toList_toArr, size_toArr, List.length_cons, List.length_nil, List.getElem?_cons_zero, List.getElem?_cons_succ, Nat.zero_add, Nat.add_zero]
                  rw [List.take_of_length_le (by omega)] at hld
                  exact ⟨fin_yes ⟨by omega, by omega, h3, hc, hall, h6, by omega, hld⟩, hx.trans (hx2.trans (hx3.trans (hx4.trans (hx5.trans (hx6.trans hx7)))))⟩
end Go.Am


/- PlanM over the table of diff (relayset.py). -/
set_option linter.unusedVariables false
set_option linter.unusedSimpArgs false
namespace Go.Am
open Classical

/-! ### sums -/
def S (f : Nat → Int) : Nat → Int
  | 0 => 0
  | n + 1 => S f n + f n
theorem S_congr {f g : Nat → Int} {n : Nat} (h : ∀ i, i < n → f i = g i) : S f n = S g n := by
  induction n with
  | zero => rfl
  | succ n ih => simp only [S]; rw [ih fun i hi => h i (by omega), h n (by omega)]
theorem S_add {f g : Nat → Int} {n : Nat} : S (fun i => f i + g i) n = S f n + S g n := by
  induction n with
  | zero => rfl
  | succ n ih => simp only [S]; rw [ih]; omega
theorem S_sub {f g : Nat → Int} {n : Nat} : S (fun i => f i - g i) n = S f n - S g n := by
  induction n with
  | zero => rfl
  | succ n ih => simp only [S]; rw [ih]; omega
theorem S_zero {n : Nat} : S (fun _ => 0) n = 0 := by
  induction n with
  | zero => rfl
  | succ n ih => simp only [S]; rw [ih]; rfl
theorem S_swap {f : Nat → Nat → Int} {n k : Nat} : S (fun i => S (fun j => f i j) k) n = S (fun j => S (fun i => f i j) n) k := by
  induction n with
  | zero => simp only [S]; rw [S_zero]
  | succ n ih => simp only [S]; rw [ih, ← S_add]
/-- One of them alone. -/
theorem S_one {n d : Nat} {a : Int} (h : d < n) : S (fun i => if i = d then a else 0) n = a := by
  induction n with
  | zero => omega
  | succ n ih =>
    simp only [S]
    by_cases e : d = n
    · subst e
      rw [if_pos rfl, S_congr (g := fun _ => 0) (fun i hi => if_neg (by omega)), S_zero]; omega
    · rw [ih (by omega), if_neg (by omega)]; omega

theorem sumI_range {f : Nat → Int} {n : Nat} : sumI ((List.range n).map fun c => f c) = S f n := by
  induction n with
  | zero => rfl
  | succ n ih => rw [List.range_succ, List.map_append, S, ← ih]; simp [sumI]

theorem sumI_cores {p : PlanD} {f : Nat → Int} {n : Nat} : sumI ((csP p n).map fun c => f c) = S (fun c => if hasC p c = true then f c else 0) n := by
  induction n with
  | zero => rfl
  | succ n ih =>
    rw [csP_succ, List.map_append, S, ← ih]
    split <;> simp [sumI]

theorem cores_S {p : PlanD} {n : Nat} : ((csP p n).length : Int) = S (fun c => if hasC p c = true then 1 else 0) n := by
  induction n with
  | zero => rfl
  | succ n ih =>
    rw [csP_succ, List.length_append, S, ← ih]
    split <;> simp

/-! ### bits -/
theorem pop_tks (x : BitVec 64) : pop x = (tks x 64).length := by
  have : ∀ (n : Nat) (x : BitVec 64), n ≤ 64 → popN n x.toNat = (tks x n).length := by
    intro n
    induction n with
    | zero => intro x _; rfl
    | succ n ih =>
      intro x hn
      rw [popN_add n 1, ih x (by omega), tks_succ, List.length_append]
      have : x.getLsbD n = x.toNat.testBit n := rfl
      rw [this, Nat.testBit_eq_decide_div_mod_eq]
      simp only [popN, Nat.add_zero, decide_eq_true_eq]
      split <;> simp <;> omega
  exact this 64 x (Nat.le_refl _)

theorem tks_S {x : BitVec 64} {n : Nat} : ((tks x n).length : Int) = S (fun t => if x.getLsbD t = true then 1 else 0) n := by
  induction n with
  | zero => rfl
  | succ n ih =>
    rw [tks_succ, List.length_append, S, ← ih]
    split <;> simp

/-! ### windows -/
theorem winPc_bit {c : Int} {t : Nat} : ∀ {ps : List Pc} {a : BitVec 64}, (winPc c a ps).getLsbD t = (a.getLsbD t || ps.any fun y => decide (y.1 = c) && y.2.getLsbD t)
  | [], a => by simp [winPc]
  | y :: ps, a => by
    have : winPc c a (y :: ps) = winPc c (if y.1 = c then a ||| y.2 else a) ps := rfl
    rw [this, winPc_bit, List.any_cons]
    split
    · rename_i h; rw [BitVec.getLsbD_or]; simp [h, Bool.or_assoc]
    · rename_i h; simp [h]
theorem winW_bit' {c : Int} {t : Nat} : ∀ {l : List Pl} {a : BitVec 64}, (l.foldl (fun a x => winPc c a x.pieces) a).getLsbD t = (a.getLsbD t || l.any fun x => x.pieces.any fun y => decide (y.1 = c) && y.2.getLsbD t)
  | [], a => by simp
  | x :: l, a => by rw [List.foldl_cons, winW_bit', winPc_bit, List.any_cons, Bool.or_assoc]
theorem winW_bit {c : Int} {t : Nat} {l : List Pl} : (winW l c).getLsbD t = l.any fun x => x.pieces.any fun y => decide (y.1 = c) && y.2.getLsbD t := by
  unfold winW; rw [winW_bit']; simp

theorem atB_eq {c t : Nat} (ht : t < 64) (y : Pc) : atB c t y = (decide (y.1 = c) && y.2.getLsbD t) := by
  have : ¬ ((c : Int) < 0) := by omega
  simp only [atB, this, decide_false, Bool.false_or]
  rw [inB_of (by omega) (by omega), Int.toNat_natCast]
theorem atB_all {t : Nat} (ht : t < 64) (y : Pc) : atB (-1) t y = y.2.getLsbD t := by
  simp only [atB, show ((-1 : Int) < 0) by omega, decide_true, Bool.true_or, Bool.true_and]
  rw [inB_of (by omega) (by omega), Int.toNat_natCast]

theorem cntL_cons {x : Pl} {l : List Pl} {c t : Int} : cntL (x :: l) c t = x.pieces.countP (atB c t) + cntL l c t := by simp [cntL]

theorem cntL_pos {l : List Pl} {c t : Nat} (ht : t < 64) : (0 < cntL l c t) ↔ (winW l c).getLsbD t = true := by
  rw [winW_bit]
  induction l with
  | nil => simp [cntL]
  | cons x l ih =>
    rw [cntL_cons, List.any_cons, Bool.or_eq_true, ← ih]
    have : 0 < x.pieces.countP (atB c t) ↔ (x.pieces.any fun y => decide (y.1 = (c : Int)) && y.2.getLsbD t) = true := by
      rw [List.countP_pos_iff, List.any_eq_true]
      simp only [atB_eq ht]
    rw [← this]; omega

theorem rwT_bit {c : Int} {t i : Nat} (hi : i < 64) : ∀ {l : List Pl} {w : BitVec 64}, (rwT l c t w).getLsbD i = (w.getLsbD i || (decide (i = t) && l.any fun x => decide (0 < x.pieces.countP (atB c t))))
  | [], w => by simp [rwT]
  | x :: l, w => by
    have : rwT (x :: l) c t w = rwT l c t (if 0 < x.pieces.countP (atB c t) then withB w t else w) := rfl
    rw [this, rwT_bit hi, List.any_cons]
    split
    · rename_i h
      rw [withB_bit hi]
      have e : decide ((i : Int) = (t : Int)) = decide (i = t) := decide_eq_decide.2 (by omega)
      rw [e]
      simp [h]
      cases w.getLsbD i <;> simp <;> (intro h; intros; exact h)
    · rename_i h; simp [h]
theorem any_cnt {l : List Pl} {c t : Int} : (l.any fun x => decide (0 < x.pieces.countP (atB c t))) = decide (0 < cntL l c t) := by
  induction l with
  | nil => simp [cntL]
  | cons x l ih =>
    rw [List.any_cons, ih, cntL_cons, ← Bool.decide_or]
    exact decide_eq_decide.2 (by omega)
theorem rwN_bit {l : List Pl} {c : Int} {i : Nat} (hi : i < 64) : ∀ {n : Nat}, (rwN l c n).getLsbD i = (decide (i < n) && decide (0 < cntL l c i))
  | 0 => by simp [rwN]
  | n + 1 => by
    simp only [rwN]
    rw [rwT_bit hi, rwN_bit hi, any_cnt]
    by_cases e : i = n
    · subst e; simp
    · have : decide (i < n + 1) = decide (i < n) := decide_eq_decide.2 (by omega)
      rw [this]; simp [e]

/-- Both say the same windows. -/
theorem windows_same {l : List Pl} {c : Nat} : rwN l c 64 = winW l c := by
  refine word_ext fun i hi => ?_
  rw [rwN_bit hi, Bool.eq_iff_iff]
  simp only [hi, decide_true, Bool.true_and, decide_eq_true_eq]
  exact cntL_pos hi

/-! ### what is counted on all cores -/
def plFine (x : Pl) : Prop := (isSp x = true → (∀ y ∈ x.pieces, 0 ≤ y.1 ∧ y.1 < 16) ∧ (sumA x 64 : Int) = x.share) ∧ (isSp x = false → 0 ≤ x.core ∧ x.core < 16)

theorem sumA_S {x : Pl} {n : Nat} : (sumA x n : Int) = S (fun t => (cntA x t : Int)) n := by
  induction n with
  | zero => rfl
  | succ n ih => simp only [sumA, S]; rw [← ih]; omega

theorem pieces_cores {ps : List Pc} {t : Nat} (ht : t < 64) (h : ∀ y ∈ ps, 0 ≤ y.1 ∧ y.1 < 16) : S (fun c => ((ps.countP (atB (c : Nat) t) : Nat) : Int)) 16 = (ps.countP (atB (-1) t) : Nat) := by
  induction ps with
  | nil => simp only [List.countP_nil]; rw [show ((0 : Nat) : Int) = 0 from rfl, S_zero]
  | cons y ps ih =>
    have hy := h y (by simp)
    have e : ∀ c : Nat, (((y :: ps).countP (atB (c : Nat) t) : Nat) : Int) = (ps.countP (atB (c : Nat) t) : Nat) + (if c = y.1.toNat then (if y.2.getLsbD t = true then 1 else 0) else 0 : Int) := by
      intro c
      rw [List.countP_cons, atB_eq ht]
      by_cases h1 : y.1 = (c : Int)
      · have : c = y.1.toNat := by omega
        rw [if_pos this]; simp [h1]; split <;> rfl
      · have : ¬ c = y.1.toNat := by omega
        rw [if_neg this]; simp [h1]
    rw [S_congr (fun c _ => e c), S_add, ih fun z hz => h z (by simp [hz]), S_one (by omega), List.countP_cons, atB_all ht]
    split <;> simp

theorem all_cores {l : List Pl} (h : ∀ x ∈ l, plFine x) : S (fun c => S (fun t => (cntL l (c : Nat) (t : Nat) : Int)) 64 + sumW (whL l (c : Nat))) 16 = sumW (wtsL l) := by
  induction l with
  | nil =>
    have : ∀ c, c < 16 → S (fun t => (cntL [] (c : Nat) (t : Nat) : Int)) 64 + sumW (whL [] (c : Nat)) = (fun _ => (0 : Int)) c := by
      intro c _
      have : S (fun t => (cntL [] (c : Nat) (t : Nat) : Int)) 64 = 0 := by
        rw [S_congr (g := fun _ => 0) (fun t _ => by simp [cntL]), S_zero]
      rw [this]; simp [whL, sumW]
    rw [S_congr this, S_zero]; rfl
  | cons x l ih =>
    have hx := h x (by simp)
    have ih := ih fun y hy => h y (by simp [hy])
    have e1 : ∀ c, c < 16 → S (fun t => (cntL (x :: l) (c : Nat) (t : Nat) : Int)) 64 + sumW (whL (x :: l) (c : Nat)) =
        (S (fun t => ((x.pieces.countP (atB (c : Nat) (t : Nat)) : Nat) : Int)) 64 + (if isWh c x = true then x.share else 0)) + (S (fun t => (cntL l (c : Nat) (t : Nat) : Int)) 64 + sumW (whL l (c : Nat))) := by
      intro c _
      rw [S_congr (g := fun t => ((x.pieces.countP (atB (c : Nat) (t : Nat)) : Nat) : Int) + (cntL l (c : Nat) (t : Nat) : Int)) (fun t _ => by rw [cntL_cons]; omega), S_add]
      have : sumW (whL (x :: l) (c : Nat)) = (if isWh c x = true then x.share else 0) + sumW (whL l (c : Nat)) := by
        unfold whL sumW
        rw [List.filter_cons]
        split <;> simp [wtOf]
      rw [this]; omega
    rw [S_congr e1, S_add, ih, S_add]
    have e2 : sumW (wtsL (x :: l)) = x.share + sumW (wtsL l) := by simp [wtsL, sumW, wtOf]
    rw [e2, S_swap]
    cases hsp : isSp x
    · have hc := hx.2 hsp
      have hnil : x.pieces = [] := by
        simp only [isSp, decide_eq_false_iff_not] at hsp
        exact List.eq_nil_of_length_eq_zero (by omega)
      rw [hnil]
      have z : S (fun t => S (fun c => (([] : List Pc).countP (atB (c : Nat) (t : Nat)) : Nat) : Nat → Int) 16) 64 = 0 := by
        rw [S_congr (g := fun _ => 0) (fun t _ => by simp only [List.countP_nil]; rw [show ((0 : Nat) : Int) = 0 from rfl, S_zero]), S_zero]
      rw [z]
      have w : S (fun c => if isWh c x = true then x.share else 0) 16 = x.share := by
        rw [S_congr (g := fun c => if c = x.core.toNat then x.share else 0) (fun c hc2 => by
          have : isWh c x = decide (c = x.core.toNat) := by
            simp only [isWh, hsp, Bool.not_false, Bool.true_and]
            rw [Bool.eq_iff_iff, beq_iff_eq, decide_eq_true_eq]; omega
          rw [this]; simp), S_one (by omega)]
      rw [w]; omega
    · obtain ⟨h1, h2⟩ := hx.1 hsp
      rw [S_congr (fun t ht => pieces_cores ht h1)]
      have w : S (fun c => if isWh c x = true then x.share else 0) 16 = 0 := by
        rw [S_congr (g := fun _ => 0) (fun c _ => by simp [isWh, hsp]), S_zero]
      rw [w]
      have : S (fun t => ((x.pieces.countP (atB (-1) (t : Nat)) : Nat) : Int)) 64 = x.share := by rw [← h2, sumA_S]; rfl
      rw [this]; omega
end Go.Am


/- PlanM2 over the table of diff (relayset.py). -/
set_option linter.unusedVariables false
set_option linter.unusedSimpArgs false
namespace Go.Am
open Classical

structure PlanL (p : PlanD) : Prop where
  len : p.places.length < 1000000
  pcs : ∀ x ∈ p.places, x.pieces.length < 1000000

theorem RightP.pr {p : PlanD} (h : RightP p) (hl : PlanL p) : PlanR p := RightP.r h.1 h.2.1 hl.len hl.pcs h.2.2.2.2.1

theorem hasC_range {p : PlanD} {c : Int} (h : hasC p c = true) : 0 ≤ c ∧ c < 16 := by
  simp only [hasC, Bool.and_eq_true, decide_eq_true_eq] at h
  exact h.1

theorem RightP.place {p : PlanD} (h : RightP p) {x : Pl} (hx : x ∈ p.places) : refPlaceP p x := by
  obtain ⟨i, hi, rfl⟩ := List.getElem_of_mem hx
  obtain ⟨_, g, -⟩ := h.2.2.2.2.1 i hi
  exact g

theorem RightP.fine {p : PlanD} (h : RightP p) {x : Pl} (hx : x ∈ p.places) : plFine x := by
  obtain ⟨h1, h2, h3, h4, h5⟩ := h.place hx
  constructor
  · intro hs
    simp only [isSp, decide_eq_true_eq] at hs
    have := h5 (by omega)
    refine ⟨fun y hy => ?_, this.2.2.2.2⟩
    obtain ⟨i, hi, rfl⟩ := List.getElem_of_mem hy
    obtain ⟨_, g, -⟩ := this.1 i hi
    exact hasC_range g
  · intro hs
    simp only [isSp, decide_eq_false_iff_not] at hs
    exact hasC_range (h4 (by omega))

/-- Whose cores are asked. -/
theorem RightP.cnt {p : PlanD} (h : RightP p) {c : Nat} (hc : hasC p c = false) {t : Nat} (ht : t < 64) : cntL p.places (c : Nat) (t : Nat) = 0 ∧ whL p.places (c : Nat) = [] := by
  constructor
  · cases Nat.eq_zero_or_pos (cntL p.places (c : Nat) (t : Nat)) with
    | inl h => exact h
    | inr hpos =>
      exfalso
      replace hpos := (cntL_pos ht).1 hpos
      rw [winW_bit, List.any_eq_true] at hpos
      obtain ⟨x, hx, hy⟩ := hpos
      rw [List.any_eq_true] at hy
      obtain ⟨y, hy, hb⟩ := hy
      simp only [Bool.and_eq_true, decide_eq_true_eq] at hb
      have hp := (h.place hx).2.2.2.2 (by intro e; rw [List.eq_nil_of_length_eq_zero e] at hy; cases hy)
      obtain ⟨i, hi, rfl⟩ := List.getElem_of_mem hy
      obtain ⟨_, g, -⟩ := hp.1 i hi
      rw [hb.1, hc] at g; cases g
  · unfold whL
    rw [List.map_eq_nil_iff, List.filter_eq_nil_iff]
    intro x hx hw
    simp only [isWh, Bool.and_eq_true, beq_iff_eq, Bool.not_eq_true'] at hw
    have h4 := (h.place hx).2.2.2.1 (by have := hw.1; simp only [isSp, decide_eq_false_iff_not] at this; omega)
    rw [hw.2, hc] at h4; cases h4

def loadS (p : PlanD) (c : Nat) : Int := S (fun t => (cntL p.places (c : Nat) (t : Nat) : Int)) 64 + sumW (whL p.places (c : Nat))

theorem RightP.load {p : PlanD} (h : RightP p) {c : Nat} (hc : c < 16) : loadR p c = loadS p c := by
  unfold loadR loadS
  rw [tks_S]
  congr 1
  refine S_congr fun t ht => ?_
  rw [windows_same]
  have h1 := h.2.2.2.2.2.1 c hc t ht
  have h2 := cntL_pos (l := p.places) (c := c) ht
  split
  · rename_i e; rw [← h2] at e; omega
  · rename_i e; rw [← h2] at e; omega

theorem RightP.loadS0 {p : PlanD} (h : RightP p) {c : Nat} (hc : hasC p c = false) : loadS p c = 0 := by
  unfold loadS
  rw [S_congr (g := fun _ => 0) (fun t ht => by rw [(h.cnt hc ht).1]; rfl), S_zero, (h.cnt hc (show 0 < 64 by omega)).2]; rfl

theorem csP_mem {p : PlanD} {c : Nat} : c ∈ csP p 16 ↔ c < 16 ∧ hasC p c = true := by
  unfold csP; rw [List.mem_filter, List.mem_range]

theorem leftP_eq {p : PlanD} {c : Nat} : leftP p c = p.frame - loadR p c := by
  unfold leftP loadR
  rw [pop_tks, windows_same]; omega

theorem RightP.room {p : PlanD} (h : RightP p) {c : Int} : roomP p c = roomR p c := by
  unfold roomP roomR
  split
  · rename_i hc
    obtain ⟨h0, h1⟩ := hasC_range hc
    obtain ⟨n, rfl⟩ := Int.eq_ofNat_of_zero_le h0
    have := h.2.2.2.2.2.2.2 n (csP_mem.2 ⟨by omega, hc⟩)
    rw [leftP_eq]; omega
  · rfl

theorem RightP.free {p : PlanD} (h : RightP p) : freeP p = freeR p := by
  unfold freeP freeR rL
  rw [sumI_cores (f := fun c => roomP p (c : Nat)), sumI_range (f := fun c => roomR p (c : Nat))]
  refine S_congr fun c hc => ?_
  rw [h.room]
  split
  · rfl
  · rename_i e; unfold roomR; rw [if_neg e]

/-- All is counted. -/
theorem RightP.all {p : PlanD} (h : RightP p) : freeP p + sumW (wtsL p.places) = p.frame * ((csP p 16).length : Int) := by
  rw [h.free]
  unfold freeR rL
  rw [sumI_range (f := fun c => roomR p (c : Nat)), cores_S, ← all_cores (l := p.places) fun x hx => h.fine hx, ← S_add]
  have : ∀ f : Nat → Int, ∀ k : Int, ∀ n, k * S f n = S (fun i => k * f i) n := by
    intro f k n
    induction n with
    | zero => simp [S]
    | succ n ih => simp only [S]; rw [Int.mul_add, ih]
  rw [this]
  refine S_congr fun c hc => ?_
  show roomR p c + loadS p c = _
  unfold roomR
  cases e : hasC p c
  · rw [h.loadS0 e]; simp
  · rw [h.load hc]; simp
end Go.Am


/- PlanX1 over the table of diff (relayset.py). -/
set_option linter.unusedVariables false
set_option linter.unusedSimpArgs false
namespace Go.Am
open Classical
variable {m : Mem}

def orW (l : List Pc) : BitVec 64 := l.foldl (fun a y => a ||| y.2) 0#64
theorem orW_succ {l : List Pc} {i : Nat} (h : i < l.length) : orW (l.take (i + 1)) = orW (l.take i) ||| l[i].2 := foldl_take h
def pcIn (p : PlanD) (ps : List Pc) (i : Nat) : Prop := ∃ h : i < ps.length, (ps[i].2 &&& ~~~ allB (fr p.frame).toNat) = 0#64 ∧ (ps[i].2 &&& orW (ps.take i)) = 0#64
def pcsP (p : PlanD) (x : Pl) : Prop := (∀ i, i < x.pieces.length → pcOk p x.pieces i ∧ pcIn p x.pieces i) ∧ 1 < x.pieces.length ∧ x.core = 0 ∧ (pop (orW x.pieces) : Int) = x.share

theorem PcV.prev {m : Mem} {l : List Pc} {v : Value} (h : PcV m l v) {i : Nat} (hi : i < l.length) : ∃ b o, aIdxS 2 v (.int .i64 i) = some (.pointer (some ⟨b, o, none⟩)) ∧ ∀ m', Ext m m' → aLoad false 1 m' (.pointer (some ⟨b, o, none⟩)) = some (.int .i64 l[i].1) := by
  obtain ⟨b, o, a1, a2, a3, a4⟩ := h.elem hi
  refine ⟨b, o, a1, fun m' hm => ?_⟩
  obtain ⟨b', o', c1, c2, c3, c4⟩ := (h.keep hm).elem hi
  rw [a1] at c1; cases c1
  have := c3 0 (by omega)
  simpa [pcV] using this
end Go.Am


/- PlanX2 over the table of diff (relayset.py). -/
set_option linter.unusedVariables false
set_option linter.unusedSimpArgs false
namespace Go.Am
open Classical
variable {m : Mem}

def placeP (p : PlanD) (x : Pl) : Prop := isU x.unit ∧ 1 ≤ x.share ∧ x.share ≤ p.frame ∧ (x.pieces.length = 0 → hasC p x.core = true) ∧ (x.pieces.length ≠ 0 → pcsP p x)

/-! ### windows that meet nowhere -/
def wAt (ps : List Pc) (c : Int) : BitVec 64 := winPc c 0#64 ps
def apartP (ps : List Pc) : Prop := ∀ i (h : i < ps.length), (wAt (ps.take i) ps[i].1 &&& ps[i].2) = 0#64
theorem wAt_snoc {ps : List Pc} {y : Pc} {c : Int} : wAt (ps ++ [y]) c = if y.1 = c then wAt ps c ||| y.2 else wAt ps c := by
  unfold wAt winPc; rw [List.foldl_append]; rfl
theorem apartP_snoc {ps : List Pc} {y : Pc} : apartP (ps ++ [y]) ↔ apartP ps ∧ (wAt ps y.1 &&& y.2) = 0#64 := by
  constructor
  · intro h
    refine ⟨fun i hi => ?_, ?_⟩
    · have := h i (by simp; omega)
      rw [List.getElem_append_left hi, List.take_append_of_le_length (by omega)] at this
      exact this
    · have := h ps.length (by simp)
      simpa using this
  · rintro ⟨h1, h2⟩ i hi
    by_cases e : i < ps.length
    · rw [List.getElem_append_left e, List.take_append_of_le_length (by omega)]; exact h1 i e
    · have : i = ps.length := by simp at hi; omega
      subst this
      simpa using h2
theorem apartP_pre {a b : List Pc} (h : apartP (a ++ b)) : apartP a := fun i hi => by
  have := h i (by simp; omega)
  rw [List.getElem_append_left hi, List.take_append_of_le_length (by omega)] at this
  exact this

def preP (l : List Pl) (i : Nat) : List Pc := (l.take i).flatMap (·.pieces)
theorem preP_succ {l : List Pl} {i : Nat} (h : i < l.length) : preP l (i + 1) = preP l i ++ l[i].pieces := by
  unfold preP; rw [List.take_succ_eq_append_getElem h, List.flatMap_append]; simp

/-- The words of sixteen cores. -/
structure Met (m : Mem) (b : Nat) (ps : List Pc) : Prop where
  wit : ∃ W : List (BitVec 64), Bk m b (W.map u64) 16 ∧ W.length = 16 ∧ ∀ c (h : c < W.length), W[c] = wAt ps (c : Nat)
theorem Met.keep {m m' : Mem} {b : Nat} {ps : List Pc} (h : Met m b ps) (hx : Ext m m') : Met m' b ps := let ⟨W, a, l, c⟩ := h.wit; ⟨W, a.keep hx, l, c⟩
theorem Met.get {m : Mem} {b : Nat} {ps : List Pc} (h : Met m b ps) {c : Int} (h0 : 0 ≤ c) (h1 : c < 16) : ldW (m.blk b) c.toNat = some (u64 (wAt ps c)) := by
  obtain ⟨W, a, l, g⟩ := h.wit
  rw [a.at_, ldW_c, List.getElem?_map, List.getElem?_eq_getElem (by omega), Option.map_some, g _ (by omega)]
  congr 3; omega
theorem Met.ne {m : Mem} {b : Nat} {ps : List Pc} (h : Met m b ps) : (b = m.next) = False := let ⟨_, a, _, _⟩ := h.wit; a.ne
theorem load_ext {m m' : Mem} {w : Bool} {u b o : Nat} (hx : Ext m m') (hb : b < m.next) : aLoad w u m' (.pointer (some ⟨b, o, none⟩)) = aLoad w u m (.pointer (some ⟨b, o, none⟩)) := by
  simp only [aLoad, aCells, hx.same b hb]
theorem got_eq {α : Type} {o : Option α} {a : α} {Q : α → Prop} (h : o = some a) (k : Q a) : Got o Q := ⟨a, h, k⟩
theorem Met.put {m : Mem} {b : Nat} {ps : List Pc} (h : Met m b ps) {y : Pc} (h0 : 0 ≤ y.1) (h1 : y.1 < 16) :
    ∃ m', stB m b (m.blk b) y.1.toNat [u64 (wAt ps y.1 ||| y.2)] = some m' ∧ Met m' b (ps ++ [y]) ∧ ∀ m0, Ext m0 m → m0.next ≤ b → Ext m0 m' := by
  obtain ⟨W, a, l, g⟩ := h.wit
  refine ⟨m.set b (some (.cells ((W.set y.1.toNat (wAt ps y.1 ||| y.2)).map u64) (some 16))), ?_, ⟨W.set y.1.toNat (wAt ps y.1 ||| y.2), ⟨by simp [Mem.set], by simpa [Mem.set] using a.lt⟩, by simp [l], fun c hc => ?_⟩, fun m0 hx hb => hx.set hb⟩
  · rw [a.at_, stB_c, if_pos ⟨by simp; omega, rfl⟩, writeL_set (by simp; omega), List.map_set]
  · rw [List.getElem_set, wAt_snoc]
    by_cases e : y.1 = (c : Int)
    · rw [if_pos (by omega), if_pos e, e]
    · rw [if_neg (by omega), if_neg e]
      exact g c (by simpa using hc)
end Go.Am


/- PlanX3 over the table of diff (relayset.py). -/
set_option linter.unusedVariables false
set_option linter.unusedSimpArgs false
namespace Go.Am
open Classical
variable {m : Mem}

def plC (p : PlanD) (i : Nat) : Prop := ∃ h : i < p.places.length, placeP p p.places[i] ∧ ∀ h : 0 < i, (p.places[i - 1]'(by omega)).unit < p.places[i].unit
def CheckP (p : PlanD) : Prop :=
  2 ≤ p.frame ∧ p.frame ≤ 64 ∧ p.cores ≠ 0#32 ∧ p.cores >>> 16 = 0#32 ∧ (∀ i, i < p.places.length → plC p i) ∧ apartP (preP p.places p.places.length) ∧ p.places.countP isSp < (csP p 16).length ∧
  ∀ c ∈ csP p 16, 0 ≤ leftP p (c : Nat)

theorem plC_r {p : PlanD} (h : 2 ≤ p.frame) (h2 : p.frame ≤ 64) (hl : PlanL p) (ha : ∀ i, i < p.places.length → plC p i) : PlanR p := by
  refine ⟨hl.len, hl.pcs, fun x hx => ?_, by omega, h2⟩
  obtain ⟨i, hi, rfl⟩ := List.getElem_of_mem hx
  obtain ⟨_, h, -⟩ := ha i hi
  have := h.2.1; have := h.2.2.1
  omega
theorem plC_cores {p : PlanD} (ha : ∀ i, i < p.places.length → plC p i) : ∀ x ∈ p.places, ∀ y ∈ x.pieces, 0 ≤ y.1 ∧ y.1 < 16 := by
  intro x hx y hy
  obtain ⟨i, hi, rfl⟩ := List.getElem_of_mem hx
  obtain ⟨_, h, -⟩ := ha i hi
  have := h.2.2.2.2 (by intro e; rw [List.eq_nil_of_length_eq_zero e] at hy; cases hy)
  obtain ⟨j, hj, rfl⟩ := List.getElem_of_mem hy
  obtain ⟨⟨_, g, -⟩, -⟩ := this.1 j hj
  exact hasC_range g

noncomputable def chk (p : PlanD) : Value := .int .i64 (if CheckP p then 0 else 30)
theorem chk_no {p : PlanD} (h : ¬ CheckP p) : Value.int .i64 30 = chk p := by unfold chk; rw [if_neg h]
theorem chk_yes {p : PlanD} (h : CheckP p) : Value.int .i64 0 = chk p := by unfold chk; rw [if_pos h]
end Go.Am


/- PlanX4 over the table of diff (relayset.py). -/
set_option linter.unusedVariables false
set_option linter.unusedSimpArgs false
namespace Go.Am
open Classical
variable {m : Mem}

theorem sc_u64 {x y : BitVec 64} : scalEq .int (u64 x) (u64 y) = some (decide (x = y)) := by
  unfold u64
  rw [sc_int]
  congr 1
  rw [Bool.eq_iff_iff, beq_iff_eq, decide_eq_true_eq]
  constructor
  · intro h; apply BitVec.eq_of_toNat_eq; omega
  · intro h; rw [h]
attribute [go_sem] sc_u64

theorem Equal_spec {l k : List Pc} {v w : Value} (hs : PcV m l v) (ht : PcV m k w) (hl : l.length < 1000000) (hk : k.length < 1000000) :
    WC R F.slices_Equal_api_Piece_api_Piece [v, w] m fun r m' => r = .bool (decide (l = k)) ∧ m' = m := by
  refine WC.of R.slices_Equal_api_Piece_api_Piece rfl ?_
  simp only [RC.slices_Equal_api_Piece_api_Piece, go_sem, Int.reduceBEq, Int.reduceBNe, Int.reduceNeg, reduceCtorEq, Nat.reduceEqDiff, Nat.reduceAdd, Nat.reduceLeDiff, Nat.reduceMul, Nat.reduceSub, Int.reduceToNat, Int.reduceLT, Int.reduceLE, hs.len, ht.len]
  refine gT.of (fun h' => ?_) (fun h' => ?_) <;> (have h := h'; try simp only [decide_eq_true_eq, decide_eq_false_iff_not, beq_iff_eq, bne_iff_ne, beq_eq_false_iff_ne, ne_eq, Bool.not_eq_true', Bool.not_eq_false', bne_eq_false_iff_eq, Int.not_lt, Int.not_le] at h)
  · have : l ≠ k := by rintro rfl; exact h rfl
    try simp only [go_sem, Int.reduceBEq, Int.reduceBNe, Int.reduceNeg, reduceCtorEq, Nat.reduceEqDiff, Nat.reduceAdd, Nat.reduceLeDiff, Nat.reduceMul, Nat.reduceSub, Int.reduceToNat, Int.reduceLT, Int.reduceLE, load_w, load_a, store_b, idxS_b, set_blk, new_blk, set_next, new_next, len_s, ldW_c, ldA_c, stB_c, toArr_one, size_one, toList_toArr, size_toArr, List.length_cons, List.length_nil, List.getElem?_cons_zero, List.getElem?_cons_succ, Nat.zero_add, Nat.add_zero, h']
    simp [this]
  · have hlk : l.length = k.length := by have := h; omega
    try simp only [go_sem, Int.reduceBEq, Int.reduceBNe, Int.reduceNeg, reduceCtorEq, Nat.reduceEqDiff, Nat.reduceAdd, Nat.reduceLeDiff, Nat.reduceMul, Nat.reduceSub, Int.reduceToNat, Int.reduceLT, Int.reduceLE, load_w, load_a, store_b, idxS_b, set_blk, new_blk, set_next, new_next, len_s, ldW_c, ldA_c, stB_c, toArr_one, size_one, toList_toArr, size_toArr, List.length_cons, List.length_nil, List.getElem?_cons_zero, List.getElem?_cons_succ, Nat.zero_add, Nat.add_zero, h', hs.len]
    refine WL.of (fun n e m' => ∃ i : Nat, i ≤ l.length ∧ n = l.length - i ∧ e = [(0, v), (1, w), (12, .int .i64 l.length), (13, .int .i64 i)] ∧ (∀ j (h1 : j < l.length) (h2 : j < k.length), j < i → l[j] = k[j]) ∧ m' = m) l.length
      ⟨0, by omega, by omega, by simp only [go_sem, Int.reduceBEq, Int.reduceBNe, Int.reduceNeg, reduceCtorEq, Nat.reduceEqDiff, Nat.reduceAdd, Nat.reduceLeDiff, Nat.reduceMul, Nat.reduceSub, Int.reduceToNat, Int.reduceLT, Int.reduceLE] <;> rfl, fun _ _ _ h => by omega, rfl⟩ ?_
    rintro _ _ _ ⟨i, hi, rfl, rfl, hj, hm⟩
    replace hm := hm.symm
    subst hm
    simp only [RB.slices_Equal_api_Piece_api_Piece_1, go_sem, Int.reduceBEq, Int.reduceBNe, Int.reduceNeg, reduceCtorEq, Nat.reduceEqDiff, Nat.reduceAdd, Nat.reduceLeDiff, Nat.reduceMul, Nat.reduceSub, Int.reduceToNat, Int.reduceLT, Int.reduceLE]
    refine gT.of (fun h2' => ?_) (fun h2' => ?_) <;> (have h2 := h2'; try simp only [decide_eq_true_eq, decide_eq_false_iff_not, beq_iff_eq, bne_iff_ne, beq_eq_false_iff_ne, ne_eq, Bool.not_eq_true', Bool.not_eq_false', bne_eq_false_iff_eq, Int.not_lt, Int.not_le] at h2)
    · have hil : i < l.length := by omega
      have hik : i < k.length := by omega
      obtain ⟨b, o, a1, a2, a3, a4⟩ := hs.elem hil
      obtain ⟨b', o', c1, c2, c3, c4⟩ := ht.elem hik
      simp only [pcV] at a2 c2
      try simp only [go_sem, Int.reduceBEq, Int.reduceBNe, Int.reduceNeg, reduceCtorEq, Nat.reduceEqDiff, Nat.reduceAdd, Nat.reduceLeDiff, Nat.reduceMul, Nat.reduceSub, Int.reduceToNat, Int.reduceLT, Int.reduceLE, load_w, load_a, store_b, idxS_b, set_blk, new_blk, set_next, new_next, len_s, ldW_c, ldA_c, stB_c, toArr_one, size_one, toList_toArr, size_toArr, List.length_cons, List.length_nil, List.getElem?_cons_zero, List.getElem?_cons_succ, Nat.zero_add, Nat.add_zero, h2', a1, a2, c1, c2]
      refine gT.of (fun h3 => ?_) (fun h3 => ?_)
      · have : l ≠ k := by
          rintro rfl
          simp at h3
        try simp only [go_sem, Int.reduceBEq, Int.reduceBNe, Int.reduceNeg, reduceCtorEq, Nat.reduceEqDiff, Nat.reduceAdd, Nat.reduceLeDiff, Nat.reduceMul, Nat.reduceSub, Int.reduceToNat, Int.reduceLT, Int.reduceLE, load_w, load_a, store_b, idxS_b, set_blk, new_blk, set_next, new_next, len_s, ldW_c, ldA_c, stB_c, toArr_one, size_one, toList_toArr, size_toArr, List.length_cons, List.length_nil, List.getElem?_cons_zero, List.getElem?_cons_succ, Nat.zero_add, Nat.add_zero, h3]
        simp [this]
      · have h4 : l[i] = k[i] := by
          apply Prod.ext
          · simp at h3; exact h3.1
          · simp at h3; exact h3.2
        try simp only [go_sem, Int.reduceBEq, Int.reduceBNe, Int.reduceNeg, reduceCtorEq, Nat.reduceEqDiff, Nat.reduceAdd, Nat.reduceLeDiff, Nat.reduceMul, Nat.reduceSub, Int.reduceToNat, Int.reduceLT, Int.reduceLE, load_w, load_a, store_b, idxS_b, set_blk, new_blk, set_next, new_next, len_s, ldW_c, ldA_c, stB_c, toArr_one, size_one, toList_toArr, size_toArr, List.length_cons, List.length_nil, List.getElem?_cons_zero, List.getElem?_cons_succ, Nat.zero_add, Nat.add_zero, h3, step1 (show i < 1000000 by omega)]
        refine ⟨l.length - (i + 1), by omega, i + 1, by omega, rfl, rfl, ?_⟩
        intro j g1 g2 g3
        by_cases e : j = i
        · subst e; exact h4
        · exact hj j g1 g2 (by omega)
    · have : l = k := List.ext_getElem hlk fun j g1 g2 => hj j g1 g2 (by omega)
      try simp only [go_sem, Int.reduceBEq, Int.reduceBNe, Int.reduceNeg, reduceCtorEq, Nat.reduceEqDiff, Nat.reduceAdd, Nat.reduceLeDiff, Nat.reduceMul, Nat.reduceSub, Int.reduceToNat, Int.reduceLT, Int.reduceLE, load_w, load_a, store_b, idxS_b, set_blk, new_blk, set_next, new_next, len_s, ldW_c, ldA_c, stB_c, toArr_one, size_one, toList_toArr, size_toArr, List.length_cons, List.length_nil, List.getElem?_cons_zero, List.getElem?_cons_succ, Nat.zero_add, Nat.add_zero, h2']
      simp [this]

theorem SamePlace_spec {x y : Pl} {v w : Value} (hv : PlV m x v) (hw : PlV m y w) (hl : x.pieces.length < 1000000) (hk : y.pieces.length < 1000000) :
    WC R F.plan_SamePlace [v, w] m fun r m' => r = .bool (decide (x = y)) ∧ Ext m m' := by
  refine WC.of R.plan_SamePlace rfl ?_
  obtain ⟨pv, rfl, hp⟩ := hv
  obtain ⟨qv, rfl, hq⟩ := hw
  have hex : x = y ↔ x.unit = y.unit ∧ x.share = y.share ∧ x.core = y.core ∧ x.pieces = y.pieces := by
    cases x; cases y; simp
  simp only [RC.plan_SamePlace, plV, go_sem, Int.reduceBEq, Int.reduceBNe, Int.reduceNeg, reduceCtorEq, Nat.reduceEqDiff, Nat.reduceAdd, Nat.reduceLeDiff, Nat.reduceMul, Nat.reduceSub, Int.reduceToNat, Int.reduceLT, Int.reduceLE, hp.one, hq.one]
  have hx : Ext m (m.new (.cells [.int .i64 x.unit, .int .i64 x.share, .int .i64 x.core, pv] (some 4))) := Ext.new
  have hb : Bk (m.new (.cells [.int .i64 x.unit, .int .i64 x.share, .int .i64 x.core, pv] (some 4))) m.next [.int .i64 x.unit, .int .i64 x.share, .int .i64 x.core, pv] 4 := Bk.new
  generalize m.new (.cells [.int .i64 x.unit, .int .i64 x.share, .int .i64 x.core, pv] (some 4)) = m1 at hx hb ⊢
  have hx2 : Ext m1 (m1.new (.cells [.int .i64 y.unit, .int .i64 y.share, .int .i64 y.core, qv] (some 4))) := Ext.new
  have hb2 : Bk (m1.new (.cells [.int .i64 y.unit, .int .i64 y.share, .int .i64 y.core, qv] (some 4))) m1.next [.int .i64 y.unit, .int .i64 y.share, .int .i64 y.core, qv] 4 := Bk.new
  generalize m1.new (.cells [.int .i64 y.unit, .int .i64 y.share, .int .i64 y.core, qv] (some 4)) = m2 at hx2 hb2 ⊢
  have hb := hb.keep hx2
  have hp := (hp.keep hx).keep hx2
  have hq := (hq.keep hx).keep hx2
  have hX := hx.trans hx2
  try simp only [go_sem, Int.reduceBEq, Int.reduceBNe, Int.reduceNeg, reduceCtorEq, Nat.reduceEqDiff, Nat.reduceAdd, Nat.reduceLeDiff, Nat.reduceMul, Nat.reduceSub, Int.reduceToNat, Int.reduceLT, Int.reduceLE, load_w, load_a, store_b, idxS_b, set_blk, new_blk, set_next, new_next, len_s, ldW_c, ldA_c, stB_c, toArr_one, size_one, toList_toArr, size_toArr, List.length_cons, List.length_nil, List.getElem?_cons_zero, List.getElem?_cons_succ, Nat.zero_add, Nat.add_zero, hb.at_, hb2.at_]
  refine gT.of (fun h1' => ?_) (fun h1' => ?_) <;> (have h1 := h1'; try simp only [decide_eq_true_eq, decide_eq_false_iff_not, beq_iff_eq, bne_iff_ne, beq_eq_false_iff_ne, ne_eq, Bool.not_eq_true', Bool.not_eq_false', bne_eq_false_iff_eq, Int.not_lt, Int.not_le] at h1)
  · try simp only [go_sem, Int.reduceBEq, Int.reduceBNe, Int.reduceNeg, reduceCtorEq, Nat.reduceEqDiff, Nat.reduceAdd, Nat.reduceLeDiff, Nat.reduceMul, Nat.reduceSub, Int.reduceToNat, Int.reduceLT, Int.reduceLE, load_w, load_a, store_b, idxS_b, set_blk, new_blk, set_next, new_next, len_s, ldW_c, ldA_c, stB_c, toArr_one, size_one, toList_toArr, size_toArr, List.length_cons, List.length_nil, List.getElem?_cons_zero, List.getElem?_cons_succ, Nat.zero_add, Nat.add_zero, h1', hb.at_, hb2.at_]
    refine gT.of (fun h2' => ?_) (fun h2' => ?_) <;> (have h2 := h2'; try simp only [decide_eq_true_eq, decide_eq_false_iff_not, beq_iff_eq, bne_iff_ne, beq_eq_false_iff_ne, ne_eq, Bool.not_eq_true', Bool.not_eq_false', bne_eq_false_iff_eq, Int.not_lt, Int.not_le] at h2)
    · try simp only [go_sem, Int.reduceBEq, Int.reduceBNe, Int.reduceNeg, reduceCtorEq, Nat.reduceEqDiff, Nat.reduceAdd, Nat.reduceLeDiff, Nat.reduceMul, Nat.reduceSub, Int.reduceToNat, Int.reduceLT, Int.reduceLE, load_w, load_a, store_b, idxS_b, set_blk, new_blk, set_next, new_next, len_s, ldW_c, ldA_c, stB_c, toArr_one, size_one, toList_toArr, size_toArr, List.length_cons, List.length_nil, List.getElem?_cons_zero, List.getElem?_cons_succ, Nat.zero_add, Nat.add_zero, h2', hb.at_, hb2.at_]
      refine gT.of (fun h3' => ?_) (fun h3' => ?_) <;> (have h3 := h3'; try simp only [decide_eq_true_eq, decide_eq_false_iff_not, beq_iff_eq, bne_iff_ne, beq_eq_false_iff_ne, ne_eq, Bool.not_eq_true', Bool.not_eq_false', bne_eq_false_iff_eq, Int.not_lt, Int.not_le] at h3)
      · try simp only [go_sem, Int.reduceBEq, Int.reduceBNe, Int.reduceNeg, reduceCtorEq, Nat.reduceEqDiff, Nat.reduceAdd, Nat.reduceLeDiff, Nat.reduceMul, Nat.reduceSub, Int.reduceToNat, Int.reduceLT, Int.reduceLE, load_w, load_a, store_b, idxS_b, set_blk, new_blk, set_next, new_next, len_s, ldW_c, ldA_c, stB_c, toArr_one, size_one, toList_toArr, size_toArr, List.length_cons, List.length_nil, List.getElem?_cons_zero, List.getElem?_cons_succ, Nat.zero_add, Nat.add_zero, h3', hb.at_, hb2.at_]
        refine gC.of (Equal_spec hp hq hl hk) ?_
        rintro _ m_ ⟨rfl, hm_⟩
        replace hm_ := hm_.symm
        subst hm_
        simp only [go_sem, Int.reduceBEq, Int.reduceBNe, Int.reduceNeg, reduceCtorEq, Nat.reduceEqDiff, Nat.reduceAdd, Nat.reduceLeDiff, Nat.reduceMul, Nat.reduceSub, Int.reduceToNat, Int.reduceLT, Int.reduceLE]
        try simp only [go_sem, Int.reduceBEq, Int.reduceBNe, Int.reduceNeg, reduceCtorEq, Nat.reduceEqDiff, Nat.reduceAdd, Nat.reduceLeDiff, Nat.reduceMul, Nat.reduceSub, Int.reduceToNat, Int.reduceLT, Int.reduceLE, load_w, load_a, store_b, idxS_b, set_blk, new_blk, set_next, new_next, len_s, ldW_c, ldA_c, stB_c, toArr_one, size_one, toList_toArr, size_toArr, List.length_cons, List.length_nil, List.getElem?_cons_zero, List.getElem?_cons_succ, Nat.zero_add, Nat.add_zero]
        refine ⟨?_, hX⟩
        congr 1
        exact decide_eq_decide.2 ⟨fun h => hex.2 ⟨h1, h2, h3, h⟩, fun h => (hex.1 h).2.2.2⟩
      · try simp only [go_sem, Int.reduceBEq, Int.reduceBNe, Int.reduceNeg, reduceCtorEq, Nat.reduceEqDiff, Nat.reduceAdd, Nat.reduceLeDiff, Nat.reduceMul, Nat.reduceSub, Int.reduceToNat, Int.reduceLT, Int.reduceLE, load_w, load_a, store_b, idxS_b, set_blk, new_blk, set_next, new_next, len_s, ldW_c, ldA_c, stB_c, toArr_one, size_one, toList_toArr, size_toArr, List.length_cons, List.length_nil, List.getElem?_cons_zero, List.getElem?_cons_succ, Nat.zero_add, Nat.add_zero, h3']
        exact ⟨fin_no fun h => h3 (hex.1 h).2.2.1, hX⟩
    · try simp only [go_sem, Int.reduceBEq, Int.reduceBNe, Int.reduceNeg, reduceCtorEq, Nat.reduceEqDiff, Nat.reduceAdd, Nat.reduceLeDiff, Nat.reduceMul, Nat.reduceSub, Int.reduceToNat, Int.reduceLT, Int.reduceLE, load_w, load_a, store_b, idxS_b, set_blk, new_blk, set_next, new_next, len_s, ldW_c, ldA_c, stB_c, toArr_one, size_one, toList_toArr, size_toArr, List.length_cons, List.length_nil, List.getElem?_cons_zero, List.getElem?_cons_succ, Nat.zero_add, Nat.add_zero, h2']
      exact ⟨fin_no fun h => h2 (hex.1 h).2.1, hX⟩
  · try simp only [go_sem, Int.reduceBEq, Int.reduceBNe, Int.reduceNeg, reduceCtorEq, Nat.reduceEqDiff, Nat.reduceAdd, Nat.reduceLeDiff, Nat.reduceMul, Nat.reduceSub, Int.reduceToNat, Int.reduceLT, Int.reduceLE, load_w, load_a, store_b, idxS_b, set_blk, new_blk, set_next, new_next, len_s, ldW_c, ldA_c, stB_c, toArr_one, size_one, toList_toArr, size_toArr, List.length_cons, List.length_nil, List.getElem?_cons_zero, List.getElem?_cons_succ, Nat.zero_add, Nat.add_zero, h1']
    exact ⟨fin_no fun h => h1 (hex.1 h).1, hX⟩

theorem refSamePlace_spec {x y : Pl} {v w : Value} (hv : PlV m x v) (hw : PlV m y w) (hl : x.pieces.length < 1000000) (hk : y.pieces.length < 1000000) :
    WC R F.ref16_SamePlace [v, w] m fun r m' => r = .bool (decide (x = y)) ∧ Ext m m' := by
  refine WC.of R.ref16_SamePlace rfl ?_
  obtain ⟨pv, rfl, hp⟩ := hv
  obtain ⟨qv, rfl, hq⟩ := hw
  have hex : x = y ↔ x.unit = y.unit ∧ x.share = y.share ∧ x.core = y.core ∧ x.pieces = y.pieces := by
    cases x; cases y; simp
  simp only [RC.ref16_SamePlace, plV, go_sem, Int.reduceBEq, Int.reduceBNe, Int.reduceNeg, reduceCtorEq, Nat.reduceEqDiff, Nat.reduceAdd, Nat.reduceLeDiff, Nat.reduceMul, Nat.reduceSub, Int.reduceToNat, Int.reduceLT, Int.reduceLE, hp.one, hq.one]
  have hx : Ext m (m.new (.cells [.int .i64 x.unit, .int .i64 x.share, .int .i64 x.core, pv] (some 4))) := Ext.new
  have hb : Bk (m.new (.cells [.int .i64 x.unit, .int .i64 x.share, .int .i64 x.core, pv] (some 4))) m.next [.int .i64 x.unit, .int .i64 x.share, .int .i64 x.core, pv] 4 := Bk.new
  generalize m.new (.cells [.int .i64 x.unit, .int .i64 x.share, .int .i64 x.core, pv] (some 4)) = m1 at hx hb ⊢
  have hx2 : Ext m1 (m1.new (.cells [.int .i64 y.unit, .int .i64 y.share, .int .i64 y.core, qv] (some 4))) := Ext.new
  have hb2 : Bk (m1.new (.cells [.int .i64 y.unit, .int .i64 y.share, .int .i64 y.core, qv] (some 4))) m1.next [.int .i64 y.unit, .int .i64 y.share, .int .i64 y.core, qv] 4 := Bk.new
  generalize m1.new (.cells [.int .i64 y.unit, .int .i64 y.share, .int .i64 y.core, qv] (some 4)) = m2 at hx2 hb2 ⊢
  have hb := hb.keep hx2
  have hp := (hp.keep hx).keep hx2
  have hq := (hq.keep hx).keep hx2
  have hX := hx.trans hx2
  try simp only [go_sem, Int.reduceBEq, Int.reduceBNe, Int.reduceNeg, reduceCtorEq, Nat.reduceEqDiff, Nat.reduceAdd, Nat.reduceLeDiff, Nat.reduceMul, Nat.reduceSub, Int.reduceToNat, Int.reduceLT, Int.reduceLE, load_w, load_a, store_b, idxS_b, set_blk, new_blk, set_next, new_next, len_s, ldW_c, ldA_c, stB_c, toArr_one, size_one, toList_toArr, size_toArr, List.length_cons, List.length_nil, List.getElem?_cons_zero, List.getElem?_cons_succ, Nat.zero_add, Nat.add_zero, hb.at_, hb2.at_]
  refine gT.of (fun h1' => ?_) (fun h1' => ?_) <;> (have h1 := h1'; try simp only [decide_eq_true_eq, decide_eq_false_iff_not, beq_iff_eq, bne_iff_ne, beq_eq_false_iff_ne, ne_eq, Bool.not_eq_true', Bool.not_eq_false', bne_eq_false_iff_eq, Int.not_lt, Int.not_le] at h1)
  · try simp only [go_sem, Int.reduceBEq, Int.reduceBNe, Int.reduceNeg, reduceCtorEq, Nat.reduceEqDiff, Nat.reduceAdd, Nat.reduceLeDiff, Nat.reduceMul, Nat.reduceSub, Int.reduceToNat, Int.reduceLT, Int.reduceLE, load_w, load_a, store_b, idxS_b, set_blk, new_blk, set_next, new_next, len_s, ldW_c, ldA_c, stB_c, toArr_one, size_one, toList_toArr, size_toArr, List.length_cons, List.length_nil, List.getElem?_cons_zero, List.getElem?_cons_succ, Nat.zero_add, Nat.add_zero, h1']
    exact ⟨fin_no fun h => h1 (hex.1 h).1, hX⟩
  · try simp only [go_sem, Int.reduceBEq, Int.reduceBNe, Int.reduceNeg, reduceCtorEq, Nat.reduceEqDiff, Nat.reduceAdd, Nat.reduceLeDiff, Nat.reduceMul, Nat.reduceSub, Int.reduceToNat, Int.reduceLT, Int.reduceLE, load_w, load_a, store_b, idxS_b, set_blk, new_blk, set_next, new_next, len_s, ldW_c, ldA_c, stB_c, toArr_one, size_one, toList_toArr, size_toArr, List.length_cons, List.length_nil, List.getElem?_cons_zero, List.getElem?_cons_succ, Nat.zero_add, Nat.add_zero, h1', hb.at_, hb2.at_]
    refine gT.of (fun h2' => ?_) (fun h2' => ?_) <;> (have h2 := h2'; try simp only [decide_eq_true_eq, decide_eq_false_iff_not, beq_iff_eq, bne_iff_ne, beq_eq_false_iff_ne, ne_eq, Bool.not_eq_true', Bool.not_eq_false', bne_eq_false_iff_eq, Int.not_lt, Int.not_le] at h2)
    · try simp only [go_sem, Int.reduceBEq, Int.reduceBNe, Int.reduceNeg, reduceCtorEq, Nat.reduceEqDiff, Nat.reduceAdd, Nat.reduceLeDiff, Nat.reduceMul, Nat.reduceSub, Int.reduceToNat, Int.reduceLT, Int.reduceLE, load_w, load_a, store_b, idxS_b, set_blk, new_blk, set_next, new_next, len_s, ldW_c, ldA_c, stB_c, toArr_one, size_one, toList_toArr, size_toArr, List.length_cons, List.length_nil, List.getElem?_cons_zero, List.getElem?_cons_succ, Nat.zero_add, Nat.add_zero, h2']
      exact ⟨fin_no fun h => h2 (hex.1 h).2.1, hX⟩
    · try simp only [go_sem, Int.reduceBEq, Int.reduceBNe, Int.reduceNeg, reduceCtorEq, Nat.reduceEqDiff, Nat.reduceAdd, Nat.reduceLeDiff, Nat.reduceMul, Nat.reduceSub, Int.reduceToNat, Int.reduceLT, Int.reduceLE, load_w, load_a, store_b, idxS_b, set_blk, new_blk, set_next, new_next, len_s, ldW_c, ldA_c, stB_c, toArr_one, size_one, toList_toArr, size_toArr, List.length_cons, List.length_nil, List.getElem?_cons_zero, List.getElem?_cons_succ, Nat.zero_add, Nat.add_zero, h2', hb.at_, hb2.at_]
      refine gT.of (fun h3' => ?_) (fun h3' => ?_) <;> (have h3 := h3'; try simp only [decide_eq_true_eq, decide_eq_false_iff_not, beq_iff_eq, bne_iff_ne, beq_eq_false_iff_ne, ne_eq, Bool.not_eq_true', Bool.not_eq_false', bne_eq_false_iff_eq, Int.not_lt, Int.not_le] at h3)
      · try simp only [go_sem, Int.reduceBEq, Int.reduceBNe, Int.reduceNeg, reduceCtorEq, Nat.reduceEqDiff, Nat.reduceAdd, Nat.reduceLeDiff, Nat.reduceMul, Nat.reduceSub, Int.reduceToNat, Int.reduceLT, Int.reduceLE, load_w, load_a, store_b, idxS_b, set_blk, new_blk, set_next, new_next, len_s, ldW_c, ldA_c, stB_c, toArr_one, size_one, toList_toArr, size_toArr, List.length_cons, List.length_nil, List.getElem?_cons_zero, List.getElem?_cons_succ, Nat.zero_add, Nat.add_zero, h3']
        exact ⟨fin_no fun h => h3 (hex.1 h).2.2.1, hX⟩
      · try simp only [go_sem, Int.reduceBEq, Int.reduceBNe, Int.reduceNeg, reduceCtorEq, Nat.reduceEqDiff, Nat.reduceAdd, Nat.reduceLeDiff, Nat.reduceMul, Nat.reduceSub, Int.reduceToNat, Int.reduceLT, Int.reduceLE, load_w, load_a, store_b, idxS_b, set_blk, new_blk, set_next, new_next, len_s, ldW_c, ldA_c, stB_c, toArr_one, size_one, toList_toArr, size_toArr, List.length_cons, List.length_nil, List.getElem?_cons_zero, List.getElem?_cons_succ, Nat.zero_add, Nat.add_zero, h3', hb.at_, hb2.at_, hp.len, hq.len]
        refine gT.of (fun h4' => ?_) (fun h4' => ?_) <;> (have h4 := h4'; try simp only [decide_eq_true_eq, decide_eq_false_iff_not, beq_iff_eq, bne_iff_ne, beq_eq_false_iff_ne, ne_eq, Bool.not_eq_true', Bool.not_eq_false', bne_eq_false_iff_eq, Int.not_lt, Int.not_le] at h4)
        · try simp only [go_sem, Int.reduceBEq, Int.reduceBNe, Int.reduceNeg, reduceCtorEq, Nat.reduceEqDiff, Nat.reduceAdd, Nat.reduceLeDiff, Nat.reduceMul, Nat.reduceSub, Int.reduceToNat, Int.reduceLT, Int.reduceLE, load_w, load_a, store_b, idxS_b, set_blk, new_blk, set_next, new_next, len_s, ldW_c, ldA_c, stB_c, toArr_one, size_one, toList_toArr, size_toArr, List.length_cons, List.length_nil, List.getElem?_cons_zero, List.getElem?_cons_succ, Nat.zero_add, Nat.add_zero, h4']
          exact ⟨fin_no fun h => h4 (by rw [(hex.1 h).2.2.2]), hX⟩
        · have hlk : x.pieces.length = y.pieces.length := by have := h4; omega
          try simp only [go_sem, Int.reduceBEq, Int.reduceBNe, Int.reduceNeg, reduceCtorEq, Nat.reduceEqDiff, Nat.reduceAdd, Nat.reduceLeDiff, Nat.reduceMul, Nat.reduceSub, Int.reduceToNat, Int.reduceLT, Int.reduceLE, load_w, load_a, store_b, idxS_b, set_blk, new_blk, set_next, new_next, len_s, ldW_c, ldA_c, stB_c, toArr_one, size_one, toList_toArr, size_toArr, List.length_cons, List.length_nil, List.getElem?_cons_zero, List.getElem?_cons_succ, Nat.zero_add, Nat.add_zero, h4']
          refine WL.of (fun n e m' => ∃ i : Nat, i ≤ x.pieces.length ∧ n = x.pieces.length - i ∧ e = [(2, pt m.next), (3, pt m1.next), (5, .int .i64 i)] ∧ (∀ j (h1 : j < x.pieces.length) (h2 : j < y.pieces.length), j < i → x.pieces[j] = y.pieces[j]) ∧ m' = m2) x.pieces.length
            ⟨0, by omega, by omega, by simp only [go_sem, Int.reduceBEq, Int.reduceBNe, Int.reduceNeg, reduceCtorEq, Nat.reduceEqDiff, Nat.reduceAdd, Nat.reduceLeDiff, Nat.reduceMul, Nat.reduceSub, Int.reduceToNat, Int.reduceLT, Int.reduceLE] <;> rfl, fun _ _ _ h => by omega, rfl⟩ ?_
          rintro _ _ _ ⟨i, hi, rfl, rfl, hj, hm⟩
          replace hm := hm.symm
          subst hm
          simp only [RB.ref16_SamePlace_1, pt, go_sem, Int.reduceBEq, Int.reduceBNe, Int.reduceNeg, reduceCtorEq, Nat.reduceEqDiff, Nat.reduceAdd, Nat.reduceLeDiff, Nat.reduceMul, Nat.reduceSub, Int.reduceToNat, Int.reduceLT, Int.reduceLE, load_w, load_a, store_b, idxS_b, set_blk, new_blk, set_next, new_next, len_s, ldW_c, ldA_c, stB_c, toArr_one, size_one, toList_toArr, size_toArr, List.length_cons, List.length_nil, List.getElem?_cons_zero, List.getElem?_cons_succ, Nat.zero_add, Nat.add_zero, hb.at_, hp.len]
          refine gT.of (fun h5' => ?_) (fun h5' => ?_) <;> (have h5 := h5'; try simp only [decide_eq_true_eq, decide_eq_false_iff_not, beq_iff_eq, bne_iff_ne, beq_eq_false_iff_ne, ne_eq, Bool.not_eq_true', Bool.not_eq_false', bne_eq_false_iff_eq, Int.not_lt, Int.not_le] at h5)
          · have hil : i < x.pieces.length := by omega
            have hik : i < y.pieces.length := by omega
            obtain ⟨b, o, a1, a2, a3, a4⟩ := hp.elem hil
            obtain ⟨b', o', c1, c2, c3, c4⟩ := hq.elem hik
            simp only [pcV] at a2 c2
            try simp only [go_sem, Int.reduceBEq, Int.reduceBNe, Int.reduceNeg, reduceCtorEq, Nat.reduceEqDiff, Nat.reduceAdd, Nat.reduceLeDiff, Nat.reduceMul, Nat.reduceSub, Int.reduceToNat, Int.reduceLT, Int.reduceLE, load_w, load_a, store_b, idxS_b, set_blk, new_blk, set_next, new_next, len_s, ldW_c, ldA_c, stB_c, toArr_one, size_one, toList_toArr, size_toArr, List.length_cons, List.length_nil, List.getElem?_cons_zero, List.getElem?_cons_succ, Nat.zero_add, Nat.add_zero, h5', a1, a2, c1, c2, hb.at_, hb2.at_]
            refine gT.of (fun h6 => ?_) (fun h6 => ?_)
            · have : x ≠ y := by
                rintro rfl
                simp at h6
              try simp only [go_sem, Int.reduceBEq, Int.reduceBNe, Int.reduceNeg, reduceCtorEq, Nat.reduceEqDiff, Nat.reduceAdd, Nat.reduceLeDiff, Nat.reduceMul, Nat.reduceSub, Int.reduceToNat, Int.reduceLT, Int.reduceLE, load_w, load_a, store_b, idxS_b, set_blk, new_blk, set_next, new_next, len_s, ldW_c, ldA_c, stB_c, toArr_one, size_one, toList_toArr, size_toArr, List.length_cons, List.length_nil, List.getElem?_cons_zero, List.getElem?_cons_succ, Nat.zero_add, Nat.add_zero, h6]
              exact ⟨fin_no this, hX⟩
            · have h7 : x.pieces[i] = y.pieces[i] := by
                apply Prod.ext
                · simp at h6; exact h6.1
                · simp at h6; exact h6.2
              try simp only [go_sem, Int.reduceBEq, Int.reduceBNe, Int.reduceNeg, reduceCtorEq, Nat.reduceEqDiff, Nat.reduceAdd, Nat.reduceLeDiff, Nat.reduceMul, Nat.reduceSub, Int.reduceToNat, Int.reduceLT, Int.reduceLE, load_w, load_a, store_b, idxS_b, set_blk, new_blk, set_next, new_next, len_s, ldW_c, ldA_c, stB_c, toArr_one, size_one, toList_toArr, size_toArr, List.length_cons, List.length_nil, List.getElem?_cons_zero, List.getElem?_cons_succ, Nat.zero_add, Nat.add_zero, h6, step1 (show i < 1000000 by omega)]
              refine ⟨x.pieces.length - (i + 1), by omega, i + 1, by omega, rfl, rfl, ?_⟩
              intro j g1 g2 g3
              by_cases e : j = i
              · subst e; exact h7
              · exact hj j g1 g2 (by omega)
          · have : x.pieces = y.pieces := List.ext_getElem hlk fun j g1 g2 => hj j g1 g2 (by omega)
            try simp only [go_sem, Int.reduceBEq, Int.reduceBNe, Int.reduceNeg, reduceCtorEq, Nat.reduceEqDiff, Nat.reduceAdd, Nat.reduceLeDiff, Nat.reduceMul, Nat.reduceSub, Int.reduceToNat, Int.reduceLT, Int.reduceLE, load_w, load_a, store_b, idxS_b, set_blk, new_blk, set_next, new_next, len_s, ldW_c, ldA_c, stB_c, toArr_one, size_one, toList_toArr, size_toArr, List.length_cons, List.length_nil, List.getElem?_cons_zero, List.getElem?_cons_succ, Nat.zero_add, Nat.add_zero, h5']
            exact ⟨fin_yes (hex.2 ⟨h1, h2, h3, this⟩), hX⟩
end Go.Am


/- What putting behind a slice touches: its own block alone. -/
set_option linter.unusedVariables false
namespace Go.Am

/-- The block of a slice. -/
def vb : Value → List Nat
  | .slice (some a) _ _ => [a.block]
  | _ => []

theorem SlOff.vb_iff {v : Value} {fp : List Nat} : SlOff fp v ↔ ∀ b ∈ vb v, b ∉ fp := by
  unfold SlOff vb
  split <;> simp
theorem SlLt.vb_iff {m : Mem} {v : Value} : SlLt m v ↔ ∀ b ∈ vb v, b < m.next := by
  unfold SlLt vb
  split <;> simp

theorem Upd.new_of {m m' : Mem} {fp : List Nat} {o : AObj} (h : Upd m m' fp) : Upd m (m'.new o) fp :=
  ⟨Nat.le_trans h.next (by simp [Mem.new]), fun b hb hn => by
    have := h.next
    rw [← h.same b hb hn]
    simp only [Mem.new]
    rw [if_neg (by omega)]⟩

theorem aWrite_upd {m m' : Mem} {b o : Nat} {xs : List Value} (h : aWrite m b o xs = some m') : Upd m m' [b] ∧ m'.next = m.next := by
  unfold aWrite at h
  split at h
  · split at h
    · cases h; exact ⟨Upd.set (by simp), rfl⟩
    · cases h
  · cases h

theorem app_upd {u by_ : Nat} {m m' : Mem} {v v' x : Value} (h : aApp none u by_ m v x = some (v', m')) : Upd m m' (vb v) ∧ (vb v' = vb v ∨ vb v' = [m.next]) := by
  unfold aApp at h
  rw [Option.bind_eq_some_iff] at h
  obtain ⟨n, hn, h⟩ := h
  rw [Option.bind_eq_some_iff] at h
  obtain ⟨xs, hxs, h⟩ := h
  split at h
  · split at h
    · cases h; exact ⟨Upd.refl _ _, .inl rfl⟩
    · split at h
      · simp only [place] at h
        cases h
        exact ⟨(Upd.refl _ _).new_of, .inr rfl⟩
      · cases h
  · split at h
    · split at h
      · cases h; exact ⟨Upd.refl _ _, .inl rfl⟩
      · cases h
    · split at h
      · rw [Option.map_eq_some_iff] at h
        obtain ⟨m1, h1, h2⟩ := h
        cases h2
        exact ⟨(aWrite_upd h1).1, .inl rfl⟩
      · split at h
        · split at h
          · simp only [place] at h
            cases h
            refine ⟨?_, .inr ?_⟩
            · split
              · exact (Upd.set (by simp [vb])).new_of
              · exact (Upd.refl _ _).new_of
            · split <;> rfl
          · cases h
        · cases h
  · cases h
/-- A function value is called. -/
def gV (R : Nat → Option FEnt) (fv : Value) (vs : List Value) (m : Mem) (Q : Value → Mem → Prop) (_ : Ph Q := ph) : Prop := ∃ f a b, fv = .func (.func f) a b ∧ WC R f (a.toList ++ vs ++ b.toList) m Q
theorem a_callv {R : Nat → Option FEnt} {at_ : Option Nat} {e : Env} {m : Mem} {Q : Value → Mem → Prop} {x : X} {xs : List X} : gpA R at_ e m (.callv x xs) Q = Got (x.ev e) fun fv => Got (evs e xs) fun vs => gV R fv vs m Q := by
  refine propext ⟨?_, ?_⟩
  · rintro ⟨f, a, b, vs, h1, h2, h3⟩; exact ⟨_, h1, _, h2, f, a, b, rfl, h3⟩
  · rintro ⟨_, h1, vs, h2, f, a, b, rfl, h3⟩; exact ⟨f, a, b, vs, h1, h2, h3⟩
theorem gV_func {R : Nat → Option FEnt} {m : Mem} {Q : Value → Mem → Prop} {f : Nat} {vs : List Value} : gV R (.func (.func f) #[] #[]) vs m Q = gC R f vs m Q := by
  refine propext ⟨?_, fun h => ⟨f, #[], #[], rfl, by have h : WC R f vs m Q := h; simpa using h⟩⟩
  rintro ⟨_, _, _, h, k⟩
  cases h
  show WC R f vs m Q
  simpa using k
attribute [go_sem] a_callv gV_func

theorem gV.of {R : Nat → Option FEnt} {fv : Value} {vs : List Value} {m : Mem} {Q Q' : Value → Mem → Prop} (h : gV R fv vs m Q') (k : ∀ v m', Q' v m' → Q v m') : gV R fv vs m Q := by
  obtain ⟨f, a, b, rfl, h2⟩ := h
  exact ⟨f, a, b, rfl, h2.mono k⟩
theorem gV_cap {R : Nat → Option FEnt} {m : Mem} {Q : Value → Mem → Prop} {f : Nat} {vs : List Value} {c : Value} : gV R (.func (.func f) #[] #[c]) vs m Q = gC R f (vs ++ [c]) m Q := by
  refine propext ⟨?_, fun h => ⟨f, #[], #[c], rfl, by have h : WC R f (vs ++ [c]) m Q := h; simpa using h⟩⟩
  rintro ⟨_, _, _, h, k⟩
  cases h
  show WC R f (vs ++ [c]) m Q
  simpa using k
theorem Own.updq {m0 m m' : Mem} {u n : Nat} {cs : List Value} {v : Value} {fp : List Nat} (h : Own m0 m u n cs v) (hx : Upd m m' fp) (ho : ∀ b ∈ vb v, b ∉ fp) : Own m0 m' u n cs v := by
  cases h with
  | nil h hc => exact .nil h hc
  | @«at» b c all hb hb2 hn hm hl hcs h1 => exact .at hb (Nat.lt_of_lt_of_le hb2 hx.next) hn (by rw [hx.same b hb2 (ho b (by simp [vb]))]; exact hm) hl hcs h1
end Go.Am


/- PlanX5 over the table of diff (relayset.py). -/
set_option linter.unusedVariables false
set_option linter.unusedSimpArgs false
namespace Go.Am
open Classical
variable {m : Mem}

theorem fin_no2 {P : Prop} [Decidable P] (h : ¬ P) : (Value.bool false = Value.bool (decide P)) := by rw [decide_eq_false h]
theorem fin_yes2 {P : Prop} [Decidable P] (h : P) : (Value.bool true = Value.bool (decide P)) := by rw [decide_eq_true h]

theorem plan_ext {p q : PlanD} : p = q ↔ p.frame = q.frame ∧ p.cores = q.cores ∧ p.places = q.places := by
  cases p; cases q; simp
end Go.Am


/- PlanM3 over the table of diff (relayset.py). -/
set_option linter.unusedVariables false
set_option linter.unusedSimpArgs false
namespace Go.Am
open Classical

theorem orW_bit {t : Nat} : ∀ {l : List Pc}, (orW l).getLsbD t = l.any fun y => y.2.getLsbD t := by
  have : ∀ (l : List Pc) (a : BitVec 64), (l.foldl (fun a y => a ||| y.2) a).getLsbD t = (a.getLsbD t || l.any fun y => y.2.getLsbD t) := by
    intro l
    induction l with
    | nil => intro a; simp
    | cons y l ih => intro a; rw [List.foldl_cons, ih, BitVec.getLsbD_or, List.any_cons, Bool.or_assoc]
  intro l
  unfold orW; rw [this]; simp

theorem cntA_eq {x : Pl} {t : Nat} (ht : t < 64) : cntA x t = x.pieces.countP fun y => y.2.getLsbD t := by
  unfold cntA
  exact List.countP_congr fun y _ => by rw [atB_all ht]

theorem any_count {α : Type} {f : α → Bool} {l : List α} : (l.any f = true) ↔ 0 < l.countP f := by
  rw [List.countP_pos_iff, List.any_eq_true]

theorem and_zero {a b : BitVec 64} : (a &&& b) = 0#64 ↔ ∀ t, t < 64 → ¬ (a.getLsbD t = true ∧ b.getLsbD t = true) := by
  constructor
  · intro h t _ ⟨h1, h2⟩
    have := congrArg (fun z => z.getLsbD t) h
    simp [h1, h2] at this
  · intro h
    refine word_ext fun t ht => ?_
    have := h t ht
    rw [BitVec.getLsbD_and]
    simp only [BitVec.getLsbD_zero]
    cases e1 : a.getLsbD t <;> cases e2 : b.getLsbD t <;> simp_all

/-- At most one at each tick: each one meets nobody ahead of it. -/
theorem once_iff {l : List Pc} {t : Nat} : (l.countP fun y => y.2.getLsbD t) ≤ 1 ↔ ∀ i (h : i < l.length), ¬ (l[i].2.getLsbD t = true ∧ (orW (l.take i)).getLsbD t = true) := by
  constructor
  · intro h i hi ⟨h1, h2⟩
    rw [orW_bit, any_count] at h2
    have e := countP_take (f := fun (y : Pc) => y.2.getLsbD t) hi
    rw [if_pos h1] at e
    have : (l.take (i + 1)).countP (fun y => y.2.getLsbD t) ≤ l.countP (fun y => y.2.getLsbD t) := (List.take_sublist _ _).countP_le
    omega
  · intro h
    have : ∀ n, n ≤ l.length → (l.take n).countP (fun y => y.2.getLsbD t) ≤ 1 := by
      intro n
      induction n with
      | zero => intro _; simp
      | succ n ih =>
        intro hn
        have e := countP_take (f := fun (y : Pc) => y.2.getLsbD t) (show n < l.length by omega)
        have := ih (by omega)
        rw [e]
        split
        · rename_i hb
          have := h n (by omega)
          rw [orW_bit, any_count] at this
          have : ¬ 0 < (l.take n).countP (fun y => y.2.getLsbD t) := fun g => this ⟨hb, g⟩
          omega
        · omega
    have := this l.length (Nat.le_refl _)
    rwa [List.take_length] at this

theorem pop_cnt {x : Pl} (h : ∀ t, t < 64 → cntA x t ≤ 1) : (pop (orW x.pieces) : Int) = sumA x 64 := by
  rw [pop_tks, tks_S, sumA_S]
  refine S_congr fun t ht => ?_
  have h1 := h t ht
  rw [cntA_eq ht] at *
  split
  · rename_i e; rw [orW_bit, any_count] at e; omega
  · rename_i e; rw [orW_bit, any_count] at e; omega

theorem pcs_iff {p : PlanD} {x : Pl} (h2 : 2 ≤ p.frame) (h64 : p.frame ≤ 64) (hne : x.pieces.length ≠ 0) :
    pcsP p x ↔ ((∀ i, i < x.pieces.length → pcOk p x.pieces i) ∧ (∀ t, t < 64 → cntA x t ≤ 1 ∧ (0 < cntA x t → (t : Int) < p.frame)) ∧ 2 ≤ x.pieces.length ∧ x.core = 0 ∧ (sumA x 64 : Int) = x.share) := by
  have hfr : (fr p.frame).toNat = p.frame.toNat := by unfold fr; omega
  have hin : (∀ i, i < x.pieces.length → pcIn p x.pieces i) ↔ ∀ t, t < 64 → cntA x t ≤ 1 ∧ (0 < cntA x t → (t : Int) < p.frame) := by
    constructor
    · intro h t ht
      rw [cntA_eq ht]
      refine ⟨once_iff.2 fun i hi => ?_, fun hpos => ?_⟩
      · obtain ⟨_, _, g⟩ := h i hi
        exact and_zero.1 g t ht
      · rw [← any_count, List.any_eq_true] at hpos
        obtain ⟨y, hy, hb⟩ := hpos
        obtain ⟨i, hi, rfl⟩ := List.getElem_of_mem hy
        obtain ⟨_, g, _⟩ := h i hi
        have := and_zero.1 g t ht
        rw [hfr, BitVec.getLsbD_not, allB_bit] at this
        simp [hb, ht] at this
        omega
    · intro h i hi
      refine ⟨hi, and_zero.2 fun t ht ⟨h1, h3⟩ => ?_, and_zero.2 fun t ht => ?_⟩
      · rw [hfr, BitVec.getLsbD_not, allB_bit] at h3
        have := (h t ht).2 (by rw [cntA_eq ht, ← any_count, List.any_eq_true]; exact ⟨_, List.getElem_mem hi, h1⟩)
        simp [ht] at h3
        omega
      · have := (h t ht).1
        rw [cntA_eq ht] at this
        exact once_iff.1 this i hi
  unfold pcsP
  constructor
  · rintro ⟨a, b, c, d⟩
    have q := hin.1 fun i hi => (a i hi).2
    exact ⟨fun i hi => (a i hi).1, q, by omega, c, by rw [← pop_cnt fun t ht => (q t ht).1]; exact d⟩
  · rintro ⟨a, q, b, c, d⟩
    exact ⟨fun i hi => ⟨a i hi, hin.2 q i hi⟩, by omega, c, by rw [pop_cnt fun t ht => (q t ht).1]; exact d⟩

theorem place_iff {p : PlanD} {x : Pl} (h2 : 2 ≤ p.frame) (h64 : p.frame ≤ 64) : placeP p x ↔ refPlaceP p x := by
  unfold placeP refPlaceP
  constructor
  · rintro ⟨a, b, c, d, e⟩; exact ⟨a, b, c, d, fun h => (pcs_iff h2 h64 h).1 (e h)⟩
  · rintro ⟨a, b, c, d, e⟩; exact ⟨a, b, c, d, fun h => (pcs_iff h2 h64 h).2 (e h)⟩

theorem flat_cnt {l : List Pl} {c t : Int} : cntL l c t = (l.flatMap (·.pieces)).countP (atB c t) := by
  induction l with
  | nil => rfl
  | cons x l ih => rw [cntL_cons, ih, List.flatMap_cons, List.countP_append]

theorem wAt_bit {ps : List Pc} {c t : Nat} (ht : t < 64) : (wAt ps (c : Nat)).getLsbD t = true ↔ 0 < ps.countP (atB (c : Nat) (t : Nat)) := by
  unfold wAt
  rw [winPc_bit]
  simp only [BitVec.getLsbD_zero, Bool.false_or]
  rw [any_count]
  have : ps.countP (fun y => decide (y.1 = (c : Int)) && y.2.getLsbD t) = ps.countP (atB (c : Nat) (t : Nat)) := List.countP_congr fun y _ => by rw [atB_eq ht]
  rw [this]

theorem apart_iff {ps : List Pc} (hc : ∀ y ∈ ps, 0 ≤ y.1 ∧ y.1 < 16) : apartP ps ↔ ∀ c, c < 16 → ∀ t, t < 64 → ps.countP (atB (c : Nat) (t : Nat)) ≤ 1 := by
  constructor
  · intro h c hc16 t ht
    have : ∀ n, n ≤ ps.length → (ps.take n).countP (atB (c : Nat) (t : Nat)) ≤ 1 := by
      intro n
      induction n with
      | zero => intro _; simp
      | succ n ih =>
        intro hn
        have e := countP_take (f := atB (c : Nat) (t : Nat)) (show n < ps.length by omega)
        have := ih (by omega)
        rw [e]
        split
        · rename_i hb
          have g := and_zero.1 (h n (by omega)) t ht
          rw [atB_eq ht] at hb
          simp only [Bool.and_eq_true, decide_eq_true_eq] at hb
          have hn0 : ¬ 0 < (ps.take n).countP (atB (c : Nat) (t : Nat)) := by
            intro hpos
            refine g ⟨?_, hb.2⟩
            rw [hb.1]
            exact (wAt_bit ht).2 hpos
          omega
        · omega
    have := this ps.length (Nat.le_refl _)
    rwa [List.take_length] at this
  · intro h i hi
    refine and_zero.2 fun t ht ⟨h1, h2⟩ => ?_
    obtain ⟨h0, h16⟩ := hc _ (List.getElem_mem hi)
    obtain ⟨c, hcc⟩ := Int.eq_ofNat_of_zero_le h0
    rw [hcc] at h1 h16
    have hpos := (wAt_bit ht).1 h1
    have e := countP_take (f := atB (c : Nat) (t : Nat)) hi
    rw [if_pos (by rw [atB_eq ht]; simp [hcc, h2])] at e
    have : (ps.take (i + 1)).countP (atB (c : Nat) (t : Nat)) ≤ ps.countP (atB (c : Nat) (t : Nat)) := (List.take_sublist _ _).countP_le
    have := h c (by omega) t ht
    omega

/-- Both call the same plans right. -/
theorem check_iff {p : PlanD} : CheckP p ↔ RightP p := by
  unfold CheckP RightP
  have hcores : p.cores >>> 16 = 0#32 ↔ p.cores.toNat ≤ 65535 := by
    rw [← BitVec.toNat_inj, BitVec.toNat_ushiftRight, Nat.shiftRight_eq_div_pow]
    have := p.cores.isLt
    simp; omega
  constructor
  · rintro ⟨a, b, c, d, e, f, g, h⟩
    refine ⟨a, b, c, hcores.1 d, fun i hi => ?_, ?_, g, fun c hc => ?_⟩
    · obtain ⟨q, r, s⟩ := e i hi
      exact ⟨q, (place_iff a b).1 r, s⟩
    · intro c hc t ht
      rw [flat_cnt]
      have hf : preP p.places p.places.length = p.places.flatMap (·.pieces) := by unfold preP; rw [List.take_length]
      rw [hf] at f
      exact (apart_iff (by
        intro y hy
        obtain ⟨x, hx, hy⟩ := List.mem_flatMap.1 hy
        exact plC_cores e x hx y hy)).1 f c hc t ht
    · have := h c hc
      rw [leftP_eq] at this; omega
  · rintro ⟨a, b, c, d, e, f, g, h⟩
    have e' : ∀ i, i < p.places.length → plC p i := fun i hi => by
      obtain ⟨q, r, s⟩ := e i hi
      exact ⟨q, (place_iff a b).2 r, s⟩
    refine ⟨a, b, c, hcores.2 d, e', ?_, g, fun c hc => ?_⟩
    · have hf : preP p.places p.places.length = p.places.flatMap (·.pieces) := by unfold preP; rw [List.take_length]
      rw [hf]
      refine (apart_iff (by
        intro y hy
        obtain ⟨x, hx, hy⟩ := List.mem_flatMap.1 hy
        exact plC_cores e' x hx y hy)).2 fun c hc t ht => ?_
      rw [← flat_cnt]; exact f c hc t ht
    · have := h c hc
      rw [leftP_eq]; omega
end Go.Am


/- PlanY1 over the table of diff (relayset.py). -/
set_option linter.unusedVariables false
set_option linter.unusedSimpArgs false
namespace Go.Am
open Classical
variable {m : Mem}

def cmpI (a b : Int) : Int := if a < b then -1 else if b < a then 1 else 0
end Go.Am


/- PlanY2 over the table of diff (relayset.py). -/
set_option linter.unusedVariables false
set_option linter.unusedSimpArgs false
namespace Go.Am
open Classical
variable {m : Mem}

def Asc (l : List Pl) : Prop := ∀ i j (hi : i < j) (hj : j < l.length), (l[i]'(by omega)).unit < l[j].unit
/-- Where a unit is, or would be. -/
def atU (l : List Pl) (u : Int) (k : Nat) : Prop := k ≤ l.length ∧ (∀ t (h : t < l.length), t < k → l[t].unit < u) ∧ ∀ t (h : t < l.length), k ≤ t → u ≤ l[t].unit
def isAt (l : List Pl) (u : Int) (k : Nat) : Prop := ∃ h : k < l.length, l[k].unit = u

theorem half_eq {i j : Nat} (h : i + j < 2000000) : IntKind.wrap .i64 (((BitVec.ofInt 64 (IntKind.wrap .i64 ((i : Int) + j)) >>> (1#64).toNat).toNat : Nat) : Int) = ((i + j) / 2 : Nat) := by
  have e : IntKind.wrap .i64 ((i : Int) + j) = ((i + j : Nat) : Int) := by rw [wrap_i64 (by omega) (by omega)]; omega
  rw [show (1#64).toNat = 1 from rfl, e, BitVec.ofInt_natCast, BitVec.toNat_ushiftRight, BitVec.toNat_ofNat, Nat.mod_eq_of_lt (by omega), Nat.shiftRight_eq_div_pow, wrap_i64 (by omega) (by omega)]

/-- A copy of pieces. -/
theorem Clone_spec {l : List Pc} {v : Value} (hs : PcV m l v) (hl : l.length < 1000000) : WC R F.slices_Clone_api_Piece_api_Piece [v] m fun r m' => Own m m' 2 l.length (l.flatMap pcV) r ∧ Ext m m' := by
  refine WC.of R.slices_Clone_api_Piece_api_Piece rfl ?_
  have hone : oneCells (l.flatMap pcV) = true := by
    unfold oneCells
    rw [List.all_eq_true]
    intro x hx
    obtain ⟨y, _, hy⟩ := List.mem_flatMap.1 hx
    simp only [pcV, List.mem_cons, List.not_mem_nil, or_false] at hy
    rcases hy with rfl | rfl <;> rfl
  obtain ⟨h1, h2⟩ := hs
  have hs0 : Sl m 2 l.length (l.flatMap pcV) v := h1
  cases h1 with
  | nil h hc =>
    simp only [RC.slices_Clone_api_Piece_api_Piece, go_sem, Int.reduceBEq, Int.reduceBNe, Int.reduceNeg, reduceCtorEq, Nat.reduceEqDiff, Nat.reduceAdd, Nat.reduceLeDiff, Nat.reduceMul, Nat.reduceSub, Int.reduceToNat, Int.reduceLT, Int.reduceLE, Option.isNone_none]
    exact ⟨.nil h hc, Ext.refl _⟩
  | @«at» b o c hc h =>
    simp only [RC.slices_Clone_api_Piece_api_Piece, go_sem, Int.reduceBEq, Int.reduceBNe, Int.reduceNeg, reduceCtorEq, Nat.reduceEqDiff, Nat.reduceAdd, Nat.reduceLeDiff, Nat.reduceMul, Nat.reduceSub, Int.reduceToNat, Int.reduceLT, Int.reduceLE]
    obtain ⟨v', m', e1, e2, e3⟩ := app_copy (by_ := 16) (hs0.keep h2 Ext.new) hone (by omega) (by omega)
    rw [e1, Got.some]
    try simp only [go_sem, Int.reduceBEq, Int.reduceBNe, Int.reduceNeg, reduceCtorEq, Nat.reduceEqDiff, Nat.reduceAdd, Nat.reduceLeDiff, Nat.reduceMul, Nat.reduceSub, Int.reduceToNat, Int.reduceLT, Int.reduceLE, load_w, load_a, store_b, idxS_b, set_blk, new_blk, set_next, new_next, len_s, ldW_c, ldA_c, stB_c, toArr_one, size_one, toList_toArr, size_toArr, List.length_cons, List.length_nil, List.getElem?_cons_zero, List.getElem?_cons_succ, Nat.zero_add, Nat.add_zero]
    exact ⟨e2, e3⟩

def find0 : Pl := ⟨0, 0, 0, []⟩
noncomputable def findP (l : List Pl) (u : Int) : Pl := if h : ∃ i, ∃ h : i < l.length, l[i].unit = u then l[h.choose]'(h.choose_spec.choose) else find0
def hasU (l : List Pl) (u : Int) : Prop := ∃ i, ∃ h : i < l.length, l[i].unit = u

theorem Asc.inj {l : List Pl} (ha : Asc l) {i j : Nat} (hi : i < l.length) (hj : j < l.length) (h : l[i].unit = l[j].unit) : i = j := by
  rcases Nat.lt_trichotomy i j with g | g | g
  · have := ha i j g hj; omega
  · exact g
  · have := ha j i g hi; omega
theorem findP_at {l : List Pl} {u : Int} (ha : Asc l) {i : Nat} (hi : i < l.length) (h : l[i].unit = u) : findP l u = l[i] := by
  have hex : ∃ i, ∃ h : i < l.length, l[i].unit = u := ⟨i, hi, h⟩
  unfold findP
  rw [dif_pos hex]
  have e : hex.choose = i := ha.inj hex.choose_spec.choose hi (by rw [hex.choose_spec.choose_spec, h])
  simp only [e]
theorem findP_not {l : List Pl} {u : Int} (h : ¬ hasU l u) : findP l u = find0 := by unfold findP; exact dif_neg h

theorem refFind_spec {p : PlanD} {v : Value} {u : Int} (hv : PlanV m p v) (hl : PlanL p) (ha : Asc p.places) :
    WC R F.ref16_Find [v, .int .i64 u] m fun r m' => ∃ w, r = .tuple #[w, .bool (decide (hasU p.places u))] ∧ PlV m' (findP p.places u) w ∧ Ext m m' := by
  refine WC.of R.ref16_Find rfl ?_
  obtain ⟨pv, rfl, hp⟩ := hv
  have hlen := hl.len
  simp only [RC.ref16_Find, planV, go_sem, Int.reduceBEq, Int.reduceBNe, Int.reduceNeg, reduceCtorEq, Nat.reduceEqDiff, Nat.reduceAdd, Nat.reduceLeDiff, Nat.reduceMul, Nat.reduceSub, Int.reduceToNat, Int.reduceLT, Int.reduceLE, hp.one]
  have hx : Ext m (m.new (.cells [.int .i64 p.frame, u32 p.cores, pv] (some 3))) := Ext.new
  have hb : Bk (m.new (.cells [.int .i64 p.frame, u32 p.cores, pv] (some 3))) m.next [.int .i64 p.frame, u32 p.cores, pv] 3 := Bk.new
  generalize m.new (.cells [.int .i64 p.frame, u32 p.cores, pv] (some 3)) = m1 at hx hb ⊢
  have hbn := hb.ne
  try simp only [go_sem, Int.reduceBEq, Int.reduceBNe, Int.reduceNeg, reduceCtorEq, Nat.reduceEqDiff, Nat.reduceAdd, Nat.reduceLeDiff, Nat.reduceMul, Nat.reduceSub, Int.reduceToNat, Int.reduceLT, Int.reduceLE, hbn]
  have hx2 : Ext m1 (m1.new (.cells [.int .i64 0, .int .i64 0, .int .i64 0, .slice none 0 0] (some 4))) := Ext.new
  have hb2 : Bk (m1.new (.cells [.int .i64 0, .int .i64 0, .int .i64 0, .slice none 0 0] (some 4))) m1.next [.int .i64 0, .int .i64 0, .int .i64 0, .slice none 0 0] 4 := Bk.new
  generalize m1.new (.cells [.int .i64 0, .int .i64 0, .int .i64 0, .slice none 0 0] (some 4)) = m2 at hx2 hb2 ⊢
  have hp2 := (hp.keep hx).keep hx2
  have hb' := hb.keep hx2
  refine WL.of (fun n e m' => ∃ i : Nat, i ≤ p.places.length ∧ n = p.places.length - i ∧ e = [(1, .int .i64 u), (2, pt m.next), (4, pt m1.next), (6, .int .i64 i)] ∧ (∀ t (h : t < p.places.length), t < i → p.places[t].unit ≠ u) ∧ m' = m2) p.places.length
    ⟨0, by omega, by omega, by simp only [go_sem, Int.reduceBEq, Int.reduceBNe, Int.reduceNeg, reduceCtorEq, Nat.reduceEqDiff, Nat.reduceAdd, Nat.reduceLeDiff, Nat.reduceMul, Nat.reduceSub, Int.reduceToNat, Int.reduceLT, Int.reduceLE] <;> rfl, fun t h h2 => by omega, rfl⟩ ?_
  rintro _ _ _ ⟨i, hi, rfl, rfl, hno, hm⟩
  replace hm := hm.symm
  subst hm
  simp only [RB.ref16_Find_1, pt, go_sem, Int.reduceBEq, Int.reduceBNe, Int.reduceNeg, reduceCtorEq, Nat.reduceEqDiff, Nat.reduceAdd, Nat.reduceLeDiff, Nat.reduceMul, Nat.reduceSub, Int.reduceToNat, Int.reduceLT, Int.reduceLE, load_w, load_a, store_b, idxS_b, set_blk, new_blk, set_next, new_next, len_s, ldW_c, ldA_c, stB_c, toArr_one, size_one, toList_toArr, size_toArr, List.length_cons, List.length_nil, List.getElem?_cons_zero, List.getElem?_cons_succ, Nat.zero_add, Nat.add_zero, hb'.at_, hp2.len]
  refine gT.of (fun h1' => ?_) (fun h1' => ?_) <;> (have h1 := h1'; try simp only [decide_eq_true_eq, decide_eq_false_iff_not, beq_iff_eq, bne_iff_ne, beq_eq_false_iff_ne, ne_eq, Bool.not_eq_true', Bool.not_eq_false', bne_eq_false_iff_eq, Int.not_lt, Int.not_le] at h1)
  · have hil : i < p.places.length := by omega
    obtain ⟨b, o, qv, a1, a2, a3, a4, a5⟩ := (hp.keep hx).elem hil
    have a30 := a3 0 (by omega)
    rw [← load_ext hx2 a5] at a2 a30
    have hfx : p.places[i].unit = u → findP p.places u = p.places[i] := fun h => findP_at ha hil h
    have hhas : p.places[i].unit = u → hasU p.places u := fun h => ⟨i, hil, h⟩
    have hno2 : p.places[i].unit ≠ u → ∀ t (h : t < p.places.length), t < i + 1 → p.places[t].unit ≠ u := by
      intro g t h ht
      by_cases e : t = i
      · subst e; exact g
      · exact hno t h (by omega)
    generalize p.places[i] = x at *
    simp only [plV, Nat.add_zero, List.getElem?_cons_zero] at a2 a30
    have q1 := a4.one
    try simp only [go_sem, Int.reduceBEq, Int.reduceBNe, Int.reduceNeg, reduceCtorEq, Nat.reduceEqDiff, Nat.reduceAdd, Nat.reduceLeDiff, Nat.reduceMul, Nat.reduceSub, Int.reduceToNat, Int.reduceLT, Int.reduceLE, load_w, load_a, store_b, idxS_b, set_blk, new_blk, set_next, new_next, len_s, ldW_c, ldA_c, stB_c, toArr_one, size_one, toList_toArr, size_toArr, List.length_cons, List.length_nil, List.getElem?_cons_zero, List.getElem?_cons_succ, Nat.zero_add, Nat.add_zero, h1', a1, a30, hb'.at_]
    refine gT.of (fun h2' => ?_) (fun h2' => ?_) <;> (have h2 := h2'; try simp only [decide_eq_true_eq, decide_eq_false_iff_not, beq_iff_eq, bne_iff_ne, beq_eq_false_iff_ne, ne_eq, Bool.not_eq_true', Bool.not_eq_false', bne_eq_false_iff_eq, Int.not_lt, Int.not_le] at h2)
    · have hfx := hfx h2
      try simp only [go_sem, Int.reduceBEq, Int.reduceBNe, Int.reduceNeg, reduceCtorEq, Nat.reduceEqDiff, Nat.reduceAdd, Nat.reduceLeDiff, Nat.reduceMul, Nat.reduceSub, Int.reduceToNat, Int.reduceLT, Int.reduceLE, load_w, load_a, store_b, idxS_b, set_blk, new_blk, set_next, new_next, len_s, ldW_c, ldA_c, stB_c, toArr_one, size_one, toList_toArr, size_toArr, List.length_cons, List.length_nil, List.getElem?_cons_zero, List.getElem?_cons_succ, Nat.zero_add, Nat.add_zero, h2', a1, a2, hb'.at_, hb2.at_, q1]
      refine ⟨_, by rw [decide_eq_true (hhas h2)], ?_, hx.trans (hx2.set (Nat.le_refl _))⟩
      rw [hfx]
      exact ⟨qv, rfl, a4.keep (hx2.set (Nat.le_refl _))⟩
    · try simp only [go_sem, Int.reduceBEq, Int.reduceBNe, Int.reduceNeg, reduceCtorEq, Nat.reduceEqDiff, Nat.reduceAdd, Nat.reduceLeDiff, Nat.reduceMul, Nat.reduceSub, Int.reduceToNat, Int.reduceLT, Int.reduceLE, load_w, load_a, store_b, idxS_b, set_blk, new_blk, set_next, new_next, len_s, ldW_c, ldA_c, stB_c, toArr_one, size_one, toList_toArr, size_toArr, List.length_cons, List.length_nil, List.getElem?_cons_zero, List.getElem?_cons_succ, Nat.zero_add, Nat.add_zero, h2', step1 (show i < 1000000 by omega)]
      exact ⟨p.places.length - (i + 1), by omega, i + 1, by omega, rfl, rfl, hno2 h2⟩
  · have hnu : ¬ hasU p.places u := by
      rintro ⟨t, h, e⟩
      exact hno t h (by omega) e
    try simp only [go_sem, Int.reduceBEq, Int.reduceBNe, Int.reduceNeg, reduceCtorEq, Nat.reduceEqDiff, Nat.reduceAdd, Nat.reduceLeDiff, Nat.reduceMul, Nat.reduceSub, Int.reduceToNat, Int.reduceLT, Int.reduceLE, load_w, load_a, store_b, idxS_b, set_blk, new_blk, set_next, new_next, len_s, ldW_c, ldA_c, stB_c, toArr_one, size_one, toList_toArr, size_toArr, List.length_cons, List.length_nil, List.getElem?_cons_zero, List.getElem?_cons_succ, Nat.zero_add, Nat.add_zero, h1', hb2.at_]
    refine ⟨_, by rw [decide_eq_false hnu], ?_, hx.trans (hx2.set (Nat.le_refl _))⟩
    rw [findP_not hnu]
    exact ⟨.slice none 0 0, rfl, .nil rfl rfl, trivial⟩
end Go.Am


/- SlcPlanPl over the table of diff (relayset.py). -/
set_option linter.unusedVariables false
set_option linter.unusedSimpArgs false
namespace Go.Am
variable {α : Type} {f : α → List Value} {m : Mem}

theorem pl_upd2 {all A B C : List Value} {o : Nat} (h : all = A ++ B ++ C) (ho : A.length = o) {X : List Value} (hl : X.length = B.length) : writeL all o X = A ++ X ++ C := by
  subst h
  unfold writeL
  have e1 : (A ++ B ++ C).take o = A := by rw [List.append_assoc]; exact List.take_left' ho
  have e2 : (A ++ B ++ C).drop (o + X.length) = C := List.drop_left' (by rw [List.length_append, ho, hl])
  rw [e1, e2]
end Go.Am


/- slices.Insert of one element, in our machine. -/
set_option linter.unusedVariables false
namespace Go.Am
open Go.RowKit

def insRow (u i : Nat) (row v : List Value) : List Value := row.take (i * u) ++ v ++ row.drop (i * u)

def X.insert (u by_ : Nat) : List Value → Mem → Option (Value × Mem)
  | [.slice none 0 0, .int .i64 i, .slice (some xa) 1 vc], m => if i = 0 then aApp none u by_ m (.slice none 0 0) (.slice (some xa) 1 vc) else none
  | [.slice (some ⟨b, o, none⟩) n cp, .int .i64 i, .slice (some ⟨vb, vo, none⟩) 1 vc], m =>
    if i = n then aApp none u by_ m (.slice (some ⟨b, o, none⟩) n cp) (.slice (some ⟨vb, vo, none⟩) 1 vc)
    else
      match m.blk b, m.blk vb with
      | some (.cells cs (some u')), some (.cells xs (some _)) =>
        if u' = u ∧ 0 < u ∧ 0 < by_ ∧ 0 ≤ i ∧ i < n ∧ vb ≠ b ∧ n ≤ cp ∧ o + cp * u = cs.length ∧ (n + 1) * by_ ≤ 2 ^ 47 ∧ n < 1000000000 ∧ vo + u ≤ xs.length ∧ oneCells ((cs.drop o).take (n * u)) = true ∧ oneCells ((xs.drop vo).take u) = true then
          some (.slice (some ⟨m.next, 0, none⟩) (n + 1) (n + 1), (m.set b none).new (.cells (insRow u i.toNat ((cs.drop o).take (n * u)) ((xs.drop vo).take u)) (some u)))
        else none
      | _, _ => none
  | _, _ => none

structure InsOk (P : Program) (f u by_ : Nat) (ts te : TypeId) : Prop where
  ht : P.underlying ts = some (.slice te)
  hs : szOf P te = some u
  hby : byOf P te = some by_
  hz : ∃ z, zeroOf P te = some z ∧ z.cells.size = u
  hu : 0 < u
  hb0 : 0 < by_
  shift : ∀ (b off n c i vb voff vc : Nat) (cs vs : List Value) (w : World), i < n → n + 1 ≤ c → n ≤ 1000000000 → vb ≠ b → cs.length = n * u → vs.length = u →
    (∀ j v, cs[j]? = some v → w.cell? ⟨b, off + j, none⟩ = some v) → (∀ j, j < (n + 1) * u → (w.cell? ⟨b, off + j, none⟩).isSome = true) → (∀ j, w.frozen? ⟨b, j, none⟩ = false) →
    (∀ j v, vs[j]? = some v → w.cell? ⟨vb, voff + j, none⟩ = some v) → (∀ v ∈ cs, v.oneCell' = true) → (∀ v ∈ vs, v.oneCell' = true) →
    ∀ (tA tB : TypeId) (kA kB : Nat), w.shape? vb = some (tA, kA) → w.shape? b = some (tB, kB) → kB ≠ 0 → w.frozen? ⟨vb, voff, none⟩ = false → w.frozen? ⟨vb, kA, none⟩ = false →
    Calls P f #[.slice (some ⟨b, off, none⟩) n c, .int .i64 i, .slice (some ⟨vb, voff, none⟩) 1 vc] w fun e w' =>
      e = .returned (.slice (some ⟨b, off, none⟩) (n + 1) c) ∧ w' = (w.drew.setCells b (off + (i + 1) * u) (cs.drop (i * u))).setCells b (off + i * u) vs
  grow : ∀ (b off n c i vb voff vc : Nat) (cs vs : List Value) (w : World), i < n → n ≤ c → c < n + 1 → (n + 1) * by_ ≤ 140737488355328 → vb ≠ b → cs.length = n * u → vs.length = u →
    (∀ j v, cs[j]? = some v → w.cell? ⟨b, off + j, none⟩ = some v) → (∀ j v, vs[j]? = some v → w.cell? ⟨vb, voff + j, none⟩ = some v) → (∀ v ∈ cs, v.oneCell' = true) → (∀ v ∈ vs, v.oneCell' = true) →
    Calls P f #[.slice (some ⟨b, off, none⟩) n c, .int .i64 i, .slice (some ⟨vb, voff, none⟩) 1 vc] w fun e w' =>
      ∃ (G : Nat) (R : Array Value), e = .returned (.slice (some ⟨w.heap.size, 0, none⟩) (n + 1) G) ∧ n + 1 ≤ G ∧ R.size = G * u ∧ (∀ j, j < i * u → R[j]? = cs[j]?) ∧
        w' = (((w.alloc (.cells R te)).drew.setCells w.heap.size (i * u) vs).drew).setCells w.heap.size ((i + 1) * u) (cs.drop (i * u))
  end_ : ∀ (base : Option Addr) (n c : Nat) (xa : Option Addr) (vc : Nat) (w w2 : World) (v2 : Value), n ≤ c → (base = none → c = 0) →
    (Builtin.append_ #[ts, ts] ts #[.slice base n c, .slice xa 1 vc]).run P w = .ok v2 w2 →
    Calls P f #[.slice base n c, .int .i64 n, .slice xa 1 vc] w fun e w' => e = .returned v2 ∧ w' = w2

variable {P : Program} {B0 : Nat} {σ : Inj} {m : Mem} {w : World}

theorem MR.setCells_out {B : Nat} (hB : B0 ≤ B) : ∀ (vs : List Value) (o : Nat) {w : World}, MR B0 σ m w → (∀ j, j < vs.length → ∃ u, w.cell? ⟨B, o + j, none⟩ = some u) →
    (∀ j, j < vs.length → ∀ b i c own, σ b = .live i → m.blk b = some (.cells c own) → ∀ k, k < i.len → (⟨B, o + j, none⟩ : Addr) ≠ ⟨i.block, i.off + k, none⟩) → MR B0 σ m (w.setCells B o vs) ∧ Below B0 w (w.setCells B o vs)
  | [], _, w, h, _, _ => ⟨h, Below.refl _ _⟩
  | v :: r, o, w, h, hc, ho => by
    have h1 := h.setCell_out (a := ⟨B, o, none⟩) (v := v) hB (by simpa using hc 0 (by simp)) (fun b i c own hb hm j hj => by simpa using ho 0 (by simp) b i c own hb hm j hj)
    obtain ⟨h2, h3⟩ := MR.setCells_out hB r (o + 1) h1 (fun j hj => by
      obtain ⟨x, hx⟩ := hc (j + 1) (by simp; omega)
      exact ⟨x, by rw [World.cell?_setCell_other _ _ _ _ (by simp <;> omega)]; rw [show o + 1 + j = o + (j + 1) by omega]; exact hx⟩) (fun j hj b i c own hb hm k hk => by
      have := ho (j + 1) (by simp; omega) b i c own hb hm k hk
      rwa [show o + (j + 1) = o + 1 + j by omega] at this)
    exact ⟨h2, ((Below.refl _ w).setCell hB v).trans h3⟩

/-- What really lies where a block's cells are. -/
theorem MR.real (h : MR B0 σ m w) {b o k : Nat} {i : Img} {c : List Value} {own : Option Nat} (hb : σ b = .live i) (hm : m.blk b = some (.cells c own)) (hle : o + k ≤ c.length) :
    ∃ C : List Value, C.length = k ∧ (∀ (j : Nat) v, C[j]? = some v → w.cell? ⟨i.block, i.off + o + j, none⟩ = some v) ∧ LR σ ((c.drop o).take k) C := by
  obtain ⟨-, hc⟩ := h.cells b i c own hb hm
  have key : ∀ j, j < k → ∃ v', w.cell? ⟨i.block, i.off + o + j, none⟩ = some v' ∧ ∀ v, c[o + j]? = some v → VR σ v v' := fun j hj => by
    obtain ⟨v', h1, h2⟩ := hc (o + j) c[o + j] (List.getElem?_eq_getElem (by omega))
    exact ⟨v', by rw [Nat.add_assoc]; exact h1, fun v hv => by rw [List.getElem?_eq_getElem (by omega)] at hv; cases hv; exact h2⟩
  refine ⟨List.ofFn fun j : _root_.Fin k => (key j.1 j.2).choose, by simp, fun j v hj => ?_, ?_, fun j x y hx hy => ?_⟩
  · have hjk : j < k := by have := (List.getElem?_eq_some_iff.1 hj).1; simpa using this
    rw [List.getElem?_ofFn] at hj
    simp only [hjk, dite_true, Option.some.injEq] at hj
    rw [← hj]; exact (key j hjk).choose_spec.1
  · simp; omega
  · have hjk : j < k := by have := (List.getElem?_eq_some_iff.1 hy).1; simpa using this
    rw [List.getElem?_ofFn] at hy
    simp only [hjk, dite_true, Option.some.injEq] at hy
    rw [List.getElem?_take, if_pos hjk, List.getElem?_drop] at hx
    rw [← hy]; exact (key j hjk).choose_spec.2 x hx

theorem oneCells_sub {a b : List Value} (h : oneCells a = true) (hs : ∀ x ∈ b, x ∈ a) : oneCells b = true := by
  unfold oneCells at *
  rw [List.all_eq_true] at *
  exact fun x hx => h x (hs x hx)
theorem one_mem {xs ys : List Value} (h : LR σ xs ys) (hx : oneCells xs = true) : ∀ v ∈ ys, v.oneCell' = true := by
  have := oneCells_lr h hx
  rwa [List.all_eq_true] at this
theorem LR.app {xs ys xs' ys' : List Value} (h : LR σ xs ys) (k : LR σ xs' ys') : LR σ (xs ++ xs') (ys ++ ys') :=
  ⟨by rw [List.length_append, List.length_append, h.1, k.1], fun j x y hx hy => by
    by_cases hj : j < xs.length
    · rw [List.getElem?_append_left hj] at hx
      rw [List.getElem?_append_left (by rw [← h.1]; exact hj)] at hy
      exact h.2 j x y hx hy
    · rw [List.getElem?_append_right (by omega)] at hx
      rw [List.getElem?_append_right (by rw [← h.1]; omega), ← h.1] at hy
      exact k.2 _ x y hx hy⟩
theorem LR.row {u i : Nat} {r r' v v' : List Value} (h : LR σ r r') (k : LR σ v v') : LR σ (insRow u i r v) (insRow u i r' v') := ((h.take _).app k).app (h.drop _)
theorem insRow_len {u i n : Nat} {r v : List Value} (hr : r.length = n * u) (hv : v.length = u) (hi : i < n) : (insRow u i r v).length = (n + 1) * u := by
  unfold insRow
  have h1 : i * u ≤ n * u := Nat.mul_le_mul_right _ (Nat.le_of_lt hi)
  rw [List.length_append, List.length_append, List.length_take, List.length_drop, hr, hv, Nat.succ_mul, Nat.min_eq_left h1]
  omega
/-- What stands in the new row, place by place. -/
theorem insRow_get {u i n j : Nat} {r v : List Value} (hr : r.length = n * u) (hv : v.length = u) (hi : i < n) :
    (insRow u i r v)[j]? = if j < i * u then r[j]? else if j < (i + 1) * u then v[j - i * u]? else (r.drop (i * u))[j - (i + 1) * u]? := by
  have hle : i * u ≤ n * u := Nat.mul_le_mul_right _ (Nat.le_of_lt hi)
  have e : (i + 1) * u = i * u + u := Nat.succ_mul _ _
  have hl : (r.take (i * u)).length = i * u := by rw [List.length_take]; omega
  unfold insRow
  rw [e]
  split
  · rw [List.getElem?_append_left (by rw [List.length_append, hl, hv]; omega), List.getElem?_append_left (by omega), List.getElem?_take, if_pos (by assumption)]
  · split
    · rw [List.getElem?_append_left (by rw [List.length_append, hl, hv]; omega), List.getElem?_append_right (by omega), hl]
    · rw [List.getElem?_append_right (by rw [List.length_append, hl, hv]; omega), List.length_append, hl, hv]

theorem X.insert_frame (u by_ : Nat) : ExtFrame (X.insert u by_) := by
  intro args m v m' k o hk hlt h
  have hb : ∀ {x : Nat} {ob : AObj}, m.blk x = some ob → x ≠ k ∧ (m.set k (some o)).blk x = some ob := fun {x ob} hx => by
    have : x ≠ k := by rintro rfl; rw [hk] at hx; cases hx
    exact ⟨this, by rw [Mem.set_ne _ _ this]; exact hx⟩
  unfold X.insert at h ⊢
  split at h
  · split at h
    · rename_i hi
      rw [if_pos hi]
      exact aApp_frame hk hlt (by simp) h
    · cases h
  · rename_i b oo n cp i vb vo vc
    split at h
    · rename_i hi
      rw [if_pos hi]
      exact aApp_frame hk hlt (by simp) h
    · rename_i hi
      rw [if_neg hi]
      split at h
      · rename_i cs u' xs u2 h1 h2
        split at h
        · rename_i hc
          obtain ⟨n1, e1⟩ := hb h1
          obtain ⟨n2, e2⟩ := hb h2
          simp only [e1, e2]
          rw [if_pos hc]
          cases h
          have hne : k ≠ m.next := by omega
          refine ⟨?_, ?_, ?_, ?_⟩
          · simp only [Mem.set_next, Option.some.injEq, Prod.mk.injEq, true_and]
            simp only [Mem.new, Mem.set]
            congr 1
            funext x
            by_cases h1 : x = k
            · subst h1; simp [hne, n1.symm]
            · simp [h1]; try rfl
          · simp [Mem.new, Mem.set, hne, hk]
          · simp [Mem.new]; omega
          · simp [Mem.new]
        · cases h
      · cases h
  · cases h

theorem MR.shape (h : MR B0 σ m w) {b : Nat} {i : Img} {c : List Value} {own : Option Nat} (hb : σ b = .live i) (hm : m.blk b = some (.cells c own)) (h0 : 0 < c.length) :
    ∃ (t : TypeId) (k : Nat), w.shape? i.block = some (t, k) ∧ k ≠ 0 := by
  obtain ⟨-, hc⟩ := h.cells b i c own hb hm
  obtain ⟨v', h1, -⟩ := hc 0 c[0] (List.getElem?_eq_getElem h0)
  unfold World.cell? at h1
  unfold World.shape?
  split at h1
  · rename_i hh
    refine ⟨_, _, by rw [hh], ?_⟩
    rename_i cc _ _
    simp only at h1
    intro e
    have : cc.size = 0 := e
    have h2 := (Array.getElem?_eq_some_iff.1 h1).1
    omega
  · cases h1

theorem some_setCells (b : Nat) (vs : List Value) (o : Nat) (w : World) (h : ∀ j, j < vs.length → (w.cell? ⟨b, o + j, none⟩).isSome = true) (k : Nat) (hk : (w.cell? ⟨b, k, none⟩).isSome = true) : ((w.setCells b o vs).cell? ⟨b, k, none⟩).isSome = true := by
  by_cases hin : o ≤ k ∧ k < o + vs.length
  · have := World.cell?_setCells_in b vs o w h (k - o) (by omega)
    rw [show o + (k - o) = k by omega] at this
    rw [this]; rfl
  · rw [World.cell?_setCells_out b vs o w ⟨b, k, none⟩ (fun _ _ => by show k < o ∨ o + vs.length ≤ k; omega)]
    exact hk

theorem ins_cells {u i n B off j : Nat} {C V : List Value} {W : World} (hC : C.length = n * u) (hV : V.length = u) (hi : i < n) (hj : j < (n + 1) * u) (h1 : ∀ q, q < i * u → W.cell? ⟨B, off + q, none⟩ = C[q]?) (h2 : ∀ q, q < (n + 1) * u → (W.cell? ⟨B, off + q, none⟩).isSome = true) :
    ((W.setCells B (off + (i + 1) * u) (C.drop (i * u))).setCells B (off + i * u) V).cell? ⟨B, off + j, none⟩ = (insRow u i C V)[j]? ∧
    ((W.setCells B (off + i * u) V).setCells B (off + (i + 1) * u) (C.drop (i * u))).cell? ⟨B, off + j, none⟩ = (insRow u i C V)[j]? := by
  have hle : i * u ≤ n * u := Nat.mul_le_mul_right _ (Nat.le_of_lt hi)
  have e : (i + 1) * u = i * u + u := Nat.succ_mul _ _
  have e2 : (n + 1) * u = n * u + u := Nat.succ_mul _ _
  have hD : (C.drop (i * u)).length = n * u - i * u := by rw [List.length_drop, hC]
  rw [insRow_get hC hV hi]
  constructor
  · split
    · rw [World.cell?_setCells_out _ _ _ _ _ (fun _ _ => by simp only; omega), World.cell?_setCells_out _ _ _ _ _ (fun _ _ => by simp only; omega)]
      exact h1 j (by assumption)
    · split
      · have := World.cell?_setCells_in B V (off + i * u) (W.setCells B (off + (i + 1) * u) (C.drop (i * u))) (fun q hq => some_setCells _ _ _ _ (fun t ht => by rw [Nat.add_assoc]; exact h2 _ (by omega)) _ (by rw [Nat.add_assoc]; exact h2 _ (by omega))) (j - i * u) (by omega)
        rw [show off + i * u + (j - i * u) = off + j by omega] at this
        rw [this, List.getElem?_eq_getElem (by omega)]
      · rw [World.cell?_setCells_out _ _ _ _ _ (fun _ _ => by simp only; omega)]
        have := World.cell?_setCells_in B (C.drop (i * u)) (off + (i + 1) * u) W (fun q hq => by rw [Nat.add_assoc]; exact h2 _ (by omega)) (j - (i + 1) * u) (by omega)
        rw [show off + (i + 1) * u + (j - (i + 1) * u) = off + j by omega] at this
        rw [this, List.getElem?_eq_getElem (by omega)]
  · split
    · rw [World.cell?_setCells_out _ _ _ _ _ (fun _ _ => by simp only; omega), World.cell?_setCells_out _ _ _ _ _ (fun _ _ => by simp only; omega)]
      exact h1 j (by assumption)
    · split
      · rw [World.cell?_setCells_out _ _ _ _ _ (fun _ _ => by simp only; omega)]
        have := World.cell?_setCells_in B V (off + i * u) W (fun q hq => by rw [Nat.add_assoc]; exact h2 _ (by omega)) (j - i * u) (by omega)
        rw [show off + i * u + (j - i * u) = off + j by omega] at this
        rw [this, List.getElem?_eq_getElem (by omega)]
      · have := World.cell?_setCells_in B (C.drop (i * u)) (off + (i + 1) * u) (W.setCells B (off + i * u) V) (fun q hq => some_setCells _ _ _ _ (fun t ht => by rw [Nat.add_assoc]; exact h2 _ (by omega)) _ (by rw [Nat.add_assoc]; exact h2 _ (by omega))) (j - (i + 1) * u) (by omega)
        rw [show off + (i + 1) * u + (j - (i + 1) * u) = off + j by omega] at this
        rw [this, List.getElem?_eq_getElem (by omega)]

theorem app_cap {u by_ b o n cp : Nat} {x v : Value} {m m' : Mem} (h : aApp none u by_ m (.slice (some ⟨b, o, none⟩) n cp) x = some (v, m')) (hx : sliceLen x = some 1) : n ≤ cp ∧ (m.blk b).isSome = true := by
  unfold aApp at h
  rw [hx] at h
  simp only [Option.bind_some] at h
  obtain ⟨xs, -, h'⟩ := Option.bind_eq_some_iff.1 h
  clear h
  simp only [Nat.one_ne_zero, if_false] at h'
  split at h'
  · obtain ⟨m1, h1, -⟩ := Option.map_eq_some_iff.1 h'
    refine ⟨by omega, ?_⟩
    unfold aWrite at h1
    split at h1
    · rename_i hb; rw [hb]; rfl
    · cases h1
  · split at h'
    · rename_i hb
      split at h'
      · rename_i hc
        exact ⟨hc.2.2.2.2.1, by rw [hb]; rfl⟩
      · cases h'
    · cases h'

theorem X.insert_sim {G : Nat → World → Prop} {f u by_ : Nat} {ts te : TypeId} (L : InsOk P f u by_ ts te) (args : List Value) (m : Mem) (v : Value) (m' : Mem) (h : X.insert u by_ args m = some (v, m')) : SimCall P G f args m v m' := by
  intro B0 σ args2 w hG hl hm
  obtain ⟨z, hz, hzs⟩ := L.hz
  unfold X.insert at h
  split at h
  · rename_i i xa vc
    split at h
    · rename_i hi
      subst hi
      obtain ⟨y1, r1, rfl, hy1, hr1⟩ := hl.cons_inv
      obtain ⟨y2, r2, rfl, hy2, hr2⟩ := hr1.cons_inv
      obtain ⟨y3, r3, rfl, hy3, hr3⟩ := hr2.cons_inv
      obtain rfl : r3 = [] := List.eq_nil_of_length_eq_zero hr3.1.symm
      obtain ⟨v2, w2, e1, e2⟩ := sim_app (P := P) (ty := ts) L.ht L.ht L.hs L.hby hz hzs L.hu L.hb0 hm (at_ := none) trivial hy1 hy3 h
      cases hy2
      cases hy1
      · have : ∃ xb vc', y3 = .slice xb 1 vc' := by cases hy3 <;> exact ⟨_, _, rfl⟩
        obtain ⟨xb, vc', rfl⟩ := this
        refine (L.end_ none 0 0 xb vc' w w2 v2 (Nat.le_refl _) (fun _ => rfl) e1).mono ?_
        rintro e w3 ⟨rfl, rfl⟩
        exact ⟨_, rfl, e2⟩
    · cases h
  · rename_i b o n cp i vb vo vc
    obtain ⟨y1, r1, rfl, hy1, hr1⟩ := hl.cons_inv
    obtain ⟨y2, r2, rfl, hy2, hr2⟩ := hr1.cons_inv
    obtain ⟨y3, r3, rfl, hy3, hr3⟩ := hr2.cons_inv
    obtain rfl : r3 = [] := List.eq_nil_of_length_eq_zero hr3.1.symm
    cases hy2
    split at h
    · rename_i hi
      subst hi
      obtain ⟨v2, w2, e1, e2⟩ := sim_app (P := P) (ty := ts) L.ht L.ht L.hs L.hby hz hzs L.hu L.hb0 hm (at_ := none) trivial hy1 hy3 h
      have h3 : ∃ xb vc', y3 = .slice xb 1 vc' := by cases hy3 <;> exact ⟨_, _, rfl⟩
      obtain ⟨xb, vc', rfl⟩ := h3
      obtain ⟨hnc, hsm⟩ := app_cap h rfl
      have h1 : ∃ q c', y1 = .slice (some q) n c' ∧ n ≤ c' := by
        cases hy1 with
        | slice q1 q2 q3 => exact ⟨_, _, rfl, Nat.le_trans hnc q2⟩
        | sliceZ q1 => exact ⟨_, _, rfl, Nat.le_refl _⟩
        | sliceDead q1 =>
          have := hm.dom b (fun i hi => by rw [q1] at hi; cases hi)
          rw [this] at hsm; cases hsm
      obtain ⟨q, c', rfl, hc'⟩ := h1
      refine (L.end_ (some q) n c' xb vc' w w2 v2 hc' (fun h => by cases h) e1).mono ?_
      rintro e w3 ⟨rfl, rfl⟩
      exact ⟨_, rfl, e2⟩
    · rename_i hi
      split at h
      · rename_i cs u' xs u2 h1 h2
        split at h
        · rename_i hc
          obtain ⟨rfl, hu0, hby0, hi0, hin, hvb, hncp, hocp, hbig, hn9, hvo, hone1, hone2⟩ := hc
          cases h
          obtain ⟨ib, hib⟩ := hm.live_of h1
          obtain ⟨iv, hiv⟩ := hm.live_of h2
          obtain ⟨ii, rfl⟩ : ∃ ii : Nat, i = ii := ⟨i.toNat, by omega⟩
          rw [Int.toNat_natCast]
          have hii : ii < n := by omega
          obtain ⟨hbu, hbB, hbrw⟩ := hm.rw b ib cs _ hib h1
          obtain ⟨hblen, -⟩ := hm.cells b ib cs _ hib h1
          obtain ⟨hvu, hvB, hvrw⟩ := hm.rw vb iv xs _ hiv h2
          obtain ⟨hvlen, -⟩ := hm.cells vb iv xs _ hiv h2
          have hnu : n * u' ≤ cp * u' := Nat.mul_le_mul_right _ hncp
          obtain ⟨C, hCl, hCc, hCr⟩ := hm.real (o := o) (k := n * u') hib h1 (by omega)
          obtain ⟨V, hVl, hVc, hVr⟩ := hm.real (o := vo) (k := u') hiv h2 hvo
          have hpos : 0 < n * u' := Nat.mul_pos (by omega) hu0
          have hy3' : ∃ vc', y3 = .slice (some ⟨iv.block, iv.off + vo, none⟩) 1 vc' := by
            cases hy3 with
            | slice q1 _ _ => rw [hiv] at q1; cases q1; exact ⟨_, rfl⟩
            | sliceDead q1 => rw [hiv] at q1; cases q1
          obtain ⟨vc', rfl⟩ := hy3'
          have hy1' : ∃ c', y1 = .slice (some ⟨ib.block, ib.off + o, none⟩) n c' ∧ n ≤ c' ∧ c' * u' ≤ cp * u' + ib.spare := by
            cases hy1 with
            | slice q1 q2 q3 =>
              rw [hib] at q1; cases q1
              rename_i c'
              refine ⟨c', rfl, by omega, ?_⟩
              by_cases hcc : cp < c'
              · have := (q3 hcc).2; rw [hbu] at this; exact this
              · have : c' = cp := by omega
                subst this; omega
            | sliceZ q1 => omega
            | sliceDead q1 => rw [hib] at q1; cases q1
          obtain ⟨c', rfl, hnc', hcsp⟩ := hy1'
          have hone1' : ∀ v ∈ C, v.oneCell' = true := one_mem hCr hone1
          have hone2' : ∀ v ∈ V, v.oneCell' = true := one_mem hVr hone2
          have hblk : iv.block ≠ ib.block := hm.apart vb b iv ib hvb hiv hib (.inl ⟨_, _, h2⟩)
          have hmk : MR B0 (σ.set b .dead) (m.set b none) w := hm.kill b (by rw [hib]; nofun)
          have hEk : Evo σ (σ.set b .dead) := Evo.set_dead
          have hothers : ∀ b' i', Inj.set σ b .dead b' = .live i' → i'.block ≠ ib.block := fun b' i' hb' => by
            have hne : b' ≠ b := by rintro rfl; rw [Inj.set_self] at hb'; cases hb'
            rw [Inj.set_ne _ _ hne] at hb'
            exact fun e => hm.apart b b' ib i' (fun e => hne e.symm) hib hb' (.inl ⟨_, _, h1⟩) e.symm
          have hfr : (Inj.set σ b .dead) m.next = .fresh := by
            rw [Inj.set_ne]; exact hm.fresh _ (Nat.le_refl _)
            intro e; rw [← e, hm.fresh _ (Nat.le_refl _)] at hib; cases hib
          have hCl' : C.length = n * u' := hCl
          have hrowl := insRow_len hCl' hVl hii
          have hrowA : (insRow u' ii ((cs.drop o).take (n * u')) ((xs.drop vo).take u')).length = (n + 1) * u' := insRow_len (by rw [hCr.1, hCl]) (by rw [hVr.1, hVl]) hii
          have hLR : LR (σ.set b .dead) (insRow u' ii ((cs.drop o).take (n * u')) ((xs.drop vo).take u')) (insRow u' ii C V) := by
            have := LR.row (u := u') (i := ii) hCr hVr
            exact ⟨this.1, fun j x y hx hy => (this.2 j x y hx hy).mono hEk⟩
          have fin : ∀ {w2 : World} {B off G : Nat}, MR B0 (σ.set b .dead) (m.set b none) w2 → B0 ≤ B → B < w2.heap.size → n + 1 ≤ G → (∀ j, j < (n + 1) * u' → w2.cell? ⟨B, off + j, none⟩ = (insRow u' ii C V)[j]?) →
              (∀ j, j < G * u' → (w2.cell? ⟨B, off + j, none⟩).isSome = true) → (∀ q, w2.frozen? ⟨B, q, none⟩ = false) → (∀ b' i', Inj.set σ b .dead b' = .live i' → B ≠ i'.block) → Below B0 w w2 →
              OpR P B0 σ m w none (.slice (some ⟨m.next, 0, none⟩) (n + 1) (n + 1)) ((m.set b none).new (.cells (insRow u' ii ((cs.drop o).take (n * u')) ((xs.drop vo).take u')) (some u'))) (.slice (some ⟨B, off, none⟩) (n + 1) G) w2 := by
            intro w2 B off G hm2 hB0 hBl hG hcell hex hfz hoth hbel
            have hle : (n + 1) * u' ≤ G * u' := Nat.mul_le_mul_right _ hG
            have := hm2.adopt (u := u') (c := insRow u' ii ((cs.drop o).take (n * u')) ((xs.drop vo).take u')) (i := ⟨B, off, (n + 1) * u', G * u' - (n + 1) * u', u'⟩) hB0 hBl hrowA.symm rfl (fun j x hj => by
                have hjl : j < (n + 1) * u' := by rw [← hrowA]; exact (List.getElem?_eq_some_iff.1 hj).1
                obtain ⟨y, hy, hv⟩ := hLR.get hj
                exact ⟨y, by rw [hcell j hjl]; exact hy, hv⟩) (fun j hj => ⟨Option.isSome_iff_exists.1 (hex j (by simp only at hj; omega)), hfz⟩) (fun b' i' hb' => hoth b' i' hb')
            refine ⟨(σ.set b .dead).set m.next (.live ⟨B, off, (n + 1) * u', G * u' - (n + 1) * u', u'⟩), ?_, this, hEk.trans (Evo.set_fresh hfr _), hbel, by simp [Mem.new], fun b' hb' _ hf => ?_⟩
            · exact VR.slice (i := ⟨B, off, (n + 1) * u', G * u' - (n + 1) * u', u'⟩) (by exact Inj.set_self _ _ _) hG (fun _ => by simp; omega)
            · rw [Inj.set_ne _ _ (by omega), Inj.set_ne]; exact hf
              rintro rfl; rw [hib] at hf; cases hf
          have hlb := hm.lt b ib hib
          have hle1 : (ii + 1) * u' ≤ (n + 1) * u' := Nat.mul_le_mul_right _ (by omega)
          have e1 : (ii + 1) * u' = ii * u' + u' := Nat.succ_mul _ _
          have e2 : (n + 1) * u' = n * u' + u' := Nat.succ_mul _ _
          have hle0 : ii * u' ≤ n * u' := Nat.mul_le_mul_right _ (by omega)
          by_cases hroom : n + 1 ≤ c'
          · have hlec : (n + 1) * u' ≤ c' * u' := Nat.mul_le_mul_right _ hroom
            have hsp : ∀ j, j < c' * u' → (w.cell? ⟨ib.block, ib.off + o + j, none⟩).isSome = true := fun j hj => by
              obtain ⟨⟨x, hx⟩, -⟩ := hbrw (o + j) (by omega)
              rw [Nat.add_assoc, hx]; rfl
            have hfz : ∀ q, w.frozen? ⟨ib.block, q, none⟩ = false := (hbrw 0 (by omega)).2
            obtain ⟨tA, kA, hsa, -⟩ := hm.shape hiv h2 (by omega)
            obtain ⟨tB, kB, hsb, hkB⟩ := hm.shape hib h1 (by omega)
            have hfv := (hvrw 0 (by omega)).2
            refine (L.shift ib.block (ib.off + o) n c' ii iv.block (iv.off + vo) vc' C V w hii hroom (by omega) hblk hCl hVl hCc (fun j hj => hsp j (by omega)) hfz hVc hone1' hone2' tA tB kA kB hsa hsb hkB (hfv _) (hfv _)).mono ?_
            rintro e w2 ⟨rfl, rfl⟩
            refine ⟨_, rfl, ?_⟩
            have hd0 : MR B0 (σ.set b .dead) (m.set b none) w.drew := hmk.same rfl
            have hout : ∀ (p : Nat), ∀ b0 i0 c0 own, Inj.set σ b .dead b0 = .live i0 → (m.set b none).blk b0 = some (.cells c0 own) → ∀ k, k < i0.len → (⟨ib.block, p, none⟩ : Addr) ≠ ⟨i0.block, i0.off + k, none⟩ := fun p b0 i0 c0 own hb0 _ k _ e => by
              simp only [Addr.mk.injEq] at e
              exact hothers b0 i0 hb0 e.1.symm
            have hdl : (C.drop (ii * u')).length = n * u' - ii * u' := by rw [List.length_drop, hCl]
            obtain ⟨hm1, hb1⟩ := MR.setCells_out hbB (C.drop (ii * u')) (ib.off + o + (ii + 1) * u') hd0 (fun j hj => Option.isSome_iff_exists.1 (by rw [Nat.add_assoc (ib.off + o)]; exact hsp _ (by omega))) (fun j hj => hout _)
            have hsp1 : ∀ j, j < c' * u' → ((w.drew.setCells ib.block (ib.off + o + (ii + 1) * u') (C.drop (ii * u'))).cell? ⟨ib.block, ib.off + o + j, none⟩).isSome = true := fun j hj =>
              some_setCells _ _ _ _ (fun t ht => by rw [Nat.add_assoc (ib.off + o)]; exact hsp _ (by omega)) _ (hsp j hj)
            obtain ⟨hm2, hb2⟩ := MR.setCells_out hbB V (ib.off + o + ii * u') hm1 (fun j hj => Option.isSome_iff_exists.1 (by rw [Nat.add_assoc (ib.off + o)]; exact hsp1 _ (by omega))) (fun j hj => hout _)
            have hbel := ((Below.refl B0 w).drew.trans hb1).trans hb2
            refine fin hm2 hbB (Nat.lt_of_lt_of_le hlb (by have := (((Below.refl w.heap.size w).drew).size); exact Nat.le_of_eq (by
                have sz : ∀ (vs : List Value) (q : Nat) (W : World), (W.setCells ib.block q vs).heap.size = W.heap.size := by
                  intro vs
                  induction vs with
                  | nil => intro q W; rfl
                  | cons x vs ih => intro q W; rw [World.setCells, ih]; simp
                rw [sz, sz]; rfl))) hroom (fun j hj => (ins_cells (W := w.drew) hCl hVl hii hj (fun q hq => by
                  have : q < C.length := by omega
                  rw [List.getElem?_eq_getElem this]
                  exact hCc q _ (List.getElem?_eq_getElem this)) (fun q hq => hsp q (by omega))).1) (fun j hj => some_setCells _ _ _ _ (fun t ht => by rw [Nat.add_assoc (ib.off + o)]; exact hsp1 _ (by omega)) _ (hsp1 j hj)) (fun q => by
                  rw [World.frozen?_setCells, World.frozen?_setCells]; exact hfz q) (fun b' i' hb' e => hothers b' i' hb' e.symm) hbel
          · refine (L.grow ib.block (ib.off + o) n c' ii iv.block (iv.off + vo) vc' C V w hii hnc' (by omega) hbig hblk hCl hVl hCc hVc hone1' hone2').mono ?_
            rintro e w2 ⟨G, Rw, rfl, hG, hRs, hRc, rfl⟩
            refine ⟨_, rfl, ?_⟩
            have hleG : (n + 1) * u' ≤ G * u' := Nat.mul_le_mul_right _ hG
            have hBw : Below w.heap.size w (((w.alloc (.cells Rw te)).drew.setCells w.heap.size (ii * u') V).drew.setCells w.heap.size ((ii + 1) * u') (C.drop (ii * u'))) := by
              have sc : ∀ (vs : List Value) (q : Nat) (W : World), Below w.heap.size w W → Below w.heap.size w (W.setCells w.heap.size q vs) := by
                intro vs
                induction vs with
                | nil => intro q W h; exact h
                | cons x vs ih => intro q W h; rw [World.setCells]; exact ih _ _ (h.setCell (Nat.le_refl _) x)
              exact sc _ _ _ (sc _ _ _ (((Below.refl _ w).alloc (Nat.le_refl _) _).drew)).drew
            have hA : ∀ j, (w.alloc (.cells Rw te)).cell? ⟨w.heap.size, j, none⟩ = Rw[j]? := fun j => World.cell?_alloc_new _ _ _ _
            have hex0 : ∀ j, j < G * u' → ((w.alloc (.cells Rw te)).cell? ⟨w.heap.size, 0 + j, none⟩).isSome = true := fun j hj => by
              rw [Nat.zero_add, hA, Array.getElem?_eq_getElem (by omega)]; rfl
            have hw2 : ((w.alloc (.cells Rw te)).drew.setCells w.heap.size (ii * u') V).drew.setCells w.heap.size ((ii + 1) * u') (C.drop (ii * u')) = (((w.alloc (.cells Rw te)).setCells w.heap.size (0 + ii * u') V).setCells w.heap.size (0 + (ii + 1) * u') (C.drop (ii * u'))).drew.drew := by
              have dr : ∀ (vs : List Value) (q : Nat) (W : World), W.drew.setCells w.heap.size q vs = (W.setCells w.heap.size q vs).drew := by
                intro vs
                induction vs with
                | nil => intro q W; rfl
                | cons x vs ih => intro q W; rw [World.setCells, World.setCells, ← ih]; rfl
              rw [dr, dr, dr, Nat.zero_add, Nat.zero_add]
            have hdl : (C.drop (ii * u')).length = n * u' - ii * u' := by rw [List.length_drop, hCl]
            have hex1 : ∀ j, j < G * u' → (((w.alloc (.cells Rw te)).setCells w.heap.size (0 + ii * u') V).cell? ⟨w.heap.size, 0 + j, none⟩).isSome = true := fun j hj =>
              some_setCells _ _ _ _ (fun t ht => by rw [Nat.add_assoc]; exact hex0 _ (by omega)) _ (hex0 j hj)
            refine fin (hmk.below hBw) hm.size ?_ hG (fun j hj => ?_) (fun j hj => ?_) (fun q => ?_) (fun b' i' hb' => ?_) (hBw.mono hm.size)
            · have := hBw.size
              have sz : ∀ (vs : List Value) (q : Nat) (W : World), (W.setCells w.heap.size q vs).heap.size = W.heap.size := by
                intro vs
                induction vs with
                | nil => intro q W; rfl
                | cons x vs ih => intro q W; rw [World.setCells, ih]; simp
              rw [sz]
              show w.heap.size < (World.setCells _ _ _ _).heap.size
              rw [sz]
              show w.heap.size < (w.heap.push _).size
              simp
            · rw [hw2]
              exact (ins_cells (off := 0) hCl hVl hii hj (fun q hq => by rw [Nat.zero_add, hA]; exact hRc q hq) (fun q hq => hex0 q (by omega))).2
            · rw [hw2]
              exact some_setCells _ _ _ _ (fun t ht => by rw [Nat.add_assoc]; exact hex1 _ (by omega)) _ (hex1 j hj)
            · rw [World.frozen?_setCells]
              show World.frozen? (World.setCells _ _ _ _) _ = false
              rw [World.frozen?_setCells]
              exact World.frozen?_alloc_new w Rw te q
            · have hne : b' ≠ b := by rintro rfl; rw [Inj.set_self] at hb'; cases hb'
              rw [Inj.set_ne _ _ hne] at hb'
              have := hm.lt b' i' hb'
              omega
        · cases h
      · cases h
  · cases h
end Go.Am
namespace Go.Proofs
open Go.RowKit
theorem run_copy_k {P : Program} (w : World) (k : Nat) (dT sT ty elem : TypeId) (b o dLen dCap : Nat) (a : Addr) (sLen sCap n : Nat) (cs : List Value)
    (hu : P.underlying dT = some (.slice elem)) (hs : (P.info? elem).map (·.size) = some k) (hn : n = Nat.min sLen dLen) (hl : cs.length = n * k)
    (hsrc : ∀ j v, cs[j]? = some v → w.cell? (a.add j) = some v) (hc : ∀ j, j < cs.length → (w.cell? ⟨b, o + j, none⟩).isSome = true) (hf : ∀ j, j < cs.length → w.frozen? ⟨b, o + j, none⟩ = false) (h1 : ∀ v ∈ cs, v.oneCell' = true) :
    (Builtin.copy_ #[dT, sT] ty #[.slice (some ⟨b, o, none⟩) dLen dCap, .slice (some a) sLen sCap]).run P w = .ok (goInt n) (w.setCells b o cs) := by
  have hld := run_loadCells_list (P := P) w a cs hsrc
  rw [hl] at hld
  have hst := run_storeCells_cells (P := P) b o cs 0 w (by simpa using hc) (by simpa using hf) h1
  cases hq : P.info? elem with
  | none => simp [hq] at hs
  | some i =>
    have hi : i.size = k := by simpa [hq] using hs
    simp [Builtin.copy_, run_underlying hu, Builtin.lenOf, Builtin.firstCells, sizeOf, typeInfo, hq, hi, ← hn, hld, hst]
end Go.Proofs


/- slices.Insert at one's own row. -/
set_option linter.unusedVariables false
set_option linter.unusedSimpArgs false
namespace Go.Am

/-- One more behind one's own, out of another block. -/
theorem Own.app1 {m0 m : Mem} {u n by_ : Nat} {cs xs : List Value} {v x : Value} (h : Own m0 m u n cs v) (hx : Ext m0 m) (hs : Sl m u 1 xs x) (h1 : oneCells xs = true) (hby : (n + 1) * by_ ≤ 2 ^ 47) (hn : n + 1 < 2 ^ 62) :
    ∃ v' m', aApp none u by_ m v x = some (v', m') ∧ Own m0 m' u (n + 1) (cs ++ xs) v' ∧ Ext m0 m' := by
  obtain ⟨hsrc, hlen⟩ := hs.src
  have hxl := hs.length
  cases h with
  | nil h hc =>
    subst h; subst hc
    refine ⟨.slice (some ⟨m.next, 0, none⟩) 1 1, m.new (.cells xs (some u)), ?_, ?_, hx.trans Ext.new⟩
    · simp only [aApp, hlen, Option.bind_some, hsrc, Nat.one_ne_zero, if_false]
      rw [if_pos ⟨by simpa using hby, by simp, h1⟩]
      rfl
    · rw [Nat.zero_add, List.nil_append]
      exact .at (all := xs) hx.next (by simp [Mem.new]) (Nat.le_refl _) (by simp [Mem.new]) hxl (by rw [← hxl, List.take_length]) h1
  | @«at» b c all hb hb2 hnc hm hl hcs hone =>
    by_cases hroom : n + 1 ≤ c
    · have hle : n * u + 1 * u ≤ c * u := by rw [← Nat.add_mul]; exact Nat.mul_le_mul_right _ hroom
      refine ⟨.slice (some ⟨b, 0, none⟩) (n + 1) c, m.set b (some (.cells (writeL all (n * u) xs) (some u))), ?_, ?_, hx.set hb⟩
      · simp only [aApp, hlen, Option.bind_some, hsrc, Nat.one_ne_zero, if_false, Nat.zero_add]
        rw [if_pos hroom]
        unfold aWrite
        rw [hm]
        simp only
        rw [if_pos ⟨by omega, h1⟩]; rfl
      · refine .at (all := writeL all (n * u) xs) hb (by simpa [Mem.set] using hb2) hroom (by simp [Mem.set]) ?_ ?_ (oneCells_append hone h1)
        · unfold writeL; simp; omega
        · unfold writeL
          rw [Nat.add_mul, List.append_assoc, List.take_append]
          have e : (all.take (n * u)).length = n * u := by simp; omega
          rw [e, List.take_of_length_le (by omega), show n * u + 1 * u - n * u = xs.length by omega, List.take_left, hcs]
    · have hcn : n = c := by omega
      subst hcn
      have hall : all.take (n * u) = all := by rw [← hl, List.take_length]
      rw [hall] at hcs
      subst hcs
      refine ⟨.slice (some ⟨m.next, 0, none⟩) (n + 1) (n + 1), (m.set b none).new (.cells (all ++ xs) (some u)), ?_, ?_, (hx.set hb).trans Ext.new⟩
      · simp only [aApp, hlen, Option.bind_some, hsrc, Nat.one_ne_zero, if_false, Nat.zero_add]
        rw [if_neg hroom, hm]
        simp only [List.drop_zero, hall]
        rw [if_pos ⟨hby, hn, h1, hone, Nat.le_refl _, by omega, .inr ⟨by first | rfl | trivial, .inr (by first | rfl | trivial)⟩⟩]
        simp only [Option.isSome_some, true_and, hl, if_true, place]
        rfl
      · refine .at (all := all ++ xs) (by have := hx.next; omega) (by simp [Mem.new, Mem.set]) (Nat.le_refl _) (by simp [Mem.new, Mem.set]) (by simp [hl, hxl, Nat.add_mul]) ?_ (oneCells_append hone h1)
        rw [Nat.add_mul, List.take_of_length_le (by simp; omega)]

theorem oneCells_ins {u i : Nat} {cs es : List Value} (h1 : oneCells cs = true) (h2 : oneCells es = true) : oneCells (insRow u i cs es) = true := by
  unfold insRow
  exact oneCells_append (oneCells_append (oneCells_sub h1 fun x hx => List.mem_of_mem_take hx) h2) (oneCells_sub h1 fun x hx => List.mem_of_mem_drop hx)

/-- One element into one's own row. -/
theorem insert_own {m0 m : Mem} {u n by_ q i : Nat} {cs es : List Value} {v : Value} (h : Own m0 m u n cs v) (hx : Ext m0 m) (hq : Bk m q es u) (hqv : q ∉ vb v) (he : es.length = u) (h1 : oneCells es = true) (hu : 0 < u) (hb0 : 0 < by_) (hby : (n + 1) * by_ ≤ 2 ^ 47) (hn : n < 1000000000) (hi : i ≤ n) :
    ∃ v' m', X.insert u by_ [v, .int .i64 i, .slice (some ⟨q, 0, none⟩) 1 1] m = some (v', m') ∧ Own m0 m' u (n + 1) (insRow u i cs es) v' ∧ Ext m0 m' := by
  have hs : Sl m u 1 es (.slice (some ⟨q, 0, none⟩) 1 1) := by
    refine .at (Nat.le_refl _) ?_
    unfold aCells
    rw [hq.at_]
    simp only [Nat.zero_add, List.drop_zero, Nat.one_mul]
    rw [if_pos (by omega), ← he, List.take_length]
  obtain ⟨v', m', e1, e2, e3⟩ := h.app1 (by_ := by_) hx hs h1 hby (by omega)
  have hcl := h.sl.length
  have hend : i = n → insRow u i cs es = cs ++ es := by
    rintro rfl
    unfold insRow
    rw [List.take_of_length_le (by omega), List.drop_of_length_le (by omega), List.append_nil]
  cases h with
  | nil hn0 hc =>
    subst hn0
    obtain rfl : i = 0 := by omega
    refine ⟨v', m', ?_, by rw [hend rfl]; exact e2, e3⟩
    simp only [X.insert]
    rw [if_pos (by rfl)]; exact e1
  | @«at» b c all hb hb2 hnc hm hl hcs hone =>
    by_cases hin : i = n
    · refine ⟨v', m', ?_, by rw [hend hin]; exact e2, e3⟩
      simp only [X.insert]
      rw [if_pos (by rw [hin])]; exact e1
    · have hnu : n * u ≤ c * u := Nat.mul_le_mul_right _ hnc
      have hqb : q ≠ b := fun e => hqv (by simp [vb, e])
      have hrow : (all.drop 0).take (n * u) = cs := by rw [List.drop_zero, hcs]
      have hx2 : (es.drop 0).take u = es := by rw [List.drop_zero, ← he, List.take_length]
      refine ⟨.slice (some ⟨m.next, 0, none⟩) (n + 1) (n + 1), (m.set b none).new (.cells (insRow u i cs es) (some u)), ?_, ?_, (hx.set hb).trans Ext.new⟩
      · simp only [X.insert]
        rw [if_neg (by omega), hm, hq.at_]
        simp only []
        rw [hrow, hx2, if_pos ⟨by first | rfl | trivial, hu, hb0, by omega, by omega, hqb, hnc, by omega, by omega, hn, by omega, hone, h1⟩, Int.toNat_natCast]
      · have hlen : (insRow u i cs es).length = (n + 1) * u := insRow_len hcl he (by omega)
        exact .at (all := insRow u i cs es) (by have := hx.next; omega) (by simp [Mem.new, Mem.set]) (Nat.le_refl _) (by simp [Mem.new, Mem.set]) hlen (by rw [← hlen, List.take_length]) (oneCells_ins hone h1)

theorem insRow_flat {α : Type} {f : α → List Value} {u i : Nat} {l : List α} {a : α} (hf : ∀ a, (f a).length = u) (hi : i ≤ l.length) : insRow u i (l.flatMap f) (f a) = (l.take i ++ a :: l.drop i).flatMap f := by
  unfold insRow
  have e : l.flatMap f = (l.take i).flatMap f ++ (l.drop i).flatMap f := by rw [← List.flatMap_append, List.take_append_drop]
  have hl : ((l.take i).flatMap f).length = i * u := by rw [flat_len hf, List.length_take]; congr 1; omega
  rw [e, List.take_left' hl, List.drop_left' hl]
  simp
end Go.Am


/- Cuts of slices. -/
set_option linter.unusedVariables false
set_option linter.unusedSimpArgs false
namespace Go.Am

/-- A slice that may be cut. -/
def Cut (u : Nat) (m : Mem) (v : Value) : Prop := ∀ b o n c, v = .slice (some ⟨b, o, none⟩) n c → unitOk u m b = true
theorem Cutable.cut {u : Nat} {m : Mem} {v : Value} (h : Cutable m v) : Cut u m v := fun b o n c e => by subst e; exact h.unit
theorem Own.cut {m0 m : Mem} {u n : Nat} {cs : List Value} {v : Value} (h : Own m0 m u n cs v) : Cut u m v := by
  intro b o n' c e
  cases h with
  | nil => cases e
  | «at» hb hb2 hn hm hl hcs h1 => cases e; exact unitOk_own hm
theorem Cut.keep {u : Nat} {m m' : Mem} {v : Value} (h : Cut u m v) (hb : SlLt m v) (hx : Ext m m') : Cut u m' v := by
  intro b o n c e
  have := h b o n c e
  subst e
  unfold unitOk at this ⊢
  rw [hx.same b hb]; exact this

theorem aCells_split {m : Mem} {b o n k : Nat} {cs : List Value} (h : aCells m b o n = some cs) (hk : k ≤ n) : aCells m b o k = some (cs.take k) ∧ aCells m b (o + k) (n - k) = some (cs.drop k) := by
  unfold aCells at h ⊢
  split at h
  · rename_i c w hm
    split at h
    · rename_i hle
      cases h
      constructor
      · rw [if_pos (by omega), List.take_take, Nat.min_eq_left hk]
      · rw [if_pos (by omega), ← List.drop_drop, List.drop_take]
    · cases h
  · cases h

theorem Sl.to {m : Mem} {u n : Nat} {cs : List Value} {v : Value} (h : Sl m u n cs v) (hc : Cut u m v) {k : IntKind} {i : Nat} (hi : i ≤ n) :
    ∃ v', aSub u m v none (some (.int k i)) none = some v' ∧ Sl m u i (cs.take (i * u)) v' ∧ (SlLt m v → SlLt m v') ∧ Cut u m v' := by
  cases h with
  | nil h hcs =>
    subst hcs
    have : i = 0 := by omega
    subst this
    exact ⟨.slice none 0 0, rfl, .nil rfl (by simp), id, fun _ _ _ _ e => by cases e⟩
  | @«at» b o c hnc h =>
    have hu := hc b o n c rfl
    refine ⟨.slice (some ⟨b, o, none⟩) i c, sub_to hu (by omega), .at (by omega) (aCells_split h (Nat.mul_le_mul_right _ hi)).1, id, fun _ _ _ _ e => by cases e; exact hu⟩

theorem Sl.from {m : Mem} {u n : Nat} {cs : List Value} {v : Value} (h : Sl m u n cs v) (hc : Cut u m v) {k : IntKind} {i : Nat} (hi : i ≤ n) :
    ∃ v', aSub u m v (some (.int k i)) none none = some v' ∧ Sl m u (n - i) (cs.drop (i * u)) v' ∧ (SlLt m v → SlLt m v') ∧ Cut u m v' := by
  cases h with
  | nil h hcs =>
    subst hcs
    have : i = 0 := by omega
    subst this
    exact ⟨.slice none 0 0, rfl, .nil (by omega) (by simp), id, fun _ _ _ _ e => by cases e⟩
  | @«at» b o c hnc h =>
    have hu := hc b o n c rfl
    refine ⟨.slice (some ⟨b, o + i * u, none⟩) (n - i) (c - i), sub_from hu hi hnc, .at (by omega) ?_, id, fun _ _ _ _ e => by cases e; exact hu⟩
    rw [Nat.sub_mul]
    exact (aCells_split h (Nat.mul_le_mul_right _ hi)).2

/-- Full: no room behind its last one. -/
def Full (v : Value) : Prop := ∀ a p q, v = .slice a p q → p = q
theorem app_full {u by_ : Nat} {m m' : Mem} {v v' x : Value} {k : Nat} (h : aApp none u by_ m v x = some (v', m')) (hk : sliceLen x = some k) (hf : Full v) : Full v' := by
  unfold aApp at h
  rw [hk] at h
  simp only [Option.bind_some] at h
  obtain ⟨xs, hx, h'⟩ := Option.bind_eq_some_iff.1 h
  clear h
  have h := h'
  clear h'
  split at h
  · split at h
    · cases h; intro a p q e; cases e; rfl
    · split at h
      · cases h; intro a p q e; cases e; rfl
      · cases h
  · rename_i b o l c
    have hlc : l = c := hf _ _ _ rfl
    split at h
    · split at h
      · cases h; intro a p q e; cases e; exact hlc
      · cases h
    · split at h
      · omega
      · split at h
        · split at h
          · cases h; intro a p q e; cases e; rfl
          · cases h
        · cases h
  · cases h
end Go.Am


/- One's own slice whose first block is older than what else is there: only that block, and newer ones, are touched. -/
set_option linter.unusedVariables false
set_option linter.unusedSimpArgs false
namespace Go.Am

theorem app_updA {at_ : Option Nat} {u by_ M : Nat} {m m' : Mem} {v v' x : Value} (h : aApp at_ u by_ m v x = some (v', m')) (ha : ∀ k, at_ = some k → M ≤ k) (hM : M ≤ m.next) :
    m.next ≤ m'.next ∧ (∀ b, b < M → b ∉ vb v → m'.blk b = m.blk b) ∧ (vb v' = vb v ∨ ∃ k, vb v' = [k] ∧ M ≤ k) := by
  have hpl : ∀ (m1 : Mem) (o : AObj), m1.next = m.next → m.next ≤ (place at_ m1 o).2.next ∧ (∀ b, b < M → (place at_ m1 o).2.blk b = m1.blk b) ∧ M ≤ (place at_ m1 o).1 := by
    intro m1 o h1
    unfold place
    split
    · refine ⟨by show m.next ≤ m1.next + 1; omega, fun b hb => ?_, by show M ≤ m1.next; omega⟩
      show (if b = m1.next then _ else _) = _
      rw [if_neg (by omega)]
    · rename_i k
      have := ha k rfl
      refine ⟨by show m.next ≤ m1.next; omega, fun b hb => ?_, this⟩
      show (if b = k then _ else _) = _
      rw [if_neg (by omega)]
  unfold aApp at h
  rw [Option.bind_eq_some_iff] at h
  obtain ⟨n, hn, h⟩ := h
  rw [Option.bind_eq_some_iff] at h
  obtain ⟨xs, hxs, h⟩ := h
  split at h
  · split at h
    · cases h; exact ⟨Nat.le_refl _, fun _ _ _ => rfl, .inl rfl⟩
    · split at h
      · obtain ⟨p1, p2, p3⟩ := hpl m (.cells xs (some u)) rfl
        generalize place at_ m (.cells xs (some u)) = P at h p1 p2 p3
        obtain ⟨b, m1⟩ := P
        cases h
        exact ⟨p1, fun b hb _ => p2 b hb, .inr ⟨_, rfl, p3⟩⟩
      · cases h
  · rename_i b o l c
    split at h
    · split at h
      · cases h; exact ⟨Nat.le_refl _, fun _ _ _ => rfl, .inl rfl⟩
      · cases h
    · split at h
      · rw [Option.map_eq_some_iff] at h
        obtain ⟨m1, h1, h2⟩ := h
        cases h2
        obtain ⟨a1, a2⟩ := aWrite_upd h1
        refine ⟨by omega, fun x hx hn => ?_, .inl rfl⟩
        exact a1.same x (by omega) hn
      · split at h
        · rename_i cs own hb
          split at h
          · have hs : ∀ c : Bool, (if c = true then m.set b none else m).next = m.next ∧ ∀ x, x ≠ b → (if c = true then m.set b none else m).blk x = m.blk x := by
              intro c
              cases c
              · exact ⟨rfl, fun _ _ => rfl⟩
              · refine ⟨rfl, fun x hx => ?_⟩
                show (if x = b then _ else _) = _
                rw [if_neg hx]
            simp only [] at h
            generalize hm1 : (if own.isSome = true ∧ o + c * u = cs.length then m.set b none else m) = m1 at h
            have hs1 : m1.next = m.next ∧ ∀ x, x ≠ b → m1.blk x = m.blk x := by
              rw [← hm1]
              split
              · exact hs true
              · exact hs false
            obtain ⟨p1, p2, p3⟩ := hpl m1 (.cells (List.take (l * u) (List.drop o cs) ++ xs) (some u)) hs1.1
            generalize place at_ m1 (.cells (List.take (l * u) (List.drop o cs) ++ xs) (some u)) = P at h p1 p2 p3
            obtain ⟨b', m2⟩ := P
            cases h
            refine ⟨p1, fun x hx hn => ?_, .inr ⟨_, rfl, p3⟩⟩
            rw [p2 x hx, hs1.2 x (by intro e; apply hn; simp [vb, e])]
          · cases h
        · cases h
  · cases h

theorem Own.ge {m0 m : Mem} {u n : Nat} {cs : List Value} {v : Value} (h : Own m0 m u n cs v) : ∀ b ∈ vb v, m0.next ≤ b := by
  cases h with
  | nil => intro b hb; simp [vb] at hb
  | «at» hb hb2 hn hm hl hcs h1 => intro b' hb'; simp [vb] at hb'; subst hb'; exact hb

structure OwnQ (m0 mb m : Mem) (q u n : Nat) (cs : List Value) (v : Value) : Prop where
  own : Own m0 m u n cs v
  upd : Upd mb m [q]
  at_ : ∀ b ∈ vb v, b = q ∨ mb.next ≤ b
  ext : Ext m0 m

variable {m0 mb m m' : Mem} {q u n : Nat} {cs : List Value} {v : Value}
theorem OwnQ.keep (h : OwnQ m0 mb m q u n cs v) (hx : Ext m m') : OwnQ m0 mb m' q u n cs v :=
  ⟨h.own.keep hx, h.upd.trans hx.upd (fun _ h => h) (fun _ h => .inl h), h.at_, h.ext.trans hx⟩

theorem OwnQ.app {by_ : Nat} {es : List Value} (h : OwnQ m0 mb m q u n cs v) (hu : 0 < u) (he : es.length = u) (h1 : oneCells es = true) (hby : (n + 1) * by_ ≤ 2 ^ 47) (hn : n + 1 < 2 ^ 62) :
    ∃ v' m', aApp none u by_ (m.new (.cells es (some u))) v (.slice (some ⟨m.next, 0, none⟩) 1 1) = some (v', m') ∧ OwnQ m0 mb m' q u (n + 1) (cs ++ es) v' := by
  obtain ⟨v', m', e1, e2, e3⟩ := h.own.app (by_ := by_) h.ext hu he h1 hby hn
  have hx : Ext m (m.new (.cells es (some u))) := Ext.new
  obtain ⟨a1, a2, a3⟩ := app_updA (M := (m.new (.cells es (some u))).next) e1 (fun k hk => by cases hk) (Nat.le_refl _)
  refine ⟨v', m', e1, e2, ?_, fun b hb => ?_, e3⟩
  · have hk := h.keep hx
    refine ⟨Nat.le_trans hk.upd.next a1, fun b hb hn => ?_⟩
    have hb2 := hk.upd.next
    rw [a2 b (by omega) (fun hm => by exact (h.at_ b hm).elim (fun e => hn (by simp [e])) (fun e => by omega)), hk.upd.same b hb hn]
  · have := h.upd.next
    have := hx.next
    rcases a3 with e | ⟨k, e, hk⟩
    · rw [e] at hb; exact h.at_ b hb
    · rw [e] at hb; simp at hb; subst hb; exact .inr (by omega)

theorem OwnQ.appD {by_ N s t : Nat} {es : List Value} (h : OwnQ m0 mb m q u n cs v) (he : es.length = u) (h1 : oneCells es = true) (hby : (n + 1) * by_ ≤ 2 ^ 47) (hn : n + 1 < 2 ^ 62) (hs : s < N) (ht : t < N) :
    ∃ v' m', aApp (some (m.next + t)) u by_ ((m.bump N).set (m.next + s) (some (.cells es (some u)))) v (.slice (some ⟨m.next + s, 0, none⟩) 1 1) = some (v', m') ∧ OwnQ m0 mb m' q u (n + 1) (cs ++ es) v' := by
  obtain ⟨v', m', e1, e2, e3⟩ := h.own.appD (by_ := by_) h.ext he h1 hby hn hs ht
  have hx : Ext m ((m.bump N).set (m.next + s) (some (.cells es (some u)))) := Ext.set ⟨by simp, fun b hb => rfl⟩ (by omega)
  obtain ⟨a1, a2, a3⟩ := app_updA (M := m.next) e1 (fun k hk => by cases hk; omega) hx.next
  refine ⟨v', m', e1, e2, ?_, fun b hb => ?_, e3⟩
  · have hk := h.keep hx
    refine ⟨Nat.le_trans hk.upd.next a1, fun b hb hn => ?_⟩
    have hb2 := h.upd.next
    rw [a2 b (by omega) (fun hm => by exact (h.at_ b hm).elim (fun e => hn (by simp [e])) (fun e => by omega)), hk.upd.same b hb hn]
  · have := h.upd.next
    rcases a3 with e | ⟨k, e, hk⟩
    · rw [e] at hb; exact h.at_ b hb
    · rw [e] at hb; simp at hb; subst hb; exact .inr (by omega)

theorem OwnQ.put {w : Value} {k : IntKind} {i o : Nat} (h : OwnQ m0 mb m q u n cs v) (hi : i < n) (ho : o < u) (hw : w.cells = #[w]) (hone : w.oneCell' = true) :
    ∃ b m', aIdxS u v (.int k i) = some (.pointer (some ⟨b, i * u, none⟩)) ∧ aStore 1 m (.pointer (some ⟨b, i * u + o, none⟩)) w = some m' ∧ OwnQ m0 mb m' q u n (cs.set (i * u + o) w) v := by
  obtain ⟨b, m', e1, e2, e3, e4⟩ := h.own.put (k := k) h.ext hi ho hw hone
  refine ⟨b, m', e1, e2, e3, ?_, h.at_, e4⟩
  have hbv : b ∈ vb v := by
    cases h.own with
    | nil h hc => omega
    | @«at» b2 c all hb hb2 hn hm hl hcs h1 =>
      simp only [aIdxS] at e1
      split at e1
      · have e1 := Option.some.inj e1
        simp only [Value.pointer.injEq, Option.some.injEq, Addr.mk.injEq] at e1
        rw [← e1.1]; simp [vb]
      · cases e1
  have hw' : aWrite m b (i * u + o) w.cells.toList = some m' := by
    simp only [aStore] at e2
    split at e2
    · exact e2
    · cases e2
  obtain ⟨a1, a2⟩ := aWrite_upd hw'
  refine ⟨by have := h.upd.next; omega, fun x hx hn => ?_⟩
  have := h.upd.next
  rw [a1.same x (by omega) (by simp; intro e; subst e; exact (h.at_ x hbv).elim (fun e => hn (by simp [e])) (fun e => by omega)), h.upd.same x hx hn]
end Go.Am


/- PlanZ1 over the table of diff (relayset.py). -/
set_option linter.unusedVariables false
set_option linter.unusedSimpArgs false
namespace Go.Am
open Classical
variable {m : Mem}

/-- A place with where its pieces lie. -/
structure PE where
  pl : Pl
  pv : Value
  one : pv.oneCell' = true
def peV (e : PE) : List Value := plV e.pl e.pv
theorem peV_len (e : PE) : (peV e).length = 4 := rfl
theorem peV_one (e : PE) : oneCells (peV e) = true := by
  unfold peV plV oneCells
  simp [e.one]
  exact ⟨rfl, rfl, rfl⟩

/-- Places in a row of one's own. -/
structure OwnPls (m0 m : Mem) (l : List PE) (v : Value) : Prop where
  own : Own m0 m 4 l.length (l.flatMap peV) v
  el : ∀ e ∈ l, PcV m e.pl.pieces e.pv ∧ ∀ b ∈ vb e.pv, b ∉ vb v
  ext : Ext m0 m
theorem OwnPls.keep {m0 m m' : Mem} {l : List PE} {v : Value} (h : OwnPls m0 m l v) (hx : Ext m m') : OwnPls m0 m' l v :=
  ⟨h.own.keep hx, fun e he => ⟨(h.el e he).1.keep hx, (h.el e he).2⟩, h.ext.trans hx⟩
theorem PcV.upd {m m' : Mem} {l : List Pc} {v : Value} {fp : List Nat} (h : PcV m l v) (hx : Upd m m' fp) (ho : ∀ b ∈ vb v, b ∉ fp) : PcV m' l v :=
  ⟨h.1.upd h.2 (SlOff.vb_iff.2 ho) hx, h.2.upd hx⟩
theorem OwnPls.updq {m0 m m' : Mem} {l : List PE} {v : Value} {fp : List Nat} (h : OwnPls m0 m l v) (hx : Upd m m' fp) (h1 : ∀ b ∈ vb v, b ∉ fp) (h2 : ∀ e ∈ l, ∀ b ∈ vb e.pv, b ∉ fp) (h3 : ∀ x ∈ fp, m0.next ≤ x) : OwnPls m0 m' l v :=
  ⟨h.own.updq hx h1, fun e he => ⟨(h.el e he).1.upd hx (h2 e he), (h.el e he).2⟩, hx.ext_of h.ext h3⟩
theorem OwnPls.weak {m0 m1 m : Mem} {l : List PE} {v : Value} (h : OwnPls m1 m l v) (hx : Ext m0 m1) : OwnPls m0 m l v := ⟨h.own.weak hx, h.el, hx.trans h.ext⟩
theorem OwnPls.pls {m0 m : Mem} {l : List PE} {v : Value} (h : OwnPls m0 m l v) : PlsV m (l.map PE.pl) v := by
  refine ⟨l.flatMap peV, by rw [List.length_map]; exact h.own.sl, h.own.lt, fun i hi => ?_⟩
  have hi' : i < l.length := by simpa using hi
  refine ⟨l[i].pv, ?_, ?_⟩
  · rw [flat_drop peV_len hi']; simp [peV]
  · have := (h.el _ (List.getElem_mem hi')).1
    simpa using this

theorem OwnPls.app {m0 m : Mem} {l : List PE} {v : Value} {e : PE} (h : OwnPls m0 m l v) (hp : PcV m e.pl.pieces e.pv) (ho : ∀ b ∈ vb e.pv, b ∉ vb v) (hl : l.length < 1000000) :
    ∃ v' m', aApp none 4 48 (m.new (.cells (peV e) (some 4))) v (.slice (some ⟨m.next, 0, none⟩) 1 1) = some (v', m') ∧ OwnPls m0 m' (l ++ [e]) v' := by
  obtain ⟨v', m', e1, e2, e3⟩ := h.own.app (by_ := 48) (es := peV e) h.ext (by omega) rfl (peV_one e) (by omega) (by omega)
  have hx : Ext m (m.new (.cells (peV e) (some 4))) := Ext.new
  obtain ⟨a1, a2, a3⟩ := app_updA (M := (m.new (.cells (peV e) (some 4))).next) e1 (fun k hk => by cases hk) (Nat.le_refl _)
  have hn := hx.next
  have key : ∀ pc pv, PcV m pc pv → (∀ b ∈ vb pv, b ∉ vb v) → PcV m' pc pv ∧ ∀ b ∈ vb pv, b ∉ vb v' := fun pc pv h1 h2 => by
    have hlt := SlLt.vb_iff.1 h1.2
    refine ⟨(h1.keep hx).upd (fp := vb v) ⟨a1, fun b hb hnb => a2 b hb hnb⟩ h2, fun b hb hm => ?_⟩
    rcases a3 with e | ⟨k, e, hk⟩
    · rw [e] at hm; exact h2 b hb hm
    · rw [e] at hm
      simp at hm
      have := hlt b hb
      omega
  refine ⟨v', m', e1, ⟨?_, fun x hx' => ?_, e3⟩⟩
  · rw [List.length_append, List.flatMap_append]; simpa using e2
  · rcases List.mem_append.1 hx' with hx' | hx'
    · exact key _ _ (h.el x hx').1 (h.el x hx').2
    · rw [List.mem_singleton.1 hx']
      exact key _ _ hp ho


/-- A row of places, all of whose blocks are new. -/
structure NewPls (m0 m : Mem) (l : List PE) (v : Value) : Prop where
  pls : OwnPls m0 m l v
  new : ∀ e ∈ l, ∀ b ∈ vb e.pv, m0.next ≤ b
theorem NewPls.keep {m0 m m' : Mem} {l : List PE} {v : Value} (h : NewPls m0 m l v) (hx : Ext m m') : NewPls m0 m' l v := ⟨h.pls.keep hx, h.new⟩
theorem NewPls.weak {m0 m1 m : Mem} {l : List PE} {v : Value} (h : NewPls m1 m l v) (hx : Ext m0 m1) : NewPls m0 m l v := ⟨h.pls.weak hx, fun e he b hb => by have := h.new e he b hb; have := hx.next; omega⟩
theorem NewPls.old {m0 m m' : Mem} {l : List PE} {v : Value} {fp : List Nat} (h : NewPls m0 m l v) (hx : Upd m m' fp) (hf : ∀ x ∈ fp, x < m0.next) : OwnPls m0 m' l v ∨ True := .inr trivial
theorem plV_one {x : Pl} {w : Value} (h : w.oneCell' = true) : oneCells (plV x w) = true := by
  unfold plV oneCells
  simp [h]
  exact ⟨rfl, rfl, rfl⟩

theorem make0 {u by_ : Nat} {z : List Value} {m : Mem} {n : Nat} (h1 : n < 2 ^ 62) (h2 : n * by_ ≤ 2 ^ 47) (hz : z.length = u) (ho : oneCells z = true) :
    aMake none u by_ z m (.int .i64 0) (.int .i64 n) = some (.slice (some ⟨m.next, 0, none⟩) 0 n, m.new (.cells (zeros z n) (some u))) := by
  simp only [aMake, place]
  rw [if_pos ⟨by omega, by omega, by omega, by omega, hz, ho⟩, Int.toNat_natCast]
  rfl
theorem zeros_len {z : List Value} {n : Nat} : (zeros z n).length = n * z.length := by
  induction n with
  | zero => simp [zeros]
  | succ n ih => simp [zeros, ih, Nat.succ_mul]; omega

theorem new0 {m : Mem} {cs : List Value} {n : Nat} (h : cs.length = n * 4) (hx : Ext m (m.new (.cells cs (some 4)))) : NewPls m (m.new (.cells cs (some 4))) [] (.slice (some ⟨m.next, 0, none⟩) 0 n) := by
  refine ⟨⟨.at (all := cs) (Nat.le_refl _) (by simp [Mem.new]) (Nat.zero_le _) (by simp [Mem.new]) h ?_ rfl, (fun e he => by simp at he), hx⟩, (fun e he => by simp at he)⟩
  show cs.take (0 * 4) = []
  rw [Nat.zero_mul]; rfl

theorem mk_rule {R : Nat → Option FEnt} {e : Env} {m : Mem} {u b k : Nat} {z : List Value} {a v : Value} {Q : Value → Mem → Prop} (h : Env.get e k = some v) :
    gpA R none e m (.mkslice u b z (.c a) (.t k)) Q = Got (aMake none u b z m a v) fun r => Q r.1 r.2 := by
  rw [a_mkslice, act_mkslice, ev_c, ev_t, h, Option.bind_some, Option.bind_some]
end Go.Am


/- PlanZ2 over the table of diff (relayset.py). -/
set_option linter.unusedVariables false
set_option linter.unusedSimpArgs false
namespace Go.Am
open Classical
variable {m : Mem}

theorem insert_upd {u by_ : Nat} {m m' : Mem} {v v' : Value} {i : Int} {q : Nat} (h : X.insert u by_ [v, .int .i64 i, .slice (some ⟨q, 0, none⟩) 1 1] m = some (v', m')) :
    Upd m m' (vb v) ∧ (vb v' = vb v ∨ ∃ k, vb v' = [k] ∧ m.next ≤ k) := by
  have key : ∀ x, aApp none u by_ m v x = some (v', m') → Upd m m' (vb v) ∧ (vb v' = vb v ∨ ∃ k, vb v' = [k] ∧ m.next ≤ k) := fun x hx => by
    obtain ⟨a1, a2, a3⟩ := app_updA (M := m.next) hx (fun k hk => by cases hk) (Nat.le_refl _)
    exact ⟨⟨a1, a2⟩, a3⟩
  unfold X.insert at h
  split at h
  · rename_i e
    simp only [List.cons.injEq] at e
    obtain ⟨rfl, -, -⟩ := e
    split at h
    · exact key _ h
    · cases h
  · rename_i e
    simp only [List.cons.injEq] at e
    obtain ⟨rfl, -, -⟩ := e
    split at h
    · exact key _ h
    · split at h
      · split at h
        · cases h
          exact ⟨(Upd.set (by simp [vb])).new_of, .inr ⟨_, rfl, Nat.le_refl _⟩⟩
        · cases h
      · cases h
  · cases h

theorem NewPls.ins {m0 m : Mem} {l : List PE} {v : Value} {e : PE} {q i : Nat} (h : NewPls m0 m l v) (hq : Bk m q (peV e) 4) (hqv : q ∉ vb v) (hp : PcV m e.pl.pieces e.pv) (ho : ∀ b ∈ vb e.pv, b ∉ vb v ∧ m0.next ≤ b) (hl : l.length < 100000) (hi : i ≤ l.length) :
    ∃ v' m', X.insert 4 48 [v, .int .i64 i, .slice (some ⟨q, 0, none⟩) 1 1] m = some (v', m') ∧ NewPls m0 m' (l.take i ++ e :: l.drop i) v' ∧ Upd m m' (vb v) ∧ (vb v' = vb v ∨ ∃ k, vb v' = [k] ∧ m.next ≤ k) := by
  obtain ⟨v', m', e1, e2, e3⟩ := insert_own (u := 4) (by_ := 48) (i := i) h.pls.own h.pls.ext hq hqv rfl (peV_one e) (by omega) (by omega) (by omega) (by omega) hi
  obtain ⟨u1, u2⟩ := insert_upd e1
  have key : ∀ pc pv, PcV m pc pv → (∀ b ∈ vb pv, b ∉ vb v) → PcV m' pc pv ∧ ∀ b ∈ vb pv, b ∉ vb v' := fun pc pv h1 h2 => by
    have hlt := SlLt.vb_iff.1 h1.2
    refine ⟨h1.upd u1 h2, fun b hb hm => ?_⟩
    rcases u2 with e | ⟨k, e, hk⟩
    · rw [e] at hm; exact h2 b hb hm
    · rw [e] at hm
      simp at hm
      have := hlt b hb
      omega
  refine ⟨v', m', e1, ⟨⟨?_, fun x hx' => ?_, e3⟩, fun x hx' => ?_⟩, u1, u2⟩
  · rw [insRow_flat peV_len hi] at e2
    have : (l.take i ++ e :: l.drop i).length = l.length + 1 := by simp; omega
    rw [this]; exact e2
  · rcases List.mem_append.1 hx' with hx' | hx'
    · exact key _ _ (h.pls.el x (List.mem_of_mem_take hx')).1 (h.pls.el x (List.mem_of_mem_take hx')).2
    · rcases List.mem_cons.1 hx' with rfl | hx'
      · exact key _ _ hp fun b hb => (ho b hb).1
      · exact key _ _ (h.pls.el x (List.mem_of_mem_drop hx')).1 (h.pls.el x (List.mem_of_mem_drop hx')).2
  · rcases List.mem_append.1 hx' with hx' | hx'
    · exact h.new x (List.mem_of_mem_take hx')
    · rcases List.mem_cons.1 hx' with rfl | hx'
      · exact fun b hb => (ho b hb).2
      · exact h.new x (List.mem_of_mem_drop hx')

theorem map_eraseIdx' {α β : Type} {f : α → β} : ∀ {l : List α} {k : Nat}, (l.eraseIdx k).map f = (l.map f).eraseIdx k
  | [], _ => rfl
  | _ :: _, 0 => rfl
  | a :: l, k + 1 => by simp only [List.eraseIdx_cons_succ, List.map_cons, map_eraseIdx']

def dropU (l : List Pl) (u : Int) : List Pl := l.filter fun x => decide (x.unit ≠ u)
theorem dropU_not {l : List Pl} {u : Int} (h : ∀ k (hk : k < l.length), l[k].unit ≠ u) : dropU l u = l := by
  unfold dropU
  rw [List.filter_eq_self]
  intro x hx
  obtain ⟨k, hk, rfl⟩ := List.getElem_of_mem hx
  exact decide_eq_true (h k hk)
theorem dropU_at {l : List Pl} {u : Int} {k : Nat} (ha : Asc l) (hk : k < l.length) (hu : l[k].unit = u) : dropU l u = l.eraseIdx k := by
  have e0 : l = l.take k ++ l[k] :: l.drop (k + 1) := by rw [← List.drop_eq_getElem_cons hk, List.take_append_drop]
  unfold dropU
  rw [List.eraseIdx_eq_take_drop_succ]
  conv => lhs; rw [e0]
  rw [List.filter_append, List.filter_cons, if_neg (by simp [hu]), List.filter_eq_self.2, List.filter_eq_self.2]
  · intro x hx
    obtain ⟨t, ht, rfl⟩ := List.getElem_of_mem hx
    rw [List.getElem_drop]
    rw [List.length_drop] at ht
    have := ha k (k + 1 + t) (by omega) (by omega)
    exact decide_eq_true (by omega)
  · intro x hx
    obtain ⟨t, ht, rfl⟩ := List.getElem_of_mem hx
    rw [List.getElem_take]
    rw [List.length_take] at ht
    have := ha t k (by omega) hk
    exact decide_eq_true (by omega)
theorem Asc.filter {l : List Pl} (h : Asc l) (f : Pl → Bool) : Asc (l.filter f) := by
  have hp : l.Pairwise fun a b => a.unit < b.unit := List.pairwise_iff_getElem.2 fun i j hi hj hij => h i j hij hj
  intro i j hij hj
  exact List.pairwise_iff_getElem.1 (hp.filter f) i j (by omega) hj hij

/-- Stores into boxes leave a row of new blocks. -/
theorem NewPls.box {m0 m m' : Mem} {l : List PE} {v : Value} {fp : List Nat} (h : NewPls m0 m l v) (hx : Upd m m' fp) (h1 : ∀ x ∈ fp, m0.next ≤ x) (h2 : ∀ x ∈ fp, x ∉ vb v) (h3 : ∀ x ∈ fp, ∀ e ∈ l, x ∉ vb e.pv) : NewPls m0 m' l v :=
  ⟨h.pls.updq hx (fun b hb hf => h2 b hf hb) (fun e he b hb hf => h3 b hf e he hb) h1, h.new⟩
/-- Blocks below it, or behind what it was told at. -/
theorem NewPls.out {m0 m : Mem} {l : List PE} {v : Value} (h : NewPls m0 m l v) {x : Nat} (hx : x < m0.next ∨ m.next ≤ x) : x ∉ vb v ∧ ∀ e ∈ l, x ∉ vb e.pv := by
  refine ⟨fun hb => ?_, fun e he hb => ?_⟩
  · have := h.pls.own.ge x hb
    have := (SlLt.vb_iff.1 h.pls.own.lt) x hb
    omega
  · have := h.new e he x hb
    have := (SlLt.vb_iff.1 (h.pls.el e he).1.2) x hb
    omega

theorem plan_of {p : PlanD} {l : List PE} {m0 m : Mem} {lv : Value} (h : NewPls m0 m l lv) : PlanV m ⟨p.frame, p.cores, l.map PE.pl⟩ (.agg #[.int .i64 p.frame, u32 p.cores, lv]) := ⟨lv, rfl, h.pls.pls⟩
theorem slice_of {m0 m : Mem} {u n : Nat} {cs : List Value} {v : Value} (h : Own m0 m u n cs v) : ∃ a n c, v = .slice a n c := by cases h <;> exact ⟨_, _, _, rfl⟩
end Go.Am


/- PlanZ3 over the table of diff (relayset.py). -/
set_option linter.unusedVariables false
set_option linter.unusedSimpArgs false
namespace Go.Am
open Classical
variable {m : Mem}
end Go.Am


/- PlanZ4 over the table of diff (relayset.py). -/
set_option linter.unusedVariables false
set_option linter.unusedSimpArgs false
namespace Go.Am
open Classical
variable {m : Mem}

/-- A row of places as it lies. -/
structure RowE (m : Mem) (l : List PE) (v : Value) : Prop where
  sl : Sl m 4 l.length (l.flatMap peV) v
  lt : SlLt m v
theorem RowE.keep {m m' : Mem} {l : List PE} {v : Value} (h : RowE m l v) (hx : Ext m m') : RowE m' l v := ⟨h.sl.keep h.lt hx, h.lt.keep hx⟩
theorem RowE.upd {m m' : Mem} {l : List PE} {v : Value} {fp : List Nat} (h : RowE m l v) (hx : Upd m m' fp) (ho : ∀ b ∈ vb v, b ∉ fp) : RowE m' l v := ⟨h.sl.upd h.lt (SlOff.vb_iff.2 ho) hx, h.lt.upd hx⟩
theorem RowE.slice {m : Mem} {l : List PE} {v : Value} (h : RowE m l v) : ∃ a n c, v = .slice a n c := by cases h.sl <;> exact ⟨_, _, _, rfl⟩
theorem Own.rowE {m0 m : Mem} {l : List PE} {v : Value} (h : Own m0 m 4 l.length (l.flatMap peV) v) : RowE m l v := ⟨h.sl, h.lt⟩
/-- The places behind a row as it lies. -/
theorem RowE.pls {m : Mem} {l : List PE} {v : Value} (h : RowE m l v) (hp : ∀ e ∈ l, PcV m e.pl.pieces e.pv) : PlsV m (l.map PE.pl) v := by
  refine ⟨l.flatMap peV, by rw [List.length_map]; exact h.sl, h.lt, fun i hi => ?_⟩
  have hi' : i < l.length := by simpa using hi
  refine ⟨l[i].pv, ?_, ?_⟩
  · rw [flat_drop peV_len hi']; simp [peV]
  · have := hp _ (List.getElem_mem hi')
    simpa using this
theorem rowE_of {m : Mem} {l : List Pl} {v : Value} (h : PlsV m l v) : ∃ le : List PE, le.map PE.pl = l ∧ RowE m le v ∧ ∀ e ∈ le, PcV m e.pl.pieces e.pv := by
  obtain ⟨cs, h1, h2, h3⟩ := h
  obtain ⟨le, hle, hP⟩ := list_choice (P := fun i (e : PE) => ∃ h : i < l.length, e.pl = l[i] ∧ (cs.drop (i * 4)).take 4 = peV e ∧ PcV m e.pl.pieces e.pv) (n := l.length) (fun i hi => by
    obtain ⟨pv, a, b⟩ := h3 i hi
    exact ⟨⟨l[i], pv, b.one⟩, hi, rfl, a, b⟩)
  have hm : le.map PE.pl = l := by
    apply List.ext_getElem
    · rw [List.length_map, hle]
    · intro i h1 h2
      rw [List.getElem_map]
      obtain ⟨_, e, _⟩ := hP i (by simpa using h1)
      exact e
  refine ⟨le, hm, ⟨?_, h2⟩, fun e he => ?_⟩
  · have hc : cs = le.flatMap peV := by
      have hcl := h1.length
      have hfl : (le.flatMap peV).length = l.length * 4 := by rw [flat_len peV_len, hle]
      apply List.ext_getElem (by rw [hcl, hfl])
      intro i hi hi2
      have hq : i / 4 < le.length := by rw [hle]; omega
      obtain ⟨_, _, e, _⟩ := hP (i / 4) hq
      have e2 := flat_drop peV_len hq
      rw [← e2] at e
      have g1 : ((cs.drop (i / 4 * 4)).take 4)[i % 4]? = cs[i]? := by
        rw [List.getElem?_take_of_lt (by omega), List.getElem?_drop, show i / 4 * 4 + i % 4 = i by omega]
      have g2 : (((le.flatMap peV).drop (i / 4 * 4)).take 4)[i % 4]? = (le.flatMap peV)[i]? := by
        rw [List.getElem?_take_of_lt (by omega), List.getElem?_drop, show i / 4 * 4 + i % 4 = i by omega]
      rw [e, g2] at g1
      rw [List.getElem?_eq_getElem hi, List.getElem?_eq_getElem hi2] at g1
      exact (Option.some.inj g1).symm
    rw [hle, ← hc]; exact h1
  · obtain ⟨i, hi, rfl⟩ := List.getElem_of_mem he
    obtain ⟨_, _, _, b⟩ := hP i hi
    exact b

def dropE (l : List PE) (u : Int) : List PE := l.filter fun e => decide (e.pl.unit ≠ u)
theorem dropE_succ {l : List PE} {u : Int} {i : Nat} (hi : i < l.length) : dropE (l.take (i + 1)) u = dropE (l.take i) u ++ (if l[i].pl.unit ≠ u then [l[i]] else []) := by
  unfold dropE
  rw [List.take_succ_eq_append_getElem hi, List.filter_append, List.filter_cons]
  by_cases h : l[i].pl.unit = u <;> simp [h]
theorem dropE_len {l : List PE} {u : Int} {i : Nat} : (dropE (l.take i) u).length ≤ i := by
  unfold dropE
  exact Nat.le_trans (List.length_filter_le ..) (by rw [List.length_take]; omega)
theorem dropE_map {l : List PE} {u : Int} : (dropE l u).map PE.pl = dropU (l.map PE.pl) u := by
  unfold dropE dropU
  rw [List.filter_map]; rfl

theorem peV_flat {l : List PE} : oneCells (l.flatMap peV) = true := by
  unfold oneCells
  rw [List.all_eq_true]
  intro x hx
  obtain ⟨y, _, hy⟩ := List.mem_flatMap.1 hx
  have := peV_one y
  unfold oneCells at this
  exact List.all_eq_true.1 this x hy
end Go.Am
