/- Parts of the proofs of the statements of this seat: DiffV7, WDiffSelf. No conditions. -/
import Derived.Test.YtlnkingbeabmlaaDiffSelfPart8
set_option linter.unusedVariables false
set_option linter.unusedSimpArgs false

/- Diff: the law DiffSelf. -/
set_option linter.unusedVariables false
set_option linter.unusedSimpArgs false
namespace Go.Am
open Classical
variable {m : Mem}

theorem units_comm {a b : List Pl} : ∀ n, unitsL a b n = unitsL b a n
  | 0 => rfl
  | n + 1 => by
    unfold unitsL
    rw [units_comm n]
    simp only [or_comm]
theorem cell_comm {x y : Pl} {c : Int} : cellN x y c 64 = cellN y x c 64 := by
  unfold cellN
  refine List.countP_congr fun t _ => ?_
  simp only [decide_eq_true_eq]
  exact ⟨fun h e => h e.symm, fun h e => h e.symm⟩
theorem row_comm {x y : Pl} (j : Nat) : rowN x y j = rowN y x j := by
  unfold rowN
  have e : (fun c : Nat => cellN x y c 64) = fun c : Nat => cellN y x c 64 := by funext c; exact cell_comm
  rw [e]
theorem shSum_comm {a b : List Pl} : shSum a b (unitsL a b 1040) = shSum b a (unitsL b a 1040) := by
  rw [units_comm (a := b) (b := a)]
  unfold shSum
  have e : (fun u => rowN (findP a u) (findP b u) 16) = fun u => rowN (findP b u) (findP a u) 16 := by funext u; exact row_comm 16
  rw [e]
theorem refMov_comm {x y : Pl} : refMov x y ↔ refMov y x := by
  unfold refMov
  constructor
  all_goals
    rintro ⟨c, hc, h | ⟨t, ht, h⟩⟩
    · exact ⟨c, hc, .inl fun e => h e.symm⟩
    · exact ⟨c, hc, .inr ⟨t, ht, fun e => h e.symm⟩⟩
theorem moved_comm {a b : List Pl} : listL (isU0 a b) a b = listL (isU0 b a) b a := by
  unfold listL
  rw [units_comm (a := b) (b := a)]
  refine List.filter_congr fun u _ => ?_
  unfold isU0
  have : decide (refMov (findP a u) (findP b u)) = decide (refMov (findP b u) (findP a u)) := decide_eq_decide.2 refMov_comm
  rw [this]
  cases decide (hasU a u) <;> cases decide (hasU b u) <;> simp
theorem came_gone {a b : List Pl} : listL (isU1 a b) a b = listL (isU2 b a) b a := by
  unfold listL
  rw [units_comm (a := b) (b := a)]
  exact List.filter_congr fun u _ => rfl
theorem moved_self {l : List PE} : someL l l MovP = [] := by
  unfold someL
  rw [List.filter_eq_nil_iff]
  intro u _
  unfold MovP movP
  simp
theorem cha_self {l : List PE} : someL l l ChaP = [] := by
  unfold someL
  rw [List.filter_eq_nil_iff]
  intro u _
  unfold ChaP
  simp

set_option maxHeartbeats 8000000 in
theorem DiffSelf_spec {a b : PlanD} {v w : Value} (hv : PlanV m a v) (hw : PlanV m b w) : WC R F.law22_DiffSelf [v, w] m fun r m' => r = .bool true := by
  refine WC.of R.law22_DiffSelf rfl ?_
  obtain ⟨pv, rfl, hp⟩ := hv
  obtain ⟨qv, rfl, hq⟩ := hw
  simp only [RC.law22_DiffSelf, planV, go_sem, Int.reduceBEq, Int.reduceBNe, Int.reduceNeg, reduceCtorEq, Nat.reduceEqDiff, Nat.reduceAdd, Nat.reduceLeDiff, Nat.reduceMul, Nat.reduceSub, Int.reduceToNat, Int.reduceLT, Int.reduceLE, hp.one, hq.one]
  have hx1 : Ext m (m.new (.cells [.int .i64 a.frame, u32 a.cores, pv] (some 3))) := Ext.new
  have hb1 : Bk (m.new (.cells [.int .i64 a.frame, u32 a.cores, pv] (some 3))) m.next [.int .i64 a.frame, u32 a.cores, pv] 3 := Bk.new
  generalize m.new (.cells [.int .i64 a.frame, u32 a.cores, pv] (some 3)) = m1 at hx1 hb1 ⊢
  have hx2 : Ext m1 (m1.new (.cells [.int .i64 b.frame, u32 b.cores, qv] (some 3))) := Ext.new
  have hb2 : Bk (m1.new (.cells [.int .i64 b.frame, u32 b.cores, qv] (some 3))) m1.next [.int .i64 b.frame, u32 b.cores, qv] 3 := Bk.new
  generalize m1.new (.cells [.int .i64 b.frame, u32 b.cores, qv] (some 3)) = m2 at hx2 hb2 ⊢
  have hb1 := hb1.keep hx2
  have hX := hx1.trans hx2
  have hp := hp.keep hX
  have hq := hq.keep hX
  try simp only [go_sem, Int.reduceBEq, Int.reduceBNe, Int.reduceNeg, reduceCtorEq, Nat.reduceEqDiff, Nat.reduceAdd, Nat.reduceLeDiff, Nat.reduceMul, Nat.reduceSub, Int.reduceToNat, Int.reduceLT, Int.reduceLE, load_w, load_a, store_b, idxS_b, set_blk, new_blk, set_next, new_next, len_s, ldW_c, ldA_c, stB_c, toArr_one, size_one, toList_toArr, size_toArr, List.length_cons, List.length_nil, List.getElem?_cons_zero, List.getElem?_cons_succ, Nat.zero_add, Nat.add_zero, hb1.at_, hb2.at_]
  refine gC.of (right_spec (a := a) (b := b) ⟨pv, rfl, hp⟩ ⟨qv, rfl, hq⟩) ?_
  rintro _ M0 ⟨rfl, hx⟩
  have hb1 := hb1.keep hx
  have hb2 := hb2.keep hx
  have hp := hp.keep hx
  have hq := hq.keep hx
  by_cases hr : rightAB a b
  · obtain ⟨l1, l2, ra, rb⟩ := hr
    have hr : rightAB a b := ⟨l1, l2, ra, rb⟩
    obtain ⟨la, ha, hsa, hpa⟩ := rowS_of hp
    obtain ⟨lb, hb, hsb, hpb⟩ := rowS_of hq
    have pa := light_lD l1
    have pb := light_lD l2
    have oa := ra.okE l1 ha
    have ob := rb.okE l2 hb
    have fa : ∀ M, Ext M0 M → ∀ e ∈ la, PcV M e.pl.pieces e.pv ∧ e.pl.pieces.length < 1000000 := fun M hM e he => ⟨(hpa e he).keep hM, pa.pcs _ (by rw [← ha]; exact List.mem_map.2 ⟨e, he, rfl⟩)⟩
    have fb : ∀ M, Ext M0 M → ∀ e ∈ lb, PcV M e.pl.pieces e.pv ∧ e.pl.pieces.length < 1000000 := fun M hM e he => ⟨(hpb e he).keep hM, pb.pcs _ (by rw [← hb]; exact List.mem_map.2 ⟨e, he, rfl⟩)⟩
    have z0 : ∀ {α : Type} (l : List α), l = [] → (((l.length : Nat) : Int) == 0) = true := fun l h => by rw [h]; rfl
    try simp only [go_sem, Int.reduceBEq, Int.reduceBNe, Int.reduceNeg, reduceCtorEq, Nat.reduceEqDiff, Nat.reduceAdd, Nat.reduceLeDiff, Nat.reduceMul, Nat.reduceSub, Int.reduceToNat, Int.reduceLT, Int.reduceLE, load_w, load_a, store_b, idxS_b, set_blk, new_blk, set_next, new_next, len_s, ldW_c, ldA_c, stB_c, toArr_one, size_one, toList_toArr, size_toArr, List.length_cons, List.length_nil, List.getElem?_cons_zero, List.getElem?_cons_succ, Nat.zero_add, Nat.add_zero, decide_eq_true hr, hb1.at_, hb2.at_]
    refine gC.of (Moved_spec hsa hsa oa oa (fa _ (Ext.refl _)) (fa _ (Ext.refl _))) ?_
    rintro r1 M1 ⟨ho1, hX1⟩
    have hb1 := hb1.keep hX1
    have hb2 := hb2.keep hX1
    have q1 := z0 _ (moved_self (l := la))
    try simp only [go_sem, Int.reduceBEq, Int.reduceBNe, Int.reduceNeg, reduceCtorEq, Nat.reduceEqDiff, Nat.reduceAdd, Nat.reduceLeDiff, Nat.reduceMul, Nat.reduceSub, Int.reduceToNat, Int.reduceLT, Int.reduceLE, load_w, load_a, store_b, idxS_b, set_blk, new_blk, set_next, new_next, len_s, ldW_c, ldA_c, stB_c, toArr_one, size_one, toList_toArr, size_toArr, List.length_cons, List.length_nil, List.getElem?_cons_zero, List.getElem?_cons_succ, Nat.zero_add, Nat.add_zero, ho1.sl.len, q1, hb1.at_, hb2.at_]
    refine gC.of (Changes_spec (hsa.keep hX1) (hsa.keep hX1) oa oa (fa _ hX1) (fa _ hX1)) ?_
    rintro r2 M2 ⟨cs, hO, hmap, -⟩
    have hX2 := hX1.trans hO.ext
    have hb1 := hb1.keep hO.ext
    have hb2 := hb2.keep hO.ext
    rw [cha_self] at hmap
    have q2 := z0 cs (List.map_eq_nil_iff.1 hmap)
    try simp only [go_sem, Int.reduceBEq, Int.reduceBNe, Int.reduceNeg, reduceCtorEq, Nat.reduceEqDiff, Nat.reduceAdd, Nat.reduceLeDiff, Nat.reduceMul, Nat.reduceSub, Int.reduceToNat, Int.reduceLT, Int.reduceLE, load_w, load_a, store_b, idxS_b, set_blk, new_blk, set_next, new_next, len_s, ldW_c, ldA_c, stB_c, toArr_one, size_one, toList_toArr, size_toArr, List.length_cons, List.length_nil, List.getElem?_cons_zero, List.getElem?_cons_succ, Nat.zero_add, Nat.add_zero, hO.own.sl.len, q2, hb1.at_, hb2.at_]
    refine gC.of (Shift_spec (hsa.keep hX2) (hsa.keep hX2) oa oa (fa _ hX2) (fa _ hX2)) ?_
    rintro _ M3 ⟨rfl, hx3⟩
    have hX3 := hX2.trans hx3
    have hb1 := hb1.keep hx3
    have hb2 := hb2.keep hx3
    have q3 : (((((someL la la ChaP).map fun u => chN (lkE la u).pl (lkE la u).pl 16).sum : Nat) : Int) == 0) = true := by rw [cha_self]; rfl
    try simp only [go_sem, Int.reduceBEq, Int.reduceBNe, Int.reduceNeg, reduceCtorEq, Nat.reduceEqDiff, Nat.reduceAdd, Nat.reduceLeDiff, Nat.reduceMul, Nat.reduceSub, Int.reduceToNat, Int.reduceLT, Int.reduceLE, load_w, load_a, store_b, idxS_b, set_blk, new_blk, set_next, new_next, len_s, ldW_c, ldA_c, stB_c, toArr_one, size_one, toList_toArr, size_toArr, List.length_cons, List.length_nil, List.getElem?_cons_zero, List.getElem?_cons_succ, Nat.zero_add, Nat.add_zero, q3, hb1.at_, hb2.at_]
    refine gC.of (Moved_spec (hsa.keep hX3) (hsb.keep hX3) oa ob (fa _ hX3) (fb _ hX3)) ?_
    rintro r4 M4 ⟨ho4, hx4⟩
    rw [moved_right ha hb ra rb] at ho4
    have hX4 := hX3.trans hx4
    have k1 : M4.blk m.next = M3.blk m.next := hx4.same m.next hb1.lt
    have k2 : M4.blk m1.next = M3.blk m1.next := hx4.same m1.next hb2.lt
    have hb1 := hb1.keep hx4
    have hb2 := hb2.keep hx4
    try simp only [go_sem, Int.reduceBEq, Int.reduceBNe, Int.reduceNeg, reduceCtorEq, Nat.reduceEqDiff, Nat.reduceAdd, Nat.reduceLeDiff, Nat.reduceMul, Nat.reduceSub, Int.reduceToNat, Int.reduceLT, Int.reduceLE, load_w, load_a, store_b, idxS_b, set_blk, new_blk, set_next, new_next, len_s, ldW_c, ldA_c, stB_c, toArr_one, size_one, toList_toArr, size_toArr, List.length_cons, List.length_nil, List.getElem?_cons_zero, List.getElem?_cons_succ, Nat.zero_add, Nat.add_zero, watchOk_cons, watchOk_nil, blkOf_ptr, k1, k2, hb1.at_, hb2.at_]
    refine gC.of (Moved_spec (hsb.keep hX4) (hsa.keep hX4) ob oa (fb _ hX4) (fa _ hX4)) ?_
    rintro r5 M5 ⟨ho5, hx5⟩
    rw [moved_right hb ha rb ra, ← moved_comm] at ho5
    have hX5 := hX4.trans hx5
    have hb1 := hb1.keep hx5
    have hb2 := hb2.keep hx5
    try simp only [go_sem, Int.reduceBEq, Int.reduceBNe, Int.reduceNeg, reduceCtorEq, Nat.reduceEqDiff, Nat.reduceAdd, Nat.reduceLeDiff, Nat.reduceMul, Nat.reduceSub, Int.reduceToNat, Int.reduceLT, Int.reduceLE, load_w, load_a, store_b, idxS_b, set_blk, new_blk, set_next, new_next, len_s, ldW_c, ldA_c, stB_c, toArr_one, size_one, toList_toArr, size_toArr, List.length_cons, List.length_nil, List.getElem?_cons_zero, List.getElem?_cons_succ, Nat.zero_add, Nat.add_zero]
    refine gC.of (ref03_Same_spec (ho4.keep hx5).sl ho5.sl listL_len listL_len) ?_
    rintro _ _ ⟨rfl, hm⟩
    replace hm := hm.symm
    subst hm
    have d1 : decide (listL (isU0 a.places b.places) a.places b.places = listL (isU0 a.places b.places) a.places b.places) = true := by simp
    try simp only [go_sem, Int.reduceBEq, Int.reduceBNe, Int.reduceNeg, reduceCtorEq, Nat.reduceEqDiff, Nat.reduceAdd, Nat.reduceLeDiff, Nat.reduceMul, Nat.reduceSub, Int.reduceToNat, Int.reduceLT, Int.reduceLE, load_w, load_a, store_b, idxS_b, set_blk, new_blk, set_next, new_next, len_s, ldW_c, ldA_c, stB_c, toArr_one, size_one, toList_toArr, size_toArr, List.length_cons, List.length_nil, List.getElem?_cons_zero, List.getElem?_cons_succ, Nat.zero_add, Nat.add_zero, d1, hb1.at_, hb2.at_]
    refine gC.of (Came_spec (hsa.keep hX5) (hsb.keep hX5) oa ob) ?_
    rintro r6 M6 ⟨ho6, hx6⟩
    rw [came_eq ha hb ra.units rb.units] at ho6
    have hX6 := hX5.trans hx6
    have k1 : M6.blk m.next = M5.blk m.next := hx6.same m.next hb1.lt
    have k2 : M6.blk m1.next = M5.blk m1.next := hx6.same m1.next hb2.lt
    have hb1 := hb1.keep hx6
    have hb2 := hb2.keep hx6
    try simp only [go_sem, Int.reduceBEq, Int.reduceBNe, Int.reduceNeg, reduceCtorEq, Nat.reduceEqDiff, Nat.reduceAdd, Nat.reduceLeDiff, Nat.reduceMul, Nat.reduceSub, Int.reduceToNat, Int.reduceLT, Int.reduceLE, load_w, load_a, store_b, idxS_b, set_blk, new_blk, set_next, new_next, len_s, ldW_c, ldA_c, stB_c, toArr_one, size_one, toList_toArr, size_toArr, List.length_cons, List.length_nil, List.getElem?_cons_zero, List.getElem?_cons_succ, Nat.zero_add, Nat.add_zero, watchOk_cons, watchOk_nil, blkOf_ptr, k1, k2]
    refine gC.of (Gone_spec (hsb.keep hX6) (hsa.keep hX6) ob oa) ?_
    rintro r7 M7 ⟨ho7, hx7⟩
    rw [gone_eq hb ha rb.units ra.units, ← came_gone] at ho7
    have hX7 := hX6.trans hx7
    have hb1 := hb1.keep hx7
    have hb2 := hb2.keep hx7
    try simp only [go_sem, Int.reduceBEq, Int.reduceBNe, Int.reduceNeg, reduceCtorEq, Nat.reduceEqDiff, Nat.reduceAdd, Nat.reduceLeDiff, Nat.reduceMul, Nat.reduceSub, Int.reduceToNat, Int.reduceLT, Int.reduceLE, load_w, load_a, store_b, idxS_b, set_blk, new_blk, set_next, new_next, len_s, ldW_c, ldA_c, stB_c, toArr_one, size_one, toList_toArr, size_toArr, List.length_cons, List.length_nil, List.getElem?_cons_zero, List.getElem?_cons_succ, Nat.zero_add, Nat.add_zero]
    refine gC.of (ref03_Same_spec (ho6.keep hx7).sl ho7.sl listL_len listL_len) ?_
    rintro _ _ ⟨rfl, hm⟩
    replace hm := hm.symm
    subst hm
    have d2 : decide (listL (isU1 a.places b.places) a.places b.places = listL (isU1 a.places b.places) a.places b.places) = true := by simp
    try simp only [go_sem, Int.reduceBEq, Int.reduceBNe, Int.reduceNeg, reduceCtorEq, Nat.reduceEqDiff, Nat.reduceAdd, Nat.reduceLeDiff, Nat.reduceMul, Nat.reduceSub, Int.reduceToNat, Int.reduceLT, Int.reduceLE, load_w, load_a, store_b, idxS_b, set_blk, new_blk, set_next, new_next, len_s, ldW_c, ldA_c, stB_c, toArr_one, size_one, toList_toArr, size_toArr, List.length_cons, List.length_nil, List.getElem?_cons_zero, List.getElem?_cons_succ, Nat.zero_add, Nat.add_zero, d2, hb1.at_, hb2.at_]
    refine gC.of (Shift_spec (hsa.keep hX7) (hsb.keep hX7) oa ob (fa _ hX7) (fb _ hX7)) ?_
    rintro _ M8 ⟨rfl, hx8⟩
    have hX8 := hX7.trans hx8
    have k1 : M8.blk m.next = M7.blk m.next := hx8.same m.next hb1.lt
    have k2 : M8.blk m1.next = M7.blk m1.next := hx8.same m1.next hb2.lt
    try simp only [go_sem, Int.reduceBEq, Int.reduceBNe, Int.reduceNeg, reduceCtorEq, Nat.reduceEqDiff, Nat.reduceAdd, Nat.reduceLeDiff, Nat.reduceMul, Nat.reduceSub, Int.reduceToNat, Int.reduceLT, Int.reduceLE, load_w, load_a, store_b, idxS_b, set_blk, new_blk, set_next, new_next, len_s, ldW_c, ldA_c, stB_c, toArr_one, size_one, toList_toArr, size_toArr, List.length_cons, List.length_nil, List.getElem?_cons_zero, List.getElem?_cons_succ, Nat.zero_add, Nat.add_zero, watchOk_cons, watchOk_nil, blkOf_ptr, k1, k2]
    refine gC.of (Shift_spec (hsb.keep hX8) (hsa.keep hX8) ob oa (fb _ hX8) (fa _ hX8)) ?_
    rintro _ M9 ⟨rfl, hx9⟩
    have d3 : ((((((someL la lb ChaP).map fun u => chN (lkE la u).pl (lkE lb u).pl 16).sum : Nat) : Int)) == ((((someL lb la ChaP).map fun u => chN (lkE lb u).pl (lkE la u).pl 16).sum : Nat) : Int)) = true := by
      rw [beq_iff_eq, shift_eq ha hb ra rb, shift_eq hb ha rb ra, shSum_comm]
    try simp only [go_sem, Int.reduceBEq, Int.reduceBNe, Int.reduceNeg, reduceCtorEq, Nat.reduceEqDiff, Nat.reduceAdd, Nat.reduceLeDiff, Nat.reduceMul, Nat.reduceSub, Int.reduceToNat, Int.reduceLT, Int.reduceLE, load_w, load_a, store_b, idxS_b, set_blk, new_blk, set_next, new_next, len_s, ldW_c, ldA_c, stB_c, toArr_one, size_one, toList_toArr, size_toArr, List.length_cons, List.length_nil, List.getElem?_cons_zero, List.getElem?_cons_succ, Nat.zero_add, Nat.add_zero, d3]
    refine gC.of (ok_specD R.law22_awake) ?_
    rintro _ m_ ⟨rfl, hm_⟩
    replace hm_ := hm_.symm
    subst hm_
    simp only [go_sem, Int.reduceBEq, Int.reduceBNe, Int.reduceNeg, reduceCtorEq, Nat.reduceEqDiff, Nat.reduceAdd, Nat.reduceLeDiff, Nat.reduceMul, Nat.reduceSub, Int.reduceToNat, Int.reduceLT, Int.reduceLE]
    try simp only [go_sem, Int.reduceBEq, Int.reduceBNe, Int.reduceNeg, reduceCtorEq, Nat.reduceEqDiff, Nat.reduceAdd, Nat.reduceLeDiff, Nat.reduceMul, Nat.reduceSub, Int.reduceToNat, Int.reduceLT, Int.reduceLE, load_w, load_a, store_b, idxS_b, set_blk, new_blk, set_next, new_next, len_s, ldW_c, ldA_c, stB_c, toArr_one, size_one, toList_toArr, size_toArr, List.length_cons, List.length_nil, List.getElem?_cons_zero, List.getElem?_cons_succ, Nat.zero_add, Nat.add_zero]
  · try simp only [go_sem, Int.reduceBEq, Int.reduceBNe, Int.reduceNeg, reduceCtorEq, Nat.reduceEqDiff, Nat.reduceAdd, Nat.reduceLeDiff, Nat.reduceMul, Nat.reduceSub, Int.reduceToNat, Int.reduceLT, Int.reduceLE, load_w, load_a, store_b, idxS_b, set_blk, new_blk, set_next, new_next, len_s, ldW_c, ldA_c, stB_c, toArr_one, size_one, toList_toArr, size_toArr, List.length_cons, List.length_nil, List.getElem?_cons_zero, List.getElem?_cons_succ, Nat.zero_add, Nat.add_zero, decide_eq_false hr]
    refine gC.of (ok_specD R.law22_awake) ?_
    rintro _ m_ ⟨rfl, hm_⟩
    replace hm_ := hm_.symm
    subst hm_
    simp only [go_sem, Int.reduceBEq, Int.reduceBNe, Int.reduceNeg, reduceCtorEq, Nat.reduceEqDiff, Nat.reduceAdd, Nat.reduceLeDiff, Nat.reduceMul, Nat.reduceSub, Int.reduceToNat, Int.reduceLT, Int.reduceLE]
    try simp only [go_sem, Int.reduceBEq, Int.reduceBNe, Int.reduceNeg, reduceCtorEq, Nat.reduceEqDiff, Nat.reduceAdd, Nat.reduceLeDiff, Nat.reduceMul, Nat.reduceSub, Int.reduceToNat, Int.reduceLT, Int.reduceLE, load_w, load_a, store_b, idxS_b, set_blk, new_blk, set_next, new_next, len_s, ldW_c, ldA_c, stB_c, toArr_one, size_one, toList_toArr, size_toArr, List.length_cons, List.length_nil, List.getElem?_cons_zero, List.getElem?_cons_succ, Nat.zero_add, Nat.add_zero]
end Go.Am


/- DiffSelf, of arguments as they are read. -/
set_option linter.unusedVariables false
namespace Go.Am
theorem law22_DiffSelf_walk (m : Mem) (us : List Value) (h : RdAs m [(true, planSh), (true, planSh)] us) : WC R F.law22_DiffSelf us m fun v _ => v = .bool true := by
  obtain ⟨_, _, rfl, h1, h⟩ := h.one; obtain ⟨_, _, rfl, h2, h⟩ := h.one; cases h.none
  obtain ⟨p, hp, -⟩ := plan_read h1; obtain ⟨q, hq, -⟩ := plan_read h2
  exact DiffSelf_spec hp hq
end Go.Am
