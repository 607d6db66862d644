/- Parts of the proofs of the statements of this seat: DiffV6, WDiffChanges. No conditions. -/
import Derived.Test.YtlnkingbeabmlaaDiffChangesPart8
set_option linter.unusedVariables false
set_option linter.unusedSimpArgs false

/- Diff: the law DiffChanges. -/
set_option linter.unusedVariables false
set_option linter.unusedSimpArgs false
namespace Go.Am
open Classical
variable {m : Mem}

theorem aCells_sub {m : Mem} {b o u j n : Nat} {cs : List Value} (h : aCells m b o u = some cs) (hj : j + n ≤ u) : aCells m b (o + j) n = some ((cs.drop j).take n) := by
  unfold aCells at h ⊢
  split at h
  · split at h
    · rename_i hl
      cases h
      rw [if_pos (by omega)]
      rw [List.drop_take, List.take_take, List.drop_drop]
      congr 2; omega
    · cases h
  · cases h

/-- What is read of a change. -/
theorem OwnChs.read {m0 m : Mem} {l : List CH} {v : Value} (h : OwnChs m0 m l v) {i : Nat} (hi : i < l.length) :
    ∃ b o, aIdxS 9 v (.int .i64 i) = some (.pointer (some ⟨b, o, none⟩)) ∧ aLoad false 1 m (.pointer (some ⟨b, o, none⟩)) = some (.int .i64 l[i].u) ∧
      aLoad true 4 m (.pointer (some ⟨b, o + 1, none⟩)) = some (eP l[i].was) ∧ aLoad true 4 m (.pointer (some ⟨b, o + 5, none⟩)) = some (eP l[i].now) := by
  obtain ⟨b, o, h1, h2⟩ := h.own.sl.idx (k := .i64) hi
  rw [flat_drop chV_len hi] at h2
  refine ⟨b, o, h1, ?_, ?_, ?_⟩
  · exact load_one (aCells_sub (j := 0) (n := 1) h2 (by omega))
  · exact load_agg (aCells_sub (j := 1) (n := 4) h2 (by omega))
  · exact load_agg (aCells_sub (j := 5) (n := 4) h2 (by omega))

set_option maxHeartbeats 8000000 in
theorem DiffChanges_spec {a b : PlanD} {v w : Value} (hv : PlanV m a v) (hw : PlanV m b w) : WC R F.law22_DiffChanges [v, w] m fun r m' => r = .bool true := by
  refine WC.of R.law22_DiffChanges rfl ?_
  obtain ⟨pv, rfl, hp⟩ := hv
  obtain ⟨qv, rfl, hq⟩ := hw
  simp only [RC.law22_DiffChanges, planV, go_sem, Int.reduceBEq, Int.reduceBNe, Int.reduceNeg, reduceCtorEq, Nat.reduceEqDiff, Nat.reduceAdd, Nat.reduceLeDiff, Nat.reduceMul, Nat.reduceSub, Int.reduceToNat, Int.reduceLT, Int.reduceLE, hp.one, hq.one]
  have hx1 : Ext m (m.new (.cells [.int .i64 a.frame, u32 a.cores, pv] (some 3))) := Ext.new
  have hb1 : Bk (m.new (.cells [.int .i64 a.frame, u32 a.cores, pv] (some 3))) m.next [.int .i64 a.frame, u32 a.cores, pv] 3 := Bk.new
  generalize m.new (.cells [.int .i64 a.frame, u32 a.cores, pv] (some 3)) = m1 at hx1 hb1 ⊢
  have hx2 : Ext m1 (m1.new (.cells [.int .i64 b.frame, u32 b.cores, qv] (some 3))) := Ext.new
  have hb2 : Bk (m1.new (.cells [.int .i64 b.frame, u32 b.cores, qv] (some 3))) m1.next [.int .i64 b.frame, u32 b.cores, qv] 3 := Bk.new
  generalize m1.new (.cells [.int .i64 b.frame, u32 b.cores, qv] (some 3)) = m2 at hx2 hb2 ⊢
  have hb1 := hb1.keep hx2
  have hX := hx1.trans hx2
  have hp := hp.keep hX
  have hq := hq.keep hX
  try simp only [go_sem, Int.reduceBEq, Int.reduceBNe, Int.reduceNeg, reduceCtorEq, Nat.reduceEqDiff, Nat.reduceAdd, Nat.reduceLeDiff, Nat.reduceMul, Nat.reduceSub, Int.reduceToNat, Int.reduceLT, Int.reduceLE, load_w, load_a, store_b, idxS_b, set_blk, new_blk, set_next, new_next, len_s, ldW_c, ldA_c, stB_c, toArr_one, size_one, toList_toArr, size_toArr, List.length_cons, List.length_nil, List.getElem?_cons_zero, List.getElem?_cons_succ, Nat.zero_add, Nat.add_zero, hb1.at_, hb2.at_]
  refine gC.of (right_spec (a := a) (b := b) ⟨pv, rfl, hp⟩ ⟨qv, rfl, hq⟩) ?_
  rintro _ M0 ⟨rfl, hx⟩
  have hb1 := hb1.keep hx
  have hb2 := hb2.keep hx
  have hp := hp.keep hx
  have hq := hq.keep hx
  by_cases hr : rightAB a b
  · obtain ⟨l1, l2, ra, rb⟩ := hr
    have hr : rightAB a b := ⟨l1, l2, ra, rb⟩
    have pa := light_lD l1
    have pb := light_lD l2
    obtain ⟨la, ha, hsa, hpa⟩ := rowS_of hp
    obtain ⟨lb, hb, hsb, hpb⟩ := rowS_of hq
    have oa := ra.okE l1 ha
    have ob := rb.okE l2 hb
    have fa : ∀ e ∈ la, e.pl.pieces.length < 1000000 := fun e he => pa.pcs _ (by rw [← ha]; exact List.mem_map.2 ⟨e, he, rfl⟩)
    have fb : ∀ e ∈ lb, e.pl.pieces.length < 1000000 := fun e he => pb.pcs _ (by rw [← hb]; exact List.mem_map.2 ⟨e, he, rfl⟩)
    try simp only [go_sem, Int.reduceBEq, Int.reduceBNe, Int.reduceNeg, reduceCtorEq, Nat.reduceEqDiff, Nat.reduceAdd, Nat.reduceLeDiff, Nat.reduceMul, Nat.reduceSub, Int.reduceToNat, Int.reduceLT, Int.reduceLE, load_w, load_a, store_b, idxS_b, set_blk, new_blk, set_next, new_next, len_s, ldW_c, ldA_c, stB_c, toArr_one, size_one, toList_toArr, size_toArr, List.length_cons, List.length_nil, List.getElem?_cons_zero, List.getElem?_cons_succ, Nat.zero_add, Nat.add_zero, decide_eq_true hr, hb1.at_, hb2.at_]
    refine gC.of (Changes_spec hsa hsb oa ob (fun e he => ⟨hpa e he, fa e he⟩) (fun e he => ⟨hpb e he, fb e he⟩)) ?_
    rintro lw M1 ⟨cs, hO, hmap, hcs⟩
    have hX1 := hO.ext
    rw [changes_eq ha hb ra.ascD rb.ascD ra.units rb.units] at hmap
    have hb1 := hb1.keep hX1
    have hb2 := hb2.keep hX1
    try simp only [go_sem, Int.reduceBEq, Int.reduceBNe, Int.reduceNeg, reduceCtorEq, Nat.reduceEqDiff, Nat.reduceAdd, Nat.reduceLeDiff, Nat.reduceMul, Nat.reduceSub, Int.reduceToNat, Int.reduceLT, Int.reduceLE, load_w, load_a, store_b, idxS_b, set_blk, new_blk, set_next, new_next, len_s, ldW_c, ldA_c, stB_c, toArr_one, size_one, toList_toArr, size_toArr, List.length_cons, List.length_nil, List.getElem?_cons_zero, List.getElem?_cons_succ, Nat.zero_add, Nat.add_zero, hb1.at_, hb2.at_]
    refine gC.of (List4_spec (p := a) (q := b) ⟨pv, rfl, hp.keep hX1⟩ ⟨qv, rfl, hq.keep hX1⟩ pa pb ra.ascD rb.ascD) ?_
    rintro uw M2 ⟨hou, hx2'⟩
    have hul : (listL (isU4 a.places b.places) a.places b.places).length < 1000000 := listL_len
    generalize listL (isU4 a.places b.places) a.places b.places = U at *
    have hlen : cs.length = U.length := by rw [← hmap, List.length_map]
    have hb1 := hb1.keep hx2'
    have hb2 := hb2.keep hx2'
    have hO := hO.keep hx2'
    have hX2 := hX1.trans hx2'
    have e1 : (((cs.length : Nat) : Int) != ((U.length : Nat) : Int)) = false := by rw [bne_eq_false_iff_eq, hlen]
    try simp only [go_sem, Int.reduceBEq, Int.reduceBNe, Int.reduceNeg, reduceCtorEq, Nat.reduceEqDiff, Nat.reduceAdd, Nat.reduceLeDiff, Nat.reduceMul, Nat.reduceSub, Int.reduceToNat, Int.reduceLT, Int.reduceLE, load_w, load_a, store_b, idxS_b, set_blk, new_blk, set_next, new_next, len_s, ldW_c, ldA_c, stB_c, toArr_one, size_one, toList_toArr, size_toArr, List.length_cons, List.length_nil, List.getElem?_cons_zero, List.getElem?_cons_succ, Nat.zero_add, Nat.add_zero, hO.own.sl.len, hou.sl.len, e1, hb1.at_, hb2.at_]
    refine gC.of (Shift_spec (hsa.keep hX2) (hsb.keep hX2) oa ob (fun e he => ⟨(hpa e he).keep hX2, fa e he⟩) (fun e he => ⟨(hpb e he).keep hX2, fb e he⟩)) ?_
    rintro _ M3 ⟨rfl, hx3⟩
    have hkk1 : M3.blk m.next = M2.blk m.next := hx3.same m.next hb1.lt
    have hkk2 : M3.blk m1.next = M2.blk m1.next := hx3.same m1.next hb2.lt
    have hb1 := hb1.keep hx3
    have hb2 := hb2.keep hx3
    have hX3 := hX2.trans hx3
    have hO := hO.keep hx3
    try simp only [go_sem, Int.reduceBEq, Int.reduceBNe, Int.reduceNeg, reduceCtorEq, Nat.reduceEqDiff, Nat.reduceAdd, Nat.reduceLeDiff, Nat.reduceMul, Nat.reduceSub, Int.reduceToNat, Int.reduceLT, Int.reduceLE, load_w, load_a, store_b, idxS_b, set_blk, new_blk, set_next, new_next, len_s, ldW_c, ldA_c, stB_c, toArr_one, size_one, toList_toArr, size_toArr, List.length_cons, List.length_nil, List.getElem?_cons_zero, List.getElem?_cons_succ, Nat.zero_add, Nat.add_zero, watchOk_cons, watchOk_nil, blkOf_ptr, hkk1, hkk2]
    refine gC.of (refShift_spec (p := a) (q := b) ⟨pv, rfl, hp.keep hX3⟩ ⟨qv, rfl, hq.keep hX3⟩ pa pb ra.ascD rb.ascD) ?_
    rintro _ M4 ⟨rfl, hx4⟩
    have hse := shift_eq ha hb ra rb
    have hb1 := hb1.keep hx4
    have hb2 := hb2.keep hx4
    have hX4 := hX3.trans hx4
    have hO := hO.keep hx4
    have hou := (hou.keep hx3).keep hx4
    rw [hse]
    have e2 : ∀ n : Int, (n != n) = false := fun n => by rw [bne_eq_false_iff_eq]
    try simp only [go_sem, Int.reduceBEq, Int.reduceBNe, Int.reduceNeg, reduceCtorEq, Nat.reduceEqDiff, Nat.reduceAdd, Nat.reduceLeDiff, Nat.reduceMul, Nat.reduceSub, Int.reduceToNat, Int.reduceLT, Int.reduceLE, load_w, load_a, store_b, idxS_b, set_blk, new_blk, set_next, new_next, len_s, ldW_c, ldA_c, stB_c, toArr_one, size_one, toList_toArr, size_toArr, List.length_cons, List.length_nil, List.getElem?_cons_zero, List.getElem?_cons_succ, Nat.zero_add, Nat.add_zero, e2]
    refine WL.of (fun n e m' => ∃ i : Nat, i ≤ U.length ∧ n = U.length - i ∧ e = [(2, pt m.next), (3, pt m1.next), (5, lw), (6, uw), (7, .int .i64 i)] ∧ Ext M4 m') U.length
      ⟨0, by omega, by omega, by simp only [go_sem, Int.reduceBEq, Int.reduceBNe, Int.reduceNeg, reduceCtorEq, Nat.reduceEqDiff, Nat.reduceAdd, Nat.reduceLeDiff, Nat.reduceMul, Nat.reduceSub, Int.reduceToNat, Int.reduceLT, Int.reduceLE] <;> rfl, Ext.refl _⟩ ?_
    rintro _ _ m5 ⟨i, hi, rfl, rfl, hx5⟩
    have hbx := hb1.keep hx5
    have hby := hb2.keep hx5
    have hsU := hou.sl
    have hltU := hou.lt
    have hs5 := hsU.keep hltU hx5
    have hlt5 := hltU.keep hx5
    have hO5 := hO.keep hx5
    have hX5 := hX4.trans hx5
    simp only [RB.law22_DiffChanges_1, pt, go_sem, Int.reduceBEq, Int.reduceBNe, Int.reduceNeg, reduceCtorEq, Nat.reduceEqDiff, Nat.reduceAdd, Nat.reduceLeDiff, Nat.reduceMul, Nat.reduceSub, Int.reduceToNat, Int.reduceLT, Int.reduceLE, load_w, load_a, store_b, idxS_b, set_blk, new_blk, set_next, new_next, len_s, ldW_c, ldA_c, stB_c, toArr_one, size_one, toList_toArr, size_toArr, List.length_cons, List.length_nil, List.getElem?_cons_zero, List.getElem?_cons_succ, Nat.zero_add, Nat.add_zero, hs5.len]
    have s1 := step1 (show i < 1000000 by omega)
    by_cases g1 : i < U.length
    · have e1 : decide ((i : Int) < (U.length : Int)) = true := decide_eq_true (by omega)
      obtain ⟨bb, oo, a1, a2⟩ := hs5.geti g1
      try simp only [go_sem, Int.reduceBEq, Int.reduceBNe, Int.reduceNeg, reduceCtorEq, Nat.reduceEqDiff, Nat.reduceAdd, Nat.reduceLeDiff, Nat.reduceMul, Nat.reduceSub, Int.reduceToNat, Int.reduceLT, Int.reduceLE, load_w, load_a, store_b, idxS_b, set_blk, new_blk, set_next, new_next, len_s, ldW_c, ldA_c, stB_c, toArr_one, size_one, toList_toArr, size_toArr, List.length_cons, List.length_nil, List.getElem?_cons_zero, List.getElem?_cons_succ, Nat.zero_add, Nat.add_zero, e1, hbx.at_, a1, a2]
      have hbu : Ext m5 (m5.bump 12) := Ext.bump
      refine gC.of (refFindO_spec (p := a) (u := U[i]) ⟨pv, rfl, hp⟩ (hX5.trans hbu) pa ra.ascD) ?_
      rintro _ m6 ⟨xv, rfl, hxv, hx6⟩
      have hn6 : m5.next + 12 ≤ m6.next := hx6.next
      have hx56 := hbu.trans hx6
      have hone := hxv.one
      have hlx : (findP a.places U[i]).pieces.length < 1000000 := findP_pcs pa
      have hly : (findP b.places U[i]).pieces.length < 1000000 := findP_pcs pb
      have hset : ∀ (M : Mem) (k : Nat) (a b : Option AObj), (M.set k a).set k b = M.set k b := fun M k a b => by
        unfold Mem.set; congr 1; funext q; simp only []; split <;> rfl
      simp only [plV]
      try simp only [go_sem, Int.reduceBEq, Int.reduceBNe, Int.reduceNeg, reduceCtorEq, Nat.reduceEqDiff, Nat.reduceAdd, Nat.reduceLeDiff, Nat.reduceMul, Nat.reduceSub, Int.reduceToNat, Int.reduceLT, Int.reduceLE, load_w, load_a, store_b, idxS_b, set_blk, new_blk, set_next, new_next, len_s, ldW_c, ldA_c, stB_c, toArr_one, size_one, toList_toArr, size_toArr, List.length_cons, List.length_nil, List.getElem?_cons_zero, List.getElem?_cons_succ, Nat.zero_add, Nat.add_zero, aExt0, aExt1, hone, hset]
      have hU7 : Upd m6 (m6.set (m5.next + 9) (some (.cells [.int .i64 (findP a.places U[i]).unit, .int .i64 (findP a.places U[i]).share, .int .i64 (findP a.places U[i]).core, xv] (some 4)))) [m5.next + 9] := Upd.set (by simp)
      have hc7 : Bk (m6.set (m5.next + 9) (some (.cells [.int .i64 (findP a.places U[i]).unit, .int .i64 (findP a.places U[i]).share, .int .i64 (findP a.places U[i]).core, xv] (some 4)))) (m5.next + 9) [.int .i64 (findP a.places U[i]).unit, .int .i64 (findP a.places U[i]).share, .int .i64 (findP a.places U[i]).core, xv] 4 := ⟨by simp [Mem.set], by simp [Mem.set]; omega⟩
      have hm7n : (m6.set (m5.next + 9) (some (.cells [.int .i64 (findP a.places U[i]).unit, .int .i64 (findP a.places U[i]).share, .int .i64 (findP a.places U[i]).core, xv] (some 4)))).next = m6.next := rfl
      generalize m6.set (m5.next + 9) (some (.cells [.int .i64 (findP a.places U[i]).unit, .int .i64 (findP a.places U[i]).share, .int .i64 (findP a.places U[i]).core, xv] (some 4))) = m7 at hU7 hc7 hm7n ⊢
      have hx57 : Ext m5 m7 := hU7.ext_of hx56 (by simp)
      have hby7 := hby.keep hx57
      have hs7 := hs5.keep hlt5 hx57
      obtain ⟨b2, o2, c1, c2⟩ := hs7.geti g1
      rw [a1] at c1
      cases c1
      have hbu7 : Ext m7 (m7.bump 12) := Ext.bump
      try simp only [go_sem, Int.reduceBEq, Int.reduceBNe, Int.reduceNeg, reduceCtorEq, Nat.reduceEqDiff, Nat.reduceAdd, Nat.reduceLeDiff, Nat.reduceMul, Nat.reduceSub, Int.reduceToNat, Int.reduceLT, Int.reduceLE, load_w, load_a, store_b, idxS_b, set_blk, new_blk, set_next, new_next, len_s, ldW_c, ldA_c, stB_c, toArr_one, size_one, toList_toArr, size_toArr, List.length_cons, List.length_nil, List.getElem?_cons_zero, List.getElem?_cons_succ, Nat.zero_add, Nat.add_zero, a1, c2, hby7.at_]
      refine gC.of (refFindO_spec (p := b) (u := U[i]) ⟨qv, rfl, hq⟩ ((hX5.trans hx57).trans hbu7) pb rb.ascD) ?_
      rintro _ m8 ⟨yv, rfl, hyv, hx8⟩
      have hn78 : m7.next + 12 ≤ m8.next := hx8.next
      have hn67 := hU7.next
      have hx78 := hbu7.trans hx8
      have hone2 := hyv.one
      have hc8 := hc7.keep hx78
      simp only [plV]
      have hU9 : Upd m8 (m8.set (m6.next + 9) (some (.cells [.int .i64 (findP b.places U[i]).unit, .int .i64 (findP b.places U[i]).share, .int .i64 (findP b.places U[i]).core, yv] (some 4)))) [m6.next + 9] := Upd.set (by simp)
      have hcy9 : Bk (m8.set (m6.next + 9) (some (.cells [.int .i64 (findP b.places U[i]).unit, .int .i64 (findP b.places U[i]).share, .int .i64 (findP b.places U[i]).core, yv] (some 4)))) (m6.next + 9) [.int .i64 (findP b.places U[i]).unit, .int .i64 (findP b.places U[i]).share, .int .i64 (findP b.places U[i]).core, yv] 4 := ⟨by simp [Mem.set], by simp [Mem.set]; omega⟩
      have hcx9 := hc8.upd hU9 (by simp; omega)
      have hx59 := hU9.ext_of (hx57.trans hx78) (by simp; omega)
      have hO9 := hO5.keep hx59
      have hs9 := hs5.keep hlt5 hx59
      have hic : i < cs.length := by omega
      obtain ⟨b3, o3, d1, d2, d3, d4⟩ := hO9.read hic
      have hmem := List.getElem_mem hic
      have hcu : cs[i].u = U[i] := by
        have : (cs.map CH.u)[i]'(by rw [List.length_map]; exact hic) = U[i] := by simp only [hmap]
        simpa using this
      have hel := hO9.el _ hmem
      have hwp : cs[i].was.pl = findP a.places U[i] := by rw [(hcs _ hmem).1, lkE_eq ha ra.ascD, hcu]
      have hnp : cs[i].now.pl = findP b.places U[i] := by rw [(hcs _ hmem).2, lkE_eq hb rb.ascD, hcu]
      obtain ⟨b4, o4, k1, k2⟩ := hs9.geti g1
      rw [a1] at k1
      cases k1
      rw [hcu] at d2
      try simp only [go_sem, Int.reduceBEq, Int.reduceBNe, Int.reduceNeg, reduceCtorEq, Nat.reduceEqDiff, Nat.reduceAdd, Nat.reduceLeDiff, Nat.reduceMul, Nat.reduceSub, Int.reduceToNat, Int.reduceLT, Int.reduceLE, load_w, load_a, store_b, idxS_b, set_blk, new_blk, set_next, new_next, len_s, ldW_c, ldA_c, stB_c, toArr_one, size_one, toList_toArr, size_toArr, List.length_cons, List.length_nil, List.getElem?_cons_zero, List.getElem?_cons_succ, Nat.zero_add, Nat.add_zero, aExt0, aExt1, hone2, hset]
      generalize m8.set (m6.next + 9) (some (.cells [.int .i64 (findP b.places U[i]).unit, .int .i64 (findP b.places U[i]).share, .int .i64 (findP b.places U[i]).core, yv] (some 4))) = m9 at *
      have hyv9 : PcV m9 (findP b.places U[i]).pieces yv := hyv.keep (hX5.trans hx59)
      have hxv9 : PcV m9 (findP a.places U[i]).pieces xv := hxv.keep (hX5.trans hx59)
      have e3 : (U[i] != U[i]) = false := by rw [bne_eq_false_iff_eq]
      try simp only [go_sem, Int.reduceBEq, Int.reduceBNe, Int.reduceNeg, reduceCtorEq, Nat.reduceEqDiff, Nat.reduceAdd, Nat.reduceLeDiff, Nat.reduceMul, Nat.reduceSub, Int.reduceToNat, Int.reduceLT, Int.reduceLE, load_w, load_a, store_b, idxS_b, set_blk, new_blk, set_next, new_next, len_s, ldW_c, ldA_c, stB_c, toArr_one, size_one, toList_toArr, size_toArr, List.length_cons, List.length_nil, List.getElem?_cons_zero, List.getElem?_cons_succ, Nat.zero_add, Nat.add_zero, d1, d2, a1, k2, e3, d3, hcx9.at_]
      refine gC.of (refSamePlace_spec (x := cs[i].was.pl) (y := findP a.places U[i]) ⟨cs[i].was.pv, rfl, hel.1.1⟩ ⟨xv, rfl, hxv9⟩ (by rw [hwp]; exact hlx) hlx) ?_
      rintro _ m10 ⟨rfl, hx10⟩
      obtain ⟨b5, o5, f1, f2, f3, f4⟩ := (hO9.keep hx10).read hic
      rw [d1] at f1
      cases f1
      have hcy10 := hcy9.keep hx10
      try simp only [go_sem, Int.reduceBEq, Int.reduceBNe, Int.reduceNeg, reduceCtorEq, Nat.reduceEqDiff, Nat.reduceAdd, Nat.reduceLeDiff, Nat.reduceMul, Nat.reduceSub, Int.reduceToNat, Int.reduceLT, Int.reduceLE, load_w, load_a, store_b, idxS_b, set_blk, new_blk, set_next, new_next, len_s, ldW_c, ldA_c, stB_c, toArr_one, size_one, toList_toArr, size_toArr, List.length_cons, List.length_nil, List.getElem?_cons_zero, List.getElem?_cons_succ, Nat.zero_add, Nat.add_zero, decide_eq_true hwp, d1, f4, hcy10.at_]
      refine gC.of (refSamePlace_spec (x := cs[i].now.pl) (y := findP b.places U[i]) ⟨cs[i].now.pv, rfl, hel.2.1.keep hx10⟩ ⟨yv, rfl, hyv9.keep hx10⟩ (by rw [hnp]; exact hly) hly) ?_
      rintro _ m11 ⟨rfl, hx11⟩
      try simp only [go_sem, Int.reduceBEq, Int.reduceBNe, Int.reduceNeg, reduceCtorEq, Nat.reduceEqDiff, Nat.reduceAdd, Nat.reduceLeDiff, Nat.reduceMul, Nat.reduceSub, Int.reduceToNat, Int.reduceLT, Int.reduceLE, load_w, load_a, store_b, idxS_b, set_blk, new_blk, set_next, new_next, len_s, ldW_c, ldA_c, stB_c, toArr_one, size_one, toList_toArr, size_toArr, List.length_cons, List.length_nil, List.getElem?_cons_zero, List.getElem?_cons_succ, Nat.zero_add, Nat.add_zero, decide_eq_true hnp, s1]
      exact ⟨U.length - (i + 1), by omega, i + 1, by omega, rfl, rfl, ((hx5.trans hx59).trans hx10).trans hx11⟩
    · have e1 : decide ((i : Int) < (U.length : Int)) = false := decide_eq_false (by omega)
      try simp only [go_sem, Int.reduceBEq, Int.reduceBNe, Int.reduceNeg, reduceCtorEq, Nat.reduceEqDiff, Nat.reduceAdd, Nat.reduceLeDiff, Nat.reduceMul, Nat.reduceSub, Int.reduceToNat, Int.reduceLT, Int.reduceLE, load_w, load_a, store_b, idxS_b, set_blk, new_blk, set_next, new_next, len_s, ldW_c, ldA_c, stB_c, toArr_one, size_one, toList_toArr, size_toArr, List.length_cons, List.length_nil, List.getElem?_cons_zero, List.getElem?_cons_succ, Nat.zero_add, Nat.add_zero, e1]
      refine gC.of (ok_specD R.law22_awake) ?_
      rintro _ m_ ⟨rfl, hm_⟩
      replace hm_ := hm_.symm
      subst hm_
      simp only [go_sem, Int.reduceBEq, Int.reduceBNe, Int.reduceNeg, reduceCtorEq, Nat.reduceEqDiff, Nat.reduceAdd, Nat.reduceLeDiff, Nat.reduceMul, Nat.reduceSub, Int.reduceToNat, Int.reduceLT, Int.reduceLE]
      try simp only [go_sem, Int.reduceBEq, Int.reduceBNe, Int.reduceNeg, reduceCtorEq, Nat.reduceEqDiff, Nat.reduceAdd, Nat.reduceLeDiff, Nat.reduceMul, Nat.reduceSub, Int.reduceToNat, Int.reduceLT, Int.reduceLE, load_w, load_a, store_b, idxS_b, set_blk, new_blk, set_next, new_next, len_s, ldW_c, ldA_c, stB_c, toArr_one, size_one, toList_toArr, size_toArr, List.length_cons, List.length_nil, List.getElem?_cons_zero, List.getElem?_cons_succ, Nat.zero_add, Nat.add_zero]
  · try simp only [go_sem, Int.reduceBEq, Int.reduceBNe, Int.reduceNeg, reduceCtorEq, Nat.reduceEqDiff, Nat.reduceAdd, Nat.reduceLeDiff, Nat.reduceMul, Nat.reduceSub, Int.reduceToNat, Int.reduceLT, Int.reduceLE, load_w, load_a, store_b, idxS_b, set_blk, new_blk, set_next, new_next, len_s, ldW_c, ldA_c, stB_c, toArr_one, size_one, toList_toArr, size_toArr, List.length_cons, List.length_nil, List.getElem?_cons_zero, List.getElem?_cons_succ, Nat.zero_add, Nat.add_zero, decide_eq_false hr]
    refine gC.of (ok_specD R.law22_awake) ?_
    rintro _ m_ ⟨rfl, hm_⟩
    replace hm_ := hm_.symm
    subst hm_
    simp only [go_sem, Int.reduceBEq, Int.reduceBNe, Int.reduceNeg, reduceCtorEq, Nat.reduceEqDiff, Nat.reduceAdd, Nat.reduceLeDiff, Nat.reduceMul, Nat.reduceSub, Int.reduceToNat, Int.reduceLT, Int.reduceLE]
    try simp only [go_sem, Int.reduceBEq, Int.reduceBNe, Int.reduceNeg, reduceCtorEq, Nat.reduceEqDiff, Nat.reduceAdd, Nat.reduceLeDiff, Nat.reduceMul, Nat.reduceSub, Int.reduceToNat, Int.reduceLT, Int.reduceLE, load_w, load_a, store_b, idxS_b, set_blk, new_blk, set_next, new_next, len_s, ldW_c, ldA_c, stB_c, toArr_one, size_one, toList_toArr, size_toArr, List.length_cons, List.length_nil, List.getElem?_cons_zero, List.getElem?_cons_succ, Nat.zero_add, Nat.add_zero]
end Go.Am


/- DiffChanges, of arguments as they are read. -/
set_option linter.unusedVariables false
namespace Go.Am
theorem law22_DiffChanges_walk (m : Mem) (us : List Value) (h : RdAs m [(true, planSh), (true, planSh)] us) : WC R F.law22_DiffChanges us m fun v _ => v = .bool true := by
  obtain ⟨_, _, rfl, h1, h⟩ := h.one; obtain ⟨_, _, rfl, h2, h⟩ := h.one; cases h.none
  obtain ⟨p, hp, -⟩ := plan_read h1; obtain ⟨q, hq, -⟩ := plan_read h2
  exact DiffChanges_spec hp hq
end Go.Am
