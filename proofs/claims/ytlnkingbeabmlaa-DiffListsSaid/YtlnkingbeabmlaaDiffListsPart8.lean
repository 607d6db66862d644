/- Parts of the proofs of the statements of this seat: DiffT5, DiffT6, DiffT7, DiffT8, DiffT9, DiffU1, DiffU2, WDiffLists. No conditions. -/
import Derived.Test.YtlnkingbeabmlaaDiffListsPart7
set_option linter.unusedVariables false
set_option linter.unusedSimpArgs false

/- Diff: the reference's lists, of other kinds. -/
set_option linter.unusedVariables false
set_option linter.unusedSimpArgs false
namespace Go.Am
open Classical
variable {m : Mem}

noncomputable def isU1 (a b : List Pl) (u : Int) : Bool := !decide (hasU a u)
noncomputable def isU2 (a b : List Pl) (u : Int) : Bool := !decide (hasU b u)
noncomputable def isU3 (a b : List Pl) (u : Int) : Bool := decide (hasU a u) && (decide (hasU b u) && decide ((findP a u).share ≠ (findP b u).share))

set_option maxHeartbeats 8000000 in
theorem List1_spec {p q : PlanD} {v w : Value} (hv : PlanV m p v) (hw : PlanV m q w) (hl : PlanL p) (hk : PlanL q) (ha : Asc p.places) (hb : Asc q.places) :
    WC R F.ref22_List [.int .i64 1, v, w] m fun r m' => Own m m' 1 (listL (isU1 p.places q.places) p.places q.places).length (intsZ (listL (isU1 p.places q.places) p.places q.places)) r ∧ Ext m m' := by
  refine WC.of R.ref22_List rfl ?_
  obtain ⟨pv, rfl, hp⟩ := hv
  obtain ⟨qv, rfl, hq⟩ := hw
  simp only [RC.ref22_List, planV, go_sem, Int.reduceBEq, Int.reduceBNe, Int.reduceNeg, reduceCtorEq, Nat.reduceEqDiff, Nat.reduceAdd, Nat.reduceLeDiff, Nat.reduceMul, Nat.reduceSub, Int.reduceToNat, Int.reduceLT, Int.reduceLE, hp.one, hq.one]
  have hx1 : Ext m (m.new (.cells [.int .i64 p.frame, u32 p.cores, pv] (some 3))) := Ext.new
  have hb1 : Bk (m.new (.cells [.int .i64 p.frame, u32 p.cores, pv] (some 3))) m.next [.int .i64 p.frame, u32 p.cores, pv] 3 := Bk.new
  generalize m.new (.cells [.int .i64 p.frame, u32 p.cores, pv] (some 3)) = m1 at hx1 hb1 ⊢
  have hx2 : Ext m1 (m1.new (.cells [.int .i64 q.frame, u32 q.cores, qv] (some 3))) := Ext.new
  have hb2 : Bk (m1.new (.cells [.int .i64 q.frame, u32 q.cores, qv] (some 3))) m1.next [.int .i64 q.frame, u32 q.cores, qv] 3 := Bk.new
  generalize m1.new (.cells [.int .i64 q.frame, u32 q.cores, qv] (some 3)) = m2 at hx2 hb2 ⊢
  have hb12 := hb1.keep hx2
  have hX := hx1.trans hx2
  have hp2 := hp.keep hX
  have hq2 := hq.keep hX
  have hbn1 := hb12.ne
  have hbn2 := hb2.ne
  have hx3 : Ext m2 (m2.new (.cells [] (some 1))) := Ext.new
  have ho3 : Own m2 (m2.new (.cells [] (some 1))) 1 0 [] (.slice (some ⟨m2.next, 0, none⟩) 0 0) := .at (all := []) (Nat.le_refl _) (by simp [Mem.new]) (Nat.le_refl _) (by simp [Mem.new]) rfl rfl rfl
  try simp only [go_sem, Int.reduceBEq, Int.reduceBNe, Int.reduceNeg, reduceCtorEq, Nat.reduceEqDiff, Nat.reduceAdd, Nat.reduceLeDiff, Nat.reduceMul, Nat.reduceSub, Int.reduceToNat, Int.reduceLT, Int.reduceLE, load_w, load_a, store_b, idxS_b, set_blk, new_blk, set_next, new_next, len_s, ldW_c, ldA_c, stB_c, toArr_one, size_one, toList_toArr, size_toArr, List.length_cons, List.length_nil, List.getElem?_cons_zero, List.getElem?_cons_succ, Nat.zero_add, Nat.add_zero, hb12.at_, hb2.at_, hbn1, hbn2]
  have hm3 : m2.next < (m2.new (.cells [] (some 1))).next := by simp [Mem.new]
  generalize m2.new (.cells [] (some 1)) = m3 at hx3 ho3 hm3 ⊢
  refine gC.of (Units_spec (p := p) (q := q) ⟨pv, rfl, hp2.keep hx3⟩ ⟨qv, rfl, hq2.keep hx3⟩ hl hk ha hb) ?_
  rintro uw m4 ⟨hou, hx4⟩
  have hul := unitsL_len (a := p.places) (b := q.places) 1040
  have hx24 := hx3.trans hx4
  have ho4 := ho3.keep hx4
  unfold listL
  generalize unitsL p.places q.places 1040 = U at *
  have hsU := hou.sl
  have hltU := hou.lt
  try simp only [go_sem, Int.reduceBEq, Int.reduceBNe, Int.reduceNeg, reduceCtorEq, Nat.reduceEqDiff, Nat.reduceAdd, Nat.reduceLeDiff, Nat.reduceMul, Nat.reduceSub, Int.reduceToNat, Int.reduceLT, Int.reduceLE, load_w, load_a, store_b, idxS_b, set_blk, new_blk, set_next, new_next, len_s, ldW_c, ldA_c, stB_c, toArr_one, size_one, toList_toArr, size_toArr, List.length_cons, List.length_nil, List.getElem?_cons_zero, List.getElem?_cons_succ, Nat.zero_add, Nat.add_zero]
  refine WL.of (fun n e m' => ∃ (i : Nat) (z : Value), i ≤ U.length ∧ n = U.length - i ∧ e = [(0, .int .i64 1), (4, pt m.next), (5, pt m1.next), (7, z), (8, uw), (9, .int .i64 i)] ∧ OwnQ m2 m4 m' m2.next 1 ((U.take i).filter (isU1 p.places q.places)).length (intsZ ((U.take i).filter (isU1 p.places q.places))) z) U.length
    ⟨0, _, by omega, by omega, by simp only [go_sem, Int.reduceBEq, Int.reduceBNe, Int.reduceNeg, reduceCtorEq, Nat.reduceEqDiff, Nat.reduceAdd, Nat.reduceLeDiff, Nat.reduceMul, Nat.reduceSub, Int.reduceToNat, Int.reduceLT, Int.reduceLE] <;> rfl, ⟨ho4, Upd.refl _ _, fun b hb => by simp [vb] at hb; exact .inl hb, hx24⟩⟩ ?_
  rintro _ _ m5 ⟨i, z, hi, rfl, rfl, ho⟩
  have hx25 := ho.ext
  have hbx := (hb12).keep hx25
  have hby := hb2.keep hx25
  have hgeU := hou.ge
  have hn23 : m2.next < m3.next := hm3
  have hoffU : SlOff [m2.next] uw := SlOff.vb_iff.2 (fun b hb hm => by simp at hm; have := hgeU b hb; omega)
  have hs5 := hsU.upd hltU hoffU ho.upd
  have hlt5 := hltU.upd ho.upd
  simp only [RB.ref22_List_1, pt, go_sem, Int.reduceBEq, Int.reduceBNe, Int.reduceNeg, reduceCtorEq, Nat.reduceEqDiff, Nat.reduceAdd, Nat.reduceLeDiff, Nat.reduceMul, Nat.reduceSub, Int.reduceToNat, Int.reduceLT, Int.reduceLE, load_w, load_a, store_b, idxS_b, set_blk, new_blk, set_next, new_next, len_s, ldW_c, ldA_c, stB_c, toArr_one, size_one, toList_toArr, size_toArr, List.length_cons, List.length_nil, List.getElem?_cons_zero, List.getElem?_cons_succ, Nat.zero_add, Nat.add_zero, hs5.len]
  have s1 := step1 (show i < 1000000 by omega)
  by_cases g1 : i < U.length
  · have e1 : decide ((i : Int) < (U.length : Int)) = true := decide_eq_true (by omega)
    obtain ⟨bb, oo, a1, a2⟩ := hs5.geti g1
    try simp only [go_sem, Int.reduceBEq, Int.reduceBNe, Int.reduceNeg, reduceCtorEq, Nat.reduceEqDiff, Nat.reduceAdd, Nat.reduceLeDiff, Nat.reduceMul, Nat.reduceSub, Int.reduceToNat, Int.reduceLT, Int.reduceLE, load_w, load_a, store_b, idxS_b, set_blk, new_blk, set_next, new_next, len_s, ldW_c, ldA_c, stB_c, toArr_one, size_one, toList_toArr, size_toArr, List.length_cons, List.length_nil, List.getElem?_cons_zero, List.getElem?_cons_succ, Nat.zero_add, Nat.add_zero, e1, hbx.at_, a1, a2]
    have hbu : Ext m5 (m5.bump 12) := Ext.bump
    refine gC.of (refFindO_spec (p := p) (u := U[i]) ⟨pv, rfl, hp2⟩ (hx25.trans hbu) hl ha) ?_
    rintro _ m6 ⟨xv, rfl, hxv, hx6⟩
    have hn6 : m5.next + 12 ≤ m6.next := hx6.next
    have hx56 := hbu.trans hx6
    have hone := hxv.one
    have hlx : (findP p.places U[i]).pieces.length < 1000000 := findP_pcs hl
    have hly : (findP q.places U[i]).pieces.length < 1000000 := findP_pcs hk
    have hset : ∀ (M : Mem) (k : Nat) (a b : Option AObj), (M.set k a).set k b = M.set k b := fun M k a b => by
      unfold Mem.set; congr 1; funext q; simp only []; split <;> rfl
    simp only [plV]
    try simp only [go_sem, Int.reduceBEq, Int.reduceBNe, Int.reduceNeg, reduceCtorEq, Nat.reduceEqDiff, Nat.reduceAdd, Nat.reduceLeDiff, Nat.reduceMul, Nat.reduceSub, Int.reduceToNat, Int.reduceLT, Int.reduceLE, load_w, load_a, store_b, idxS_b, set_blk, new_blk, set_next, new_next, len_s, ldW_c, ldA_c, stB_c, toArr_one, size_one, toList_toArr, size_toArr, List.length_cons, List.length_nil, List.getElem?_cons_zero, List.getElem?_cons_succ, Nat.zero_add, Nat.add_zero, aExt0, aExt1, hone, hset]
    have hU7 : Upd m6 (m6.set (m5.next + 9) (some (.cells [.int .i64 (findP p.places U[i]).unit, .int .i64 (findP p.places U[i]).share, .int .i64 (findP p.places U[i]).core, xv] (some 4)))) [m5.next + 9] := Upd.set (by simp)
    have hc7 : Bk (m6.set (m5.next + 9) (some (.cells [.int .i64 (findP p.places U[i]).unit, .int .i64 (findP p.places U[i]).share, .int .i64 (findP p.places U[i]).core, xv] (some 4)))) (m5.next + 9) [.int .i64 (findP p.places U[i]).unit, .int .i64 (findP p.places U[i]).share, .int .i64 (findP p.places U[i]).core, xv] 4 := ⟨by simp [Mem.set], by simp [Mem.set]; omega⟩
    have hm7n : (m6.set (m5.next + 9) (some (.cells [.int .i64 (findP p.places U[i]).unit, .int .i64 (findP p.places U[i]).share, .int .i64 (findP p.places U[i]).core, xv] (some 4)))).next = m6.next := rfl
    generalize m6.set (m5.next + 9) (some (.cells [.int .i64 (findP p.places U[i]).unit, .int .i64 (findP p.places U[i]).share, .int .i64 (findP p.places U[i]).core, xv] (some 4))) = m7 at hU7 hc7 hm7n ⊢
    have hx57 : Ext m5 m7 := hU7.ext_of hx56 (by simp)
    have hby7 := hby.keep hx57
    have hs7 := hs5.keep hlt5 hx57
    obtain ⟨b2, o2, c1, c2⟩ := hs7.geti g1
    rw [a1] at c1
    cases c1
    have hbu7 : Ext m7 (m7.bump 12) := Ext.bump
    try simp only [go_sem, Int.reduceBEq, Int.reduceBNe, Int.reduceNeg, reduceCtorEq, Nat.reduceEqDiff, Nat.reduceAdd, Nat.reduceLeDiff, Nat.reduceMul, Nat.reduceSub, Int.reduceToNat, Int.reduceLT, Int.reduceLE, load_w, load_a, store_b, idxS_b, set_blk, new_blk, set_next, new_next, len_s, ldW_c, ldA_c, stB_c, toArr_one, size_one, toList_toArr, size_toArr, List.length_cons, List.length_nil, List.getElem?_cons_zero, List.getElem?_cons_succ, Nat.zero_add, Nat.add_zero, a1, c2, hby7.at_]
    refine gC.of (refFindO_spec (p := q) (u := U[i]) ⟨qv, rfl, hq2⟩ ((hx25.trans hx57).trans hbu7) hk hb) ?_
    rintro _ m8 ⟨yv, rfl, hyv, hx8⟩
    have hn78 : m7.next + 12 ≤ m8.next := hx8.next
    have hn67 := hU7.next
    have hx78 := hbu7.trans hx8
    have hone2 := hyv.one
    have hc8 := hc7.keep hx78
    simp only [plV]
    try simp only [go_sem, Int.reduceBEq, Int.reduceBNe, Int.reduceNeg, reduceCtorEq, Nat.reduceEqDiff, Nat.reduceAdd, Nat.reduceLeDiff, Nat.reduceMul, Nat.reduceSub, Int.reduceToNat, Int.reduceLT, Int.reduceLE, load_w, load_a, store_b, idxS_b, set_blk, new_blk, set_next, new_next, len_s, ldW_c, ldA_c, stB_c, toArr_one, size_one, toList_toArr, size_toArr, List.length_cons, List.length_nil, List.getElem?_cons_zero, List.getElem?_cons_succ, Nat.zero_add, Nat.add_zero, aExt0, aExt1, hone2, hset]
    have hU9 : Upd m8 (m8.set (m6.next + 9) (some (.cells [.int .i64 (findP q.places U[i]).unit, .int .i64 (findP q.places U[i]).share, .int .i64 (findP q.places U[i]).core, yv] (some 4)))) [m6.next + 9] := Upd.set (by simp)
    have hcy9 : Bk (m8.set (m6.next + 9) (some (.cells [.int .i64 (findP q.places U[i]).unit, .int .i64 (findP q.places U[i]).share, .int .i64 (findP q.places U[i]).core, yv] (some 4)))) (m6.next + 9) [.int .i64 (findP q.places U[i]).unit, .int .i64 (findP q.places U[i]).share, .int .i64 (findP q.places U[i]).core, yv] 4 := ⟨by simp [Mem.set], by simp [Mem.set]; omega⟩
    generalize m8.set (m6.next + 9) (some (.cells [.int .i64 (findP q.places U[i]).unit, .int .i64 (findP q.places U[i]).share, .int .i64 (findP q.places U[i]).core, yv] (some 4))) = m9 at hU9 hcy9 ⊢
    have hcx9 := hc8.upd hU9 (by simp; omega)
    have hx59 : Ext m5 m9 := hU9.ext_of (hx57.trans hx78) (by simp; omega)
    have hx79 : Ext m7 m9 := hU9.ext_of hx78 (by simp; omega)
    have hyv9 : PcV m9 (findP q.places U[i]).pieces yv := hyv.keep (hx25.trans hx59)
    have hxv9 : PcV m9 (findP p.places U[i]).pieces xv := hxv.keep (hx25.trans hx59)
    have hulen : ((U.take i).filter (isU1 p.places q.places)).length ≤ i := Nat.le_trans (List.length_filter_le ..) (by rw [List.length_take]; omega)
    have htk : U.take (i + 1) = U.take i ++ [U[i]] := List.take_succ_eq_append_getElem g1
    have hstepT : isU1 p.places q.places U[i] = true → (U.take (i + 1)).filter (isU1 p.places q.places) = (U.take i).filter (isU1 p.places q.places) ++ [U[i]] := fun h => by
      rw [htk, List.filter_append]; simp [h]
    have hstepF : isU1 p.places q.places U[i] = false → (U.take (i + 1)).filter (isU1 p.places q.places) = (U.take i).filter (isU1 p.places q.places) := fun h => by
      rw [htk, List.filter_append]; simp [h]
    by_cases h1 : hasU p.places U[i]
    · have hpr : isU1 p.places q.places U[i] = false := by unfold isU1; simp [h1]
      try simp only [go_sem, Int.reduceBEq, Int.reduceBNe, Int.reduceNeg, reduceCtorEq, Nat.reduceEqDiff, Nat.reduceAdd, Nat.reduceLeDiff, Nat.reduceMul, Nat.reduceSub, Int.reduceToNat, Int.reduceLT, Int.reduceLE, load_w, load_a, store_b, idxS_b, set_blk, new_blk, set_next, new_next, len_s, ldW_c, ldA_c, stB_c, toArr_one, size_one, toList_toArr, size_toArr, List.length_cons, List.length_nil, List.getElem?_cons_zero, List.getElem?_cons_succ, Nat.zero_add, Nat.add_zero, decide_eq_true h1, s1]
      refine ⟨U.length - (i + 1), by omega, i + 1, z, by omega, rfl, rfl, ?_⟩
      rw [hstepF hpr]; exact ho.keep (hx59)
    · have hpr : isU1 p.places q.places U[i] = true := by unfold isU1; simp [h1]
      obtain ⟨b3, o3, d1, d2⟩ := (hs5.keep hlt5 (hx59)).geti g1
      rw [a1] at d1
      cases d1
      obtain ⟨v', mz, p1, p2⟩ := (ho.keep (hx59)).app (by_ := 8) (es := [.int .i64 U[i]]) (by omega) rfl rfl (by omega) (by omega)
      try simp only [go_sem, Int.reduceBEq, Int.reduceBNe, Int.reduceNeg, reduceCtorEq, Nat.reduceEqDiff, Nat.reduceAdd, Nat.reduceLeDiff, Nat.reduceMul, Nat.reduceSub, Int.reduceToNat, Int.reduceLT, Int.reduceLE, load_w, load_a, store_b, idxS_b, set_blk, new_blk, set_next, new_next, len_s, ldW_c, ldA_c, stB_c, toArr_one, size_one, toList_toArr, size_toArr, List.length_cons, List.length_nil, List.getElem?_cons_zero, List.getElem?_cons_succ, Nat.zero_add, Nat.add_zero, decide_eq_false h1, a1, d2, p1, s1]
      refine ⟨U.length - (i + 1), by omega, i + 1, v', by omega, rfl, rfl, ?_⟩
      rw [hstepT hpr, List.length_append]
      unfold intsZ at p2 ⊢
      rw [List.map_append]; exact p2
  · have e1 : decide ((i : Int) < (U.length : Int)) = false := decide_eq_false (by omega)
    have hi2 : i = U.length := by omega
    subst hi2
    rw [List.take_length] at ho
    try simp only [go_sem, Int.reduceBEq, Int.reduceBNe, Int.reduceNeg, reduceCtorEq, Nat.reduceEqDiff, Nat.reduceAdd, Nat.reduceLeDiff, Nat.reduceMul, Nat.reduceSub, Int.reduceToNat, Int.reduceLT, Int.reduceLE, load_w, load_a, store_b, idxS_b, set_blk, new_blk, set_next, new_next, len_s, ldW_c, ldA_c, stB_c, toArr_one, size_one, toList_toArr, size_toArr, List.length_cons, List.length_nil, List.getElem?_cons_zero, List.getElem?_cons_succ, Nat.zero_add, Nat.add_zero, e1]
    exact ⟨ho.own.weak hX, hX.trans hx25⟩

set_option maxHeartbeats 8000000 in
theorem List2_spec {p q : PlanD} {v w : Value} (hv : PlanV m p v) (hw : PlanV m q w) (hl : PlanL p) (hk : PlanL q) (ha : Asc p.places) (hb : Asc q.places) :
    WC R F.ref22_List [.int .i64 2, v, w] m fun r m' => Own m m' 1 (listL (isU2 p.places q.places) p.places q.places).length (intsZ (listL (isU2 p.places q.places) p.places q.places)) r ∧ Ext m m' := by
  refine WC.of R.ref22_List rfl ?_
  obtain ⟨pv, rfl, hp⟩ := hv
  obtain ⟨qv, rfl, hq⟩ := hw
  simp only [RC.ref22_List, planV, go_sem, Int.reduceBEq, Int.reduceBNe, Int.reduceNeg, reduceCtorEq, Nat.reduceEqDiff, Nat.reduceAdd, Nat.reduceLeDiff, Nat.reduceMul, Nat.reduceSub, Int.reduceToNat, Int.reduceLT, Int.reduceLE, hp.one, hq.one]
  have hx1 : Ext m (m.new (.cells [.int .i64 p.frame, u32 p.cores, pv] (some 3))) := Ext.new
  have hb1 : Bk (m.new (.cells [.int .i64 p.frame, u32 p.cores, pv] (some 3))) m.next [.int .i64 p.frame, u32 p.cores, pv] 3 := Bk.new
  generalize m.new (.cells [.int .i64 p.frame, u32 p.cores, pv] (some 3)) = m1 at hx1 hb1 ⊢
  have hx2 : Ext m1 (m1.new (.cells [.int .i64 q.frame, u32 q.cores, qv] (some 3))) := Ext.new
  have hb2 : Bk (m1.new (.cells [.int .i64 q.frame, u32 q.cores, qv] (some 3))) m1.next [.int .i64 q.frame, u32 q.cores, qv] 3 := Bk.new
  generalize m1.new (.cells [.int .i64 q.frame, u32 q.cores, qv] (some 3)) = m2 at hx2 hb2 ⊢
  have hb12 := hb1.keep hx2
  have hX := hx1.trans hx2
  have hp2 := hp.keep hX
  have hq2 := hq.keep hX
  have hbn1 := hb12.ne
  have hbn2 := hb2.ne
  have hx3 : Ext m2 (m2.new (.cells [] (some 1))) := Ext.new
  have ho3 : Own m2 (m2.new (.cells [] (some 1))) 1 0 [] (.slice (some ⟨m2.next, 0, none⟩) 0 0) := .at (all := []) (Nat.le_refl _) (by simp [Mem.new]) (Nat.le_refl _) (by simp [Mem.new]) rfl rfl rfl
  try simp only [go_sem, Int.reduceBEq, Int.reduceBNe, Int.reduceNeg, reduceCtorEq, Nat.reduceEqDiff, Nat.reduceAdd, Nat.reduceLeDiff, Nat.reduceMul, Nat.reduceSub, Int.reduceToNat, Int.reduceLT, Int.reduceLE, load_w, load_a, store_b, idxS_b, set_blk, new_blk, set_next, new_next, len_s, ldW_c, ldA_c, stB_c, toArr_one, size_one, toList_toArr, size_toArr, List.length_cons, List.length_nil, List.getElem?_cons_zero, List.getElem?_cons_succ, Nat.zero_add, Nat.add_zero, hb12.at_, hb2.at_, hbn1, hbn2]
  have hm3 : m2.next < (m2.new (.cells [] (some 1))).next := by simp [Mem.new]
  generalize m2.new (.cells [] (some 1)) = m3 at hx3 ho3 hm3 ⊢
  refine gC.of (Units_spec (p := p) (q := q) ⟨pv, rfl, hp2.keep hx3⟩ ⟨qv, rfl, hq2.keep hx3⟩ hl hk ha hb) ?_
  rintro uw m4 ⟨hou, hx4⟩
  have hul := unitsL_len (a := p.places) (b := q.places) 1040
  have hx24 := hx3.trans hx4
  have ho4 := ho3.keep hx4
  unfold listL
  generalize unitsL p.places q.places 1040 = U at *
  have hsU := hou.sl
  have hltU := hou.lt
  try simp only [go_sem, Int.reduceBEq, Int.reduceBNe, Int.reduceNeg, reduceCtorEq, Nat.reduceEqDiff, Nat.reduceAdd, Nat.reduceLeDiff, Nat.reduceMul, Nat.reduceSub, Int.reduceToNat, Int.reduceLT, Int.reduceLE, load_w, load_a, store_b, idxS_b, set_blk, new_blk, set_next, new_next, len_s, ldW_c, ldA_c, stB_c, toArr_one, size_one, toList_toArr, size_toArr, List.length_cons, List.length_nil, List.getElem?_cons_zero, List.getElem?_cons_succ, Nat.zero_add, Nat.add_zero]
  refine WL.of (fun n e m' => ∃ (i : Nat) (z : Value), i ≤ U.length ∧ n = U.length - i ∧ e = [(0, .int .i64 2), (4, pt m.next), (5, pt m1.next), (7, z), (8, uw), (9, .int .i64 i)] ∧ OwnQ m2 m4 m' m2.next 1 ((U.take i).filter (isU2 p.places q.places)).length (intsZ ((U.take i).filter (isU2 p.places q.places))) z) U.length
    ⟨0, _, by omega, by omega, by simp only [go_sem, Int.reduceBEq, Int.reduceBNe, Int.reduceNeg, reduceCtorEq, Nat.reduceEqDiff, Nat.reduceAdd, Nat.reduceLeDiff, Nat.reduceMul, Nat.reduceSub, Int.reduceToNat, Int.reduceLT, Int.reduceLE] <;> rfl, ⟨ho4, Upd.refl _ _, fun b hb => by simp [vb] at hb; exact .inl hb, hx24⟩⟩ ?_
  rintro _ _ m5 ⟨i, z, hi, rfl, rfl, ho⟩
  have hx25 := ho.ext
  have hbx := (hb12).keep hx25
  have hby := hb2.keep hx25
  have hgeU := hou.ge
  have hn23 : m2.next < m3.next := hm3
  have hoffU : SlOff [m2.next] uw := SlOff.vb_iff.2 (fun b hb hm => by simp at hm; have := hgeU b hb; omega)
  have hs5 := hsU.upd hltU hoffU ho.upd
  have hlt5 := hltU.upd ho.upd
  simp only [RB.ref22_List_1, pt, go_sem, Int.reduceBEq, Int.reduceBNe, Int.reduceNeg, reduceCtorEq, Nat.reduceEqDiff, Nat.reduceAdd, Nat.reduceLeDiff, Nat.reduceMul, Nat.reduceSub, Int.reduceToNat, Int.reduceLT, Int.reduceLE, load_w, load_a, store_b, idxS_b, set_blk, new_blk, set_next, new_next, len_s, ldW_c, ldA_c, stB_c, toArr_one, size_one, toList_toArr, size_toArr, List.length_cons, List.length_nil, List.getElem?_cons_zero, List.getElem?_cons_succ, Nat.zero_add, Nat.add_zero, hs5.len]
  have s1 := step1 (show i < 1000000 by omega)
  by_cases g1 : i < U.length
  · have e1 : decide ((i : Int) < (U.length : Int)) = true := decide_eq_true (by omega)
    obtain ⟨bb, oo, a1, a2⟩ := hs5.geti g1
    try simp only [go_sem, Int.reduceBEq, Int.reduceBNe, Int.reduceNeg, reduceCtorEq, Nat.reduceEqDiff, Nat.reduceAdd, Nat.reduceLeDiff, Nat.reduceMul, Nat.reduceSub, Int.reduceToNat, Int.reduceLT, Int.reduceLE, load_w, load_a, store_b, idxS_b, set_blk, new_blk, set_next, new_next, len_s, ldW_c, ldA_c, stB_c, toArr_one, size_one, toList_toArr, size_toArr, List.length_cons, List.length_nil, List.getElem?_cons_zero, List.getElem?_cons_succ, Nat.zero_add, Nat.add_zero, e1, hbx.at_, a1, a2]
    have hbu : Ext m5 (m5.bump 12) := Ext.bump
    refine gC.of (refFindO_spec (p := p) (u := U[i]) ⟨pv, rfl, hp2⟩ (hx25.trans hbu) hl ha) ?_
    rintro _ m6 ⟨xv, rfl, hxv, hx6⟩
    have hn6 : m5.next + 12 ≤ m6.next := hx6.next
    have hx56 := hbu.trans hx6
    have hone := hxv.one
    have hlx : (findP p.places U[i]).pieces.length < 1000000 := findP_pcs hl
    have hly : (findP q.places U[i]).pieces.length < 1000000 := findP_pcs hk
    have hset : ∀ (M : Mem) (k : Nat) (a b : Option AObj), (M.set k a).set k b = M.set k b := fun M k a b => by
      unfold Mem.set; congr 1; funext q; simp only []; split <;> rfl
    simp only [plV]
    try simp only [go_sem, Int.reduceBEq, Int.reduceBNe, Int.reduceNeg, reduceCtorEq, Nat.reduceEqDiff, Nat.reduceAdd, Nat.reduceLeDiff, Nat.reduceMul, Nat.reduceSub, Int.reduceToNat, Int.reduceLT, Int.reduceLE, load_w, load_a, store_b, idxS_b, set_blk, new_blk, set_next, new_next, len_s, ldW_c, ldA_c, stB_c, toArr_one, size_one, toList_toArr, size_toArr, List.length_cons, List.length_nil, List.getElem?_cons_zero, List.getElem?_cons_succ, Nat.zero_add, Nat.add_zero, aExt0, aExt1, hone, hset]
    have hU7 : Upd m6 (m6.set (m5.next + 9) (some (.cells [.int .i64 (findP p.places U[i]).unit, .int .i64 (findP p.places U[i]).share, .int .i64 (findP p.places U[i]).core, xv] (some 4)))) [m5.next + 9] := Upd.set (by simp)
    have hc7 : Bk (m6.set (m5.next + 9) (some (.cells [.int .i64 (findP p.places U[i]).unit, .int .i64 (findP p.places U[i]).share, .int .i64 (findP p.places U[i]).core, xv] (some 4)))) (m5.next + 9) [.int .i64 (findP p.places U[i]).unit, .int .i64 (findP p.places U[i]).share, .int .i64 (findP p.places U[i]).core, xv] 4 := ⟨by simp [Mem.set], by simp [Mem.set]; omega⟩
    have hm7n : (m6.set (m5.next + 9) (some (.cells [.int .i64 (findP p.places U[i]).unit, .int .i64 (findP p.places U[i]).share, .int .i64 (findP p.places U[i]).core, xv] (some 4)))).next = m6.next := rfl
    generalize m6.set (m5.next + 9) (some (.cells [.int .i64 (findP p.places U[i]).unit, .int .i64 (findP p.places U[i]).share, .int .i64 (findP p.places U[i]).core, xv] (some 4))) = m7 at hU7 hc7 hm7n ⊢
    have hx57 : Ext m5 m7 := hU7.ext_of hx56 (by simp)
    have hby7 := hby.keep hx57
    have hs7 := hs5.keep hlt5 hx57
    obtain ⟨b2, o2, c1, c2⟩ := hs7.geti g1
    rw [a1] at c1
    cases c1
    have hbu7 : Ext m7 (m7.bump 12) := Ext.bump
    try simp only [go_sem, Int.reduceBEq, Int.reduceBNe, Int.reduceNeg, reduceCtorEq, Nat.reduceEqDiff, Nat.reduceAdd, Nat.reduceLeDiff, Nat.reduceMul, Nat.reduceSub, Int.reduceToNat, Int.reduceLT, Int.reduceLE, load_w, load_a, store_b, idxS_b, set_blk, new_blk, set_next, new_next, len_s, ldW_c, ldA_c, stB_c, toArr_one, size_one, toList_toArr, size_toArr, List.length_cons, List.length_nil, List.getElem?_cons_zero, List.getElem?_cons_succ, Nat.zero_add, Nat.add_zero, a1, c2, hby7.at_]
    refine gC.of (refFindO_spec (p := q) (u := U[i]) ⟨qv, rfl, hq2⟩ ((hx25.trans hx57).trans hbu7) hk hb) ?_
    rintro _ m8 ⟨yv, rfl, hyv, hx8⟩
    have hn78 : m7.next + 12 ≤ m8.next := hx8.next
    have hn67 := hU7.next
    have hx78 := hbu7.trans hx8
    have hone2 := hyv.one
    have hc8 := hc7.keep hx78
    simp only [plV]
    try simp only [go_sem, Int.reduceBEq, Int.reduceBNe, Int.reduceNeg, reduceCtorEq, Nat.reduceEqDiff, Nat.reduceAdd, Nat.reduceLeDiff, Nat.reduceMul, Nat.reduceSub, Int.reduceToNat, Int.reduceLT, Int.reduceLE, load_w, load_a, store_b, idxS_b, set_blk, new_blk, set_next, new_next, len_s, ldW_c, ldA_c, stB_c, toArr_one, size_one, toList_toArr, size_toArr, List.length_cons, List.length_nil, List.getElem?_cons_zero, List.getElem?_cons_succ, Nat.zero_add, Nat.add_zero, aExt0, aExt1, hone2, hset]
    have hU9 : Upd m8 (m8.set (m6.next + 9) (some (.cells [.int .i64 (findP q.places U[i]).unit, .int .i64 (findP q.places U[i]).share, .int .i64 (findP q.places U[i]).core, yv] (some 4)))) [m6.next + 9] := Upd.set (by simp)
    have hcy9 : Bk (m8.set (m6.next + 9) (some (.cells [.int .i64 (findP q.places U[i]).unit, .int .i64 (findP q.places U[i]).share, .int .i64 (findP q.places U[i]).core, yv] (some 4)))) (m6.next + 9) [.int .i64 (findP q.places U[i]).unit, .int .i64 (findP q.places U[i]).share, .int .i64 (findP q.places U[i]).core, yv] 4 := ⟨by simp [Mem.set], by simp [Mem.set]; omega⟩
    generalize m8.set (m6.next + 9) (some (.cells [.int .i64 (findP q.places U[i]).unit, .int .i64 (findP q.places U[i]).share, .int .i64 (findP q.places U[i]).core, yv] (some 4))) = m9 at hU9 hcy9 ⊢
    have hcx9 := hc8.upd hU9 (by simp; omega)
    have hx59 : Ext m5 m9 := hU9.ext_of (hx57.trans hx78) (by simp; omega)
    have hx79 : Ext m7 m9 := hU9.ext_of hx78 (by simp; omega)
    have hyv9 : PcV m9 (findP q.places U[i]).pieces yv := hyv.keep (hx25.trans hx59)
    have hxv9 : PcV m9 (findP p.places U[i]).pieces xv := hxv.keep (hx25.trans hx59)
    have hulen : ((U.take i).filter (isU2 p.places q.places)).length ≤ i := Nat.le_trans (List.length_filter_le ..) (by rw [List.length_take]; omega)
    have htk : U.take (i + 1) = U.take i ++ [U[i]] := List.take_succ_eq_append_getElem g1
    have hstepT : isU2 p.places q.places U[i] = true → (U.take (i + 1)).filter (isU2 p.places q.places) = (U.take i).filter (isU2 p.places q.places) ++ [U[i]] := fun h => by
      rw [htk, List.filter_append]; simp [h]
    have hstepF : isU2 p.places q.places U[i] = false → (U.take (i + 1)).filter (isU2 p.places q.places) = (U.take i).filter (isU2 p.places q.places) := fun h => by
      rw [htk, List.filter_append]; simp [h]
    by_cases h1 : hasU q.places U[i]
    · have hpr : isU2 p.places q.places U[i] = false := by unfold isU2; simp [h1]
      try simp only [go_sem, Int.reduceBEq, Int.reduceBNe, Int.reduceNeg, reduceCtorEq, Nat.reduceEqDiff, Nat.reduceAdd, Nat.reduceLeDiff, Nat.reduceMul, Nat.reduceSub, Int.reduceToNat, Int.reduceLT, Int.reduceLE, load_w, load_a, store_b, idxS_b, set_blk, new_blk, set_next, new_next, len_s, ldW_c, ldA_c, stB_c, toArr_one, size_one, toList_toArr, size_toArr, List.length_cons, List.length_nil, List.getElem?_cons_zero, List.getElem?_cons_succ, Nat.zero_add, Nat.add_zero, decide_eq_true h1, s1]
      refine ⟨U.length - (i + 1), by omega, i + 1, z, by omega, rfl, rfl, ?_⟩
      rw [hstepF hpr]; exact ho.keep (hx59)
    · have hpr : isU2 p.places q.places U[i] = true := by unfold isU2; simp [h1]
      obtain ⟨b3, o3, d1, d2⟩ := (hs5.keep hlt5 (hx59)).geti g1
      rw [a1] at d1
      cases d1
      obtain ⟨v', mz, p1, p2⟩ := (ho.keep (hx59)).app (by_ := 8) (es := [.int .i64 U[i]]) (by omega) rfl rfl (by omega) (by omega)
      try simp only [go_sem, Int.reduceBEq, Int.reduceBNe, Int.reduceNeg, reduceCtorEq, Nat.reduceEqDiff, Nat.reduceAdd, Nat.reduceLeDiff, Nat.reduceMul, Nat.reduceSub, Int.reduceToNat, Int.reduceLT, Int.reduceLE, load_w, load_a, store_b, idxS_b, set_blk, new_blk, set_next, new_next, len_s, ldW_c, ldA_c, stB_c, toArr_one, size_one, toList_toArr, size_toArr, List.length_cons, List.length_nil, List.getElem?_cons_zero, List.getElem?_cons_succ, Nat.zero_add, Nat.add_zero, decide_eq_false h1, a1, d2, p1, s1]
      refine ⟨U.length - (i + 1), by omega, i + 1, v', by omega, rfl, rfl, ?_⟩
      rw [hstepT hpr, List.length_append]
      unfold intsZ at p2 ⊢
      rw [List.map_append]; exact p2
  · have e1 : decide ((i : Int) < (U.length : Int)) = false := decide_eq_false (by omega)
    have hi2 : i = U.length := by omega
    subst hi2
    rw [List.take_length] at ho
    try simp only [go_sem, Int.reduceBEq, Int.reduceBNe, Int.reduceNeg, reduceCtorEq, Nat.reduceEqDiff, Nat.reduceAdd, Nat.reduceLeDiff, Nat.reduceMul, Nat.reduceSub, Int.reduceToNat, Int.reduceLT, Int.reduceLE, load_w, load_a, store_b, idxS_b, set_blk, new_blk, set_next, new_next, len_s, ldW_c, ldA_c, stB_c, toArr_one, size_one, toList_toArr, size_toArr, List.length_cons, List.length_nil, List.getElem?_cons_zero, List.getElem?_cons_succ, Nat.zero_add, Nat.add_zero, e1]
    exact ⟨ho.own.weak hX, hX.trans hx25⟩

set_option maxHeartbeats 8000000 in
theorem List3_spec {p q : PlanD} {v w : Value} (hv : PlanV m p v) (hw : PlanV m q w) (hl : PlanL p) (hk : PlanL q) (ha : Asc p.places) (hb : Asc q.places) :
    WC R F.ref22_List [.int .i64 3, v, w] m fun r m' => Own m m' 1 (listL (isU3 p.places q.places) p.places q.places).length (intsZ (listL (isU3 p.places q.places) p.places q.places)) r ∧ Ext m m' := by
  refine WC.of R.ref22_List rfl ?_
  obtain ⟨pv, rfl, hp⟩ := hv
  obtain ⟨qv, rfl, hq⟩ := hw
  simp only [RC.ref22_List, planV, go_sem, Int.reduceBEq, Int.reduceBNe, Int.reduceNeg, reduceCtorEq, Nat.reduceEqDiff, Nat.reduceAdd, Nat.reduceLeDiff, Nat.reduceMul, Nat.reduceSub, Int.reduceToNat, Int.reduceLT, Int.reduceLE, hp.one, hq.one]
  have hx1 : Ext m (m.new (.cells [.int .i64 p.frame, u32 p.cores, pv] (some 3))) := Ext.new
  have hb1 : Bk (m.new (.cells [.int .i64 p.frame, u32 p.cores, pv] (some 3))) m.next [.int .i64 p.frame, u32 p.cores, pv] 3 := Bk.new
  generalize m.new (.cells [.int .i64 p.frame, u32 p.cores, pv] (some 3)) = m1 at hx1 hb1 ⊢
  have hx2 : Ext m1 (m1.new (.cells [.int .i64 q.frame, u32 q.cores, qv] (some 3))) := Ext.new
  have hb2 : Bk (m1.new (.cells [.int .i64 q.frame, u32 q.cores, qv] (some 3))) m1.next [.int .i64 q.frame, u32 q.cores, qv] 3 := Bk.new
  generalize m1.new (.cells [.int .i64 q.frame, u32 q.cores, qv] (some 3)) = m2 at hx2 hb2 ⊢
  have hb12 := hb1.keep hx2
  have hX := hx1.trans hx2
  have hp2 := hp.keep hX
  have hq2 := hq.keep hX
  have hbn1 := hb12.ne
  have hbn2 := hb2.ne
  have hx3 : Ext m2 (m2.new (.cells [] (some 1))) := Ext.new
  have ho3 : Own m2 (m2.new (.cells [] (some 1))) 1 0 [] (.slice (some ⟨m2.next, 0, none⟩) 0 0) := .at (all := []) (Nat.le_refl _) (by simp [Mem.new]) (Nat.le_refl _) (by simp [Mem.new]) rfl rfl rfl
  try simp only [go_sem, Int.reduceBEq, Int.reduceBNe, Int.reduceNeg, reduceCtorEq, Nat.reduceEqDiff, Nat.reduceAdd, Nat.reduceLeDiff, Nat.reduceMul, Nat.reduceSub, Int.reduceToNat, Int.reduceLT, Int.reduceLE, load_w, load_a, store_b, idxS_b, set_blk, new_blk, set_next, new_next, len_s, ldW_c, ldA_c, stB_c, toArr_one, size_one, toList_toArr, size_toArr, List.length_cons, List.length_nil, List.getElem?_cons_zero, List.getElem?_cons_succ, Nat.zero_add, Nat.add_zero, hb12.at_, hb2.at_, hbn1, hbn2]
  have hm3 : m2.next < (m2.new (.cells [] (some 1))).next := by simp [Mem.new]
  generalize m2.new (.cells [] (some 1)) = m3 at hx3 ho3 hm3 ⊢
  refine gC.of (Units_spec (p := p) (q := q) ⟨pv, rfl, hp2.keep hx3⟩ ⟨qv, rfl, hq2.keep hx3⟩ hl hk ha hb) ?_
  rintro uw m4 ⟨hou, hx4⟩
  have hul := unitsL_len (a := p.places) (b := q.places) 1040
  have hx24 := hx3.trans hx4
  have ho4 := ho3.keep hx4
  unfold listL
  generalize unitsL p.places q.places 1040 = U at *
  have hsU := hou.sl
  have hltU := hou.lt
  try simp only [go_sem, Int.reduceBEq, Int.reduceBNe, Int.reduceNeg, reduceCtorEq, Nat.reduceEqDiff, Nat.reduceAdd, Nat.reduceLeDiff, Nat.reduceMul, Nat.reduceSub, Int.reduceToNat, Int.reduceLT, Int.reduceLE, load_w, load_a, store_b, idxS_b, set_blk, new_blk, set_next, new_next, len_s, ldW_c, ldA_c, stB_c, toArr_one, size_one, toList_toArr, size_toArr, List.length_cons, List.length_nil, List.getElem?_cons_zero, List.getElem?_cons_succ, Nat.zero_add, Nat.add_zero]
  refine WL.of (fun n e m' => ∃ (i : Nat) (z : Value), i ≤ U.length ∧ n = U.length - i ∧ e = [(0, .int .i64 3), (4, pt m.next), (5, pt m1.next), (7, z), (8, uw), (9, .int .i64 i)] ∧ OwnQ m2 m4 m' m2.next 1 ((U.take i).filter (isU3 p.places q.places)).length (intsZ ((U.take i).filter (isU3 p.places q.places))) z) U.length
    ⟨0, _, by omega, by omega, by simp only [go_sem, Int.reduceBEq, Int.reduceBNe, Int.reduceNeg, reduceCtorEq, Nat.reduceEqDiff, Nat.reduceAdd, Nat.reduceLeDiff, Nat.reduceMul, Nat.reduceSub, Int.reduceToNat, Int.reduceLT, Int.reduceLE] <;> rfl, ⟨ho4, Upd.refl _ _, fun b hb => by simp [vb] at hb; exact .inl hb, hx24⟩⟩ ?_
  rintro _ _ m5 ⟨i, z, hi, rfl, rfl, ho⟩
  have hx25 := ho.ext
  have hbx := (hb12).keep hx25
  have hby := hb2.keep hx25
  have hgeU := hou.ge
  have hn23 : m2.next < m3.next := hm3
  have hoffU : SlOff [m2.next] uw := SlOff.vb_iff.2 (fun b hb hm => by simp at hm; have := hgeU b hb; omega)
  have hs5 := hsU.upd hltU hoffU ho.upd
  have hlt5 := hltU.upd ho.upd
  simp only [RB.ref22_List_1, pt, go_sem, Int.reduceBEq, Int.reduceBNe, Int.reduceNeg, reduceCtorEq, Nat.reduceEqDiff, Nat.reduceAdd, Nat.reduceLeDiff, Nat.reduceMul, Nat.reduceSub, Int.reduceToNat, Int.reduceLT, Int.reduceLE, load_w, load_a, store_b, idxS_b, set_blk, new_blk, set_next, new_next, len_s, ldW_c, ldA_c, stB_c, toArr_one, size_one, toList_toArr, size_toArr, List.length_cons, List.length_nil, List.getElem?_cons_zero, List.getElem?_cons_succ, Nat.zero_add, Nat.add_zero, hs5.len]
  have s1 := step1 (show i < 1000000 by omega)
  by_cases g1 : i < U.length
  · have e1 : decide ((i : Int) < (U.length : Int)) = true := decide_eq_true (by omega)
    obtain ⟨bb, oo, a1, a2⟩ := hs5.geti g1
    try simp only [go_sem, Int.reduceBEq, Int.reduceBNe, Int.reduceNeg, reduceCtorEq, Nat.reduceEqDiff, Nat.reduceAdd, Nat.reduceLeDiff, Nat.reduceMul, Nat.reduceSub, Int.reduceToNat, Int.reduceLT, Int.reduceLE, load_w, load_a, store_b, idxS_b, set_blk, new_blk, set_next, new_next, len_s, ldW_c, ldA_c, stB_c, toArr_one, size_one, toList_toArr, size_toArr, List.length_cons, List.length_nil, List.getElem?_cons_zero, List.getElem?_cons_succ, Nat.zero_add, Nat.add_zero, e1, hbx.at_, a1, a2]
    have hbu : Ext m5 (m5.bump 12) := Ext.bump
    refine gC.of (refFindO_spec (p := p) (u := U[i]) ⟨pv, rfl, hp2⟩ (hx25.trans hbu) hl ha) ?_
    rintro _ m6 ⟨xv, rfl, hxv, hx6⟩
    have hn6 : m5.next + 12 ≤ m6.next := hx6.next
    have hx56 := hbu.trans hx6
    have hone := hxv.one
    have hlx : (findP p.places U[i]).pieces.length < 1000000 := findP_pcs hl
    have hly : (findP q.places U[i]).pieces.length < 1000000 := findP_pcs hk
    have hset : ∀ (M : Mem) (k : Nat) (a b : Option AObj), (M.set k a).set k b = M.set k b := fun M k a b => by
      unfold Mem.set; congr 1; funext q; simp only []; split <;> rfl
    simp only [plV]
    try simp only [go_sem, Int.reduceBEq, Int.reduceBNe, Int.reduceNeg, reduceCtorEq, Nat.reduceEqDiff, Nat.reduceAdd, Nat.reduceLeDiff, Nat.reduceMul, Nat.reduceSub, Int.reduceToNat, Int.reduceLT, Int.reduceLE, load_w, load_a, store_b, idxS_b, set_blk, new_blk, set_next, new_next, len_s, ldW_c, ldA_c, stB_c, toArr_one, size_one, toList_toArr, size_toArr, List.length_cons, List.length_nil, List.getElem?_cons_zero, List.getElem?_cons_succ, Nat.zero_add, Nat.add_zero, aExt0, aExt1, hone, hset]
    have hU7 : Upd m6 (m6.set (m5.next + 9) (some (.cells [.int .i64 (findP p.places U[i]).unit, .int .i64 (findP p.places U[i]).share, .int .i64 (findP p.places U[i]).core, xv] (some 4)))) [m5.next + 9] := Upd.set (by simp)
    have hc7 : Bk (m6.set (m5.next + 9) (some (.cells [.int .i64 (findP p.places U[i]).unit, .int .i64 (findP p.places U[i]).share, .int .i64 (findP p.places U[i]).core, xv] (some 4)))) (m5.next + 9) [.int .i64 (findP p.places U[i]).unit, .int .i64 (findP p.places U[i]).share, .int .i64 (findP p.places U[i]).core, xv] 4 := ⟨by simp [Mem.set], by simp [Mem.set]; omega⟩
    have hm7n : (m6.set (m5.next + 9) (some (.cells [.int .i64 (findP p.places U[i]).unit, .int .i64 (findP p.places U[i]).share, .int .i64 (findP p.places U[i]).core, xv] (some 4)))).next = m6.next := rfl
    generalize m6.set (m5.next + 9) (some (.cells [.int .i64 (findP p.places U[i]).unit, .int .i64 (findP p.places U[i]).share, .int .i64 (findP p.places U[i]).core, xv] (some 4))) = m7 at hU7 hc7 hm7n ⊢
    have hx57 : Ext m5 m7 := hU7.ext_of hx56 (by simp)
    have hby7 := hby.keep hx57
    have hs7 := hs5.keep hlt5 hx57
    obtain ⟨b2, o2, c1, c2⟩ := hs7.geti g1
    rw [a1] at c1
    cases c1
    have hbu7 : Ext m7 (m7.bump 12) := Ext.bump
    try simp only [go_sem, Int.reduceBEq, Int.reduceBNe, Int.reduceNeg, reduceCtorEq, Nat.reduceEqDiff, Nat.reduceAdd, Nat.reduceLeDiff, Nat.reduceMul, Nat.reduceSub, Int.reduceToNat, Int.reduceLT, Int.reduceLE, load_w, load_a, store_b, idxS_b, set_blk, new_blk, set_next, new_next, len_s, ldW_c, ldA_c, stB_c, toArr_one, size_one, toList_toArr, size_toArr, List.length_cons, List.length_nil, List.getElem?_cons_zero, List.getElem?_cons_succ, Nat.zero_add, Nat.add_zero, a1, c2, hby7.at_]
    refine gC.of (refFindO_spec (p := q) (u := U[i]) ⟨qv, rfl, hq2⟩ ((hx25.trans hx57).trans hbu7) hk hb) ?_
    rintro _ m8 ⟨yv, rfl, hyv, hx8⟩
    have hn78 : m7.next + 12 ≤ m8.next := hx8.next
    have hn67 := hU7.next
    have hx78 := hbu7.trans hx8
    have hone2 := hyv.one
    have hc8 := hc7.keep hx78
    simp only [plV]
    try simp only [go_sem, Int.reduceBEq, Int.reduceBNe, Int.reduceNeg, reduceCtorEq, Nat.reduceEqDiff, Nat.reduceAdd, Nat.reduceLeDiff, Nat.reduceMul, Nat.reduceSub, Int.reduceToNat, Int.reduceLT, Int.reduceLE, load_w, load_a, store_b, idxS_b, set_blk, new_blk, set_next, new_next, len_s, ldW_c, ldA_c, stB_c, toArr_one, size_one, toList_toArr, size_toArr, List.length_cons, List.length_nil, List.getElem?_cons_zero, List.getElem?_cons_succ, Nat.zero_add, Nat.add_zero, aExt0, aExt1, hone2, hset]
    have hU9 : Upd m8 (m8.set (m6.next + 9) (some (.cells [.int .i64 (findP q.places U[i]).unit, .int .i64 (findP q.places U[i]).share, .int .i64 (findP q.places U[i]).core, yv] (some 4)))) [m6.next + 9] := Upd.set (by simp)
    have hcy9 : Bk (m8.set (m6.next + 9) (some (.cells [.int .i64 (findP q.places U[i]).unit, .int .i64 (findP q.places U[i]).share, .int .i64 (findP q.places U[i]).core, yv] (some 4)))) (m6.next + 9) [.int .i64 (findP q.places U[i]).unit, .int .i64 (findP q.places U[i]).share, .int .i64 (findP q.places U[i]).core, yv] 4 := ⟨by simp [Mem.set], by simp [Mem.set]; omega⟩
    generalize m8.set (m6.next + 9) (some (.cells [.int .i64 (findP q.places U[i]).unit, .int .i64 (findP q.places U[i]).share, .int .i64 (findP q.places U[i]).core, yv] (some 4))) = m9 at hU9 hcy9 ⊢
    have hcx9 := hc8.upd hU9 (by simp; omega)
    have hx59 : Ext m5 m9 := hU9.ext_of (hx57.trans hx78) (by simp; omega)
    have hx79 : Ext m7 m9 := hU9.ext_of hx78 (by simp; omega)
    have hyv9 : PcV m9 (findP q.places U[i]).pieces yv := hyv.keep (hx25.trans hx59)
    have hxv9 : PcV m9 (findP p.places U[i]).pieces xv := hxv.keep (hx25.trans hx59)
    have hulen : ((U.take i).filter (isU3 p.places q.places)).length ≤ i := Nat.le_trans (List.length_filter_le ..) (by rw [List.length_take]; omega)
    have htk : U.take (i + 1) = U.take i ++ [U[i]] := List.take_succ_eq_append_getElem g1
    have hstepT : isU3 p.places q.places U[i] = true → (U.take (i + 1)).filter (isU3 p.places q.places) = (U.take i).filter (isU3 p.places q.places) ++ [U[i]] := fun h => by
      rw [htk, List.filter_append]; simp [h]
    have hstepF : isU3 p.places q.places U[i] = false → (U.take (i + 1)).filter (isU3 p.places q.places) = (U.take i).filter (isU3 p.places q.places) := fun h => by
      rw [htk, List.filter_append]; simp [h]
    by_cases h1 : hasU p.places U[i]
    · by_cases h2 : hasU q.places U[i]
      · by_cases h3 : (findP p.places U[i]).share = (findP q.places U[i]).share
        · have hpr : isU3 p.places q.places U[i] = false := by unfold isU3; simp [h3]
          have h3' : ((findP p.places U[i]).share != (findP q.places U[i]).share) = false := by rw [bne_eq_false_iff_eq]; exact h3
          try simp only [go_sem, Int.reduceBEq, Int.reduceBNe, Int.reduceNeg, reduceCtorEq, Nat.reduceEqDiff, Nat.reduceAdd, Nat.reduceLeDiff, Nat.reduceMul, Nat.reduceSub, Int.reduceToNat, Int.reduceLT, Int.reduceLE, load_w, load_a, store_b, idxS_b, set_blk, new_blk, set_next, new_next, len_s, ldW_c, ldA_c, stB_c, toArr_one, size_one, toList_toArr, size_toArr, List.length_cons, List.length_nil, List.getElem?_cons_zero, List.getElem?_cons_succ, Nat.zero_add, Nat.add_zero, decide_eq_true h1, decide_eq_true h2, hcx9.at_, hcy9.at_, h3', s1]
          refine ⟨U.length - (i + 1), by omega, i + 1, z, by omega, rfl, rfl, ?_⟩
          rw [hstepF hpr]; exact ho.keep (hx59)
        · have hpr : isU3 p.places q.places U[i] = true := by unfold isU3; simp [h1, h2, h3]
          have h3' : ((findP p.places U[i]).share != (findP q.places U[i]).share) = true := by rw [bne_iff_ne]; exact h3
          obtain ⟨b3, o3, d1, d2⟩ := (hs5.keep hlt5 (hx59)).geti g1
          rw [a1] at d1
          cases d1
          obtain ⟨v', mz, p1, p2⟩ := (ho.keep (hx59)).app (by_ := 8) (es := [.int .i64 U[i]]) (by omega) rfl rfl (by omega) (by omega)
          try simp only [go_sem, Int.reduceBEq, Int.reduceBNe, Int.reduceNeg, reduceCtorEq, Nat.reduceEqDiff, Nat.reduceAdd, Nat.reduceLeDiff, Nat.reduceMul, Nat.reduceSub, Int.reduceToNat, Int.reduceLT, Int.reduceLE, load_w, load_a, store_b, idxS_b, set_blk, new_blk, set_next, new_next, len_s, ldW_c, ldA_c, stB_c, toArr_one, size_one, toList_toArr, size_toArr, List.length_cons, List.length_nil, List.getElem?_cons_zero, List.getElem?_cons_succ, Nat.zero_add, Nat.add_zero, decide_eq_true h1, decide_eq_true h2, hcx9.at_, hcy9.at_, h3', a1, d2, p1, s1]
          refine ⟨U.length - (i + 1), by omega, i + 1, v', by omega, rfl, rfl, ?_⟩
          rw [hstepT hpr, List.length_append]
          unfold intsZ at p2 ⊢
          rw [List.map_append]; exact p2
      · have hpr : isU3 p.places q.places U[i] = false := by unfold isU3; simp [h2]
        try simp only [go_sem, Int.reduceBEq, Int.reduceBNe, Int.reduceNeg, reduceCtorEq, Nat.reduceEqDiff, Nat.reduceAdd, Nat.reduceLeDiff, Nat.reduceMul, Nat.reduceSub, Int.reduceToNat, Int.reduceLT, Int.reduceLE, load_w, load_a, store_b, idxS_b, set_blk, new_blk, set_next, new_next, len_s, ldW_c, ldA_c, stB_c, toArr_one, size_one, toList_toArr, size_toArr, List.length_cons, List.length_nil, List.getElem?_cons_zero, List.getElem?_cons_succ, Nat.zero_add, Nat.add_zero, decide_eq_true h1, decide_eq_false h2, s1]
        refine ⟨U.length - (i + 1), by omega, i + 1, z, by omega, rfl, rfl, ?_⟩
        rw [hstepF hpr]; exact ho.keep (hx59)
    · have hpr : isU3 p.places q.places U[i] = false := by unfold isU3; simp [h1]
      try simp only [go_sem, Int.reduceBEq, Int.reduceBNe, Int.reduceNeg, reduceCtorEq, Nat.reduceEqDiff, Nat.reduceAdd, Nat.reduceLeDiff, Nat.reduceMul, Nat.reduceSub, Int.reduceToNat, Int.reduceLT, Int.reduceLE, load_w, load_a, store_b, idxS_b, set_blk, new_blk, set_next, new_next, len_s, ldW_c, ldA_c, stB_c, toArr_one, size_one, toList_toArr, size_toArr, List.length_cons, List.length_nil, List.getElem?_cons_zero, List.getElem?_cons_succ, Nat.zero_add, Nat.add_zero, decide_eq_false h1, s1]
      refine ⟨U.length - (i + 1), by omega, i + 1, z, by omega, rfl, rfl, ?_⟩
      rw [hstepF hpr]; exact ho.keep (hx59)
  · have e1 : decide ((i : Int) < (U.length : Int)) = false := decide_eq_false (by omega)
    have hi2 : i = U.length := by omega
    subst hi2
    rw [List.take_length] at ho
    try simp only [go_sem, Int.reduceBEq, Int.reduceBNe, Int.reduceNeg, reduceCtorEq, Nat.reduceEqDiff, Nat.reduceAdd, Nat.reduceLeDiff, Nat.reduceMul, Nat.reduceSub, Int.reduceToNat, Int.reduceLT, Int.reduceLE, load_w, load_a, store_b, idxS_b, set_blk, new_blk, set_next, new_next, len_s, ldW_c, ldA_c, stB_c, toArr_one, size_one, toList_toArr, size_toArr, List.length_cons, List.length_nil, List.getElem?_cons_zero, List.getElem?_cons_succ, Nat.zero_add, Nat.add_zero, e1]
    exact ⟨ho.own.weak hX, hX.trans hx25⟩

end Go.Am


/- Diff: the plain law of the lists. -/
set_option linter.unusedVariables false
set_option linter.unusedSimpArgs false
namespace Go.Am
open Classical

theorem asc_ext {l k : List Int} (hl : l.Pairwise (· < ·)) (hk : k.Pairwise (· < ·)) (h : ∀ x, x ∈ l ↔ x ∈ k) : l = k := by
  have nd : ∀ {l : List Int}, l.Pairwise (· < ·) → l.Nodup := fun h => List.nodup_iff_pairwise_ne.2 (h.imp fun h => by omega)
  have hp : l.Perm k := (List.perm_ext_iff_of_nodup (nd hl) (nd hk)).2 h
  exact List.Perm.eq_of_pairwise (le := fun a b => a < b) (fun a b _ _ h1 h2 => by omega) hl hk hp

theorem compL_asc : ∀ {l : List Int}, l.Pairwise (· ≤ ·) → (compL l).Pairwise (· < ·) ∧ ∀ x, x ∈ compL l ↔ x ∈ l
  | [], _ => ⟨by simp [compL], fun x => Iff.rfl⟩
  | [a], _ => ⟨by simp [compL], fun x => Iff.rfl⟩
  | a :: b :: r, h => by
    rw [List.pairwise_cons] at h
    obtain ⟨h1, h2⟩ := compL_asc (l := b :: r) h.2
    simp only [compL]
    split
    · rename_i e
      subst e
      refine ⟨h1, fun x => ?_⟩
      rw [h2 x]; simp
    · rename_i hne
      refine ⟨List.pairwise_cons.2 ⟨fun x hx => ?_, h1⟩, fun x => ?_⟩
      · have hx' := (h2 x).1 hx
        have hab := h.1 b (by simp)
        rcases List.mem_cons.1 hx' with rfl | hr
        · omega
        · have := (List.pairwise_cons.1 h.2).1 x hr
          omega
      · rw [List.mem_cons, h2 x, List.mem_cons (a := x) (b := a)]

theorem unitsL_asc {a b : List Pl} : ∀ n, (unitsL a b n).Pairwise (· < ·) ∧ ∀ x : Int, x ∈ unitsL a b n ↔ (1 ≤ x ∧ x ≤ n ∧ (hasU a x ∨ hasU b x))
  | 0 => ⟨by simp [unitsL], fun x => by simp [unitsL]; omega⟩
  | n + 1 => by
    obtain ⟨h1, h2⟩ := unitsL_asc (a := a) (b := b) n
    unfold unitsL
    split
    · rename_i hc
      refine ⟨List.pairwise_append.2 ⟨h1, by simp, fun x hx y hy => ?_⟩, fun x => ?_⟩
      · have := (h2 x).1 hx
        simp at hy; omega
      · rw [List.mem_append, h2 x, List.mem_singleton]
        constructor
        · rintro (⟨g1, g2, g3⟩ | rfl)
          · exact ⟨g1, by omega, g3⟩
          · exact ⟨by omega, by omega, hc⟩
        · rintro ⟨g1, g2, g3⟩
          by_cases e : x = ((n + 1 : Nat) : Int)
          · exact .inr e
          · exact .inl ⟨g1, by omega, g3⟩
    · rename_i hc
      rw [List.append_nil]
      refine ⟨h1, fun x => ?_⟩
      rw [h2 x]
      constructor
      · rintro ⟨g1, g2, g3⟩; exact ⟨g1, by omega, g3⟩
      · rintro ⟨g1, g2, g3⟩
        by_cases e : x = ((n + 1 : Nat) : Int)
        · subst e; exact absurd g3 hc
        · exact ⟨g1, by omega, g3⟩

theorem mem_units {l : List PE} {P : List Pl} (h : l.map PE.pl = P) {u : Int} : u ∈ l.map unitE ↔ hasU P u := by
  subst h
  unfold hasU unitE
  constructor
  · intro hm
    obtain ⟨e, he, rfl⟩ := List.mem_map.1 hm
    obtain ⟨i, hi, rfl⟩ := List.getElem_of_mem he
    exact ⟨i, by simpa using hi, by simp⟩
  · rintro ⟨i, hi, rfl⟩
    refine List.mem_map.2 ⟨l[i]'(by simpa using hi), List.getElem_mem _, by simp⟩

/-- All units of two plans, sorted, each once. -/
theorem all_units {l k : List PE} {a b : List Pl} (hl : l.map PE.pl = a) (hk : k.map PE.pl = b) (ha : ∀ x ∈ a, 1 ≤ x.unit ∧ x.unit ≤ 1040) (hb : ∀ x ∈ b, 1 ≤ x.unit ∧ x.unit ≤ 1040) :
    compL (sortI (sortI (l.map unitE) ++ sortI (k.map unitE))) = unitsL a b 1040 := by
  obtain ⟨h1, h2⟩ := compL_asc (sortI_sorted (l := sortI (l.map unitE) ++ sortI (k.map unitE)))
  obtain ⟨g1, g2⟩ := unitsL_asc (a := a) (b := b) 1040
  refine asc_ext h1 g1 fun x => ?_
  rw [h2 x, g2 x, sortI_perm.mem_iff, List.mem_append, sortI_perm.mem_iff, sortI_perm.mem_iff, mem_units hl, mem_units hk]
  constructor
  · intro h
    have hr : 1 ≤ x ∧ x ≤ 1040 := by
      rcases h with ⟨i, hi, rfl⟩ | ⟨i, hi, rfl⟩
      · exact ha _ (List.getElem_mem hi)
      · exact hb _ (List.getElem_mem hi)
    exact ⟨hr.1, by omega, h⟩
  · exact fun h => h.2.2
end Go.Am


/- Diff: what is looked up is what is found. -/
set_option linter.unusedVariables false
set_option linter.unusedSimpArgs false
namespace Go.Am
open Classical

theorem lkp_asMap : ∀ {l : List PE} {u : Int}, (lkp (asMap l) u = none ∧ ∀ e ∈ l, unitE e ≠ u) ∨ ∃ e ∈ l, unitE e = u ∧ lkp (asMap l) u = some e
  | [], u => .inl ⟨rfl, by simp⟩
  | a :: l, u => by
    by_cases h : unitE a = u
    · exact .inr ⟨a, by simp, h, by simp only [asMap, List.map_cons, lkp]; rw [if_pos h]⟩
    · have e1 : lkp (asMap (a :: l)) u = lkp (asMap l) u := by
        simp only [asMap, List.map_cons, lkp]; rw [if_neg h]
      rw [e1]
      rcases lkp_asMap (l := l) (u := u) with ⟨h1, h2⟩ | ⟨e, he, h1, h2⟩
      · exact .inl ⟨h1, fun e he => by rcases List.mem_cons.1 he with rfl | he; exact h; exact h2 e he⟩
      · exact .inr ⟨e, by simp [he], h1, h2⟩

theorem hasE_eq {l : List PE} {P : List Pl} (h : l.map PE.pl = P) {u : Int} : hasE l u = decide (hasU P u) := by
  unfold hasE
  rcases lkp_asMap (l := l) (u := u) with ⟨h1, h2⟩ | ⟨e, he, h1, h2⟩
  · rw [h1]
    have : ¬ hasU P u := fun hu => by
      obtain ⟨e, he, g⟩ := List.mem_map.1 ((mem_units h).2 hu)
      exact h2 e he g
    rw [decide_eq_false this]; rfl
  · rw [h2, decide_eq_true ((mem_units h).1 (List.mem_map.2 ⟨e, he, h1⟩))]; rfl

theorem lkE_eq {l : List PE} {P : List Pl} (h : l.map PE.pl = P) (ha : Asc P) {u : Int} : (lkE l u).pl = findP P u := by
  unfold lkE
  rcases lkp_asMap (l := l) (u := u) with ⟨h1, h2⟩ | ⟨e, he, h1, h2⟩
  · rw [h1]
    have : ¬ hasU P u := fun hu => by
      obtain ⟨e, he, g⟩ := List.mem_map.1 ((mem_units h).2 hu)
      exact h2 e he g
    rw [findP_not this]; rfl
  · rw [h2]
    subst h
    obtain ⟨i, hi, rfl⟩ := List.getElem_of_mem he
    have hi' : i < (l.map PE.pl).length := by simpa using hi
    rw [findP_at ha hi' (by rw [List.getElem_map]; exact h1)]
    simp

theorem came_eq {l k : List PE} {a b : List Pl} (hl : l.map PE.pl = a) (hk : k.map PE.pl = b) (ha : ∀ x ∈ a, 1 ≤ x.unit ∧ x.unit ≤ 1040) (hb : ∀ x ∈ b, 1 ≤ x.unit ∧ x.unit ≤ 1040) :
    someL l k CamP = listL (isU1 a b) a b := by
  unfold someL listL
  rw [all_units hl hk ha hb]
  refine List.filter_congr fun u hu => ?_
  have := ((unitsL_asc (a := a) (b := b) 1040).2 u).1 hu
  unfold CamP isU1
  rw [hasE_eq hl, hasE_eq hk]
  by_cases h1 : hasU a u
  · simp [h1]
  · have h2 : hasU b u := this.2.2.resolve_left h1
    simp [h1, h2]
theorem gone_eq {l k : List PE} {a b : List Pl} (hl : l.map PE.pl = a) (hk : k.map PE.pl = b) (ha : ∀ x ∈ a, 1 ≤ x.unit ∧ x.unit ≤ 1040) (hb : ∀ x ∈ b, 1 ≤ x.unit ∧ x.unit ≤ 1040) :
    someL l k GonP = listL (isU2 a b) a b := by
  unfold someL listL
  rw [all_units hl hk ha hb]
  refine List.filter_congr fun u hu => ?_
  have := ((unitsL_asc (a := a) (b := b) 1040).2 u).1 hu
  unfold GonP isU2
  rw [hasE_eq hl, hasE_eq hk]
  by_cases h2 : hasU b u
  · simp [h2]
  · have h1 : hasU a u := this.2.2.resolve_right h2
    simp [h1, h2]
theorem resized_eq {l k : List PE} {a b : List Pl} (hl : l.map PE.pl = a) (hk : k.map PE.pl = b) (aa : Asc a) (ab : Asc b) (ha : ∀ x ∈ a, 1 ≤ x.unit ∧ x.unit ≤ 1040) (hb : ∀ x ∈ b, 1 ≤ x.unit ∧ x.unit ≤ 1040) :
    someL l k ResP = listL (isU3 a b) a b := by
  unfold someL listL
  rw [all_units hl hk ha hb]
  refine List.filter_congr fun u hu => ?_
  unfold ResP isU3
  rw [hasE_eq hl, hasE_eq hk, lkE_eq hl aa, lkE_eq hk ab]
  congr 2
  by_cases h : (findP a u).share = (findP b u).share <;> simp [h]
/-- Moved, where ticks tell pieces apart. -/
theorem moved_eq {l k : List PE} {a b : List Pl} (hl : l.map PE.pl = a) (hk : k.map PE.pl = b) (aa : Asc a) (ab : Asc b) (ha : ∀ x ∈ a, 1 ≤ x.unit ∧ x.unit ≤ 1040) (hb : ∀ x ∈ b, 1 ≤ x.unit ∧ x.unit ≤ 1040)
    (hm : ∀ x ∈ a, ∀ y ∈ b, (refMov x y ↔ (x.pieces ≠ y.pieces ∨ (x.pieces.length = 0 ∧ x.core ≠ y.core)))) :
    someL l k MovP = listL (isU0 a b) a b := by
  unfold someL listL
  rw [all_units hl hk ha hb]
  refine List.filter_congr fun u hu => ?_
  unfold MovP isU0
  rw [hasE_eq hl, hasE_eq hk]
  by_cases h1 : hasU a u
  · by_cases h2 : hasU b u
    · have e1 := lkE_eq hl aa (u := u)
      have e2 := lkE_eq hk ab (u := u)
      obtain ⟨i, hi, hiu⟩ := h1
      obtain ⟨j, hj, hju⟩ := h2
      have f1 := findP_at aa hi hiu
      have f2 := findP_at ab hj hju
      have hh := hm _ (List.getElem_mem hi) _ (List.getElem_mem hj)
      have : movP (lkE l u) (lkE k u) = decide (refMov (findP a u) (findP b u)) := by
        unfold movP
        rw [e1, e2, f1, f2, Bool.eq_iff_iff, decide_eq_true_eq, hh]
        simp
      rw [this]
    · simp [h2]
  · simp [h1]
end Go.Am


/- Diff: ticks tell pieces apart. -/
set_option linter.unusedVariables false
set_option linter.unusedSimpArgs false
namespace Go.Am
open Classical

/-- Pieces as a right plan has them. -/
structure PcsR (ps : List Pc) : Prop where
  core : ∀ q ∈ ps, 0 ≤ q.1 ∧ q.1 < 16
  asc : ps.Pairwise fun a b => a.1 < b.1
  nz : ∀ q ∈ ps, q.2 ≠ 0#64

theorem bv_bit {x : BitVec 64} (h : x ≠ 0#64) : ∃ t, t < 64 ∧ x.getLsbD t = true := by
  apply Classical.byContradiction
  intro hn
  apply h
  apply BitVec.eq_of_getLsbD_eq
  intro i hi
  have : ¬ x.getLsbD i = true := fun e => hn ⟨i, hi, e⟩
  simp only [BitVec.getLsbD_zero]
  simpa using this

/-- Rows of pieces with the same members are the same. -/
theorem pcs_ext {l k : List Pc} (hl : l.Pairwise fun a b => a.1 < b.1) (hk : k.Pairwise fun a b => a.1 < b.1) (h : ∀ x, x ∈ l ↔ x ∈ k) : l = k := by
  have nd : ∀ {l : List Pc}, l.Pairwise (fun a b => a.1 < b.1) → l.Nodup := fun h => List.nodup_iff_pairwise_ne.2 (h.imp fun {a b} h e => by subst e; omega)
  have hp : l.Perm k := (List.perm_ext_iff_of_nodup (nd hl) (nd hk)).2 h
  exact List.Perm.eq_of_pairwise (le := fun a b : Pc => a.1 < b.1) (fun a b _ _ h1 h2 => by omega) hl hk hp

theorem inB_nat {a : BitVec 64} {t : Nat} (ht : t < 64) : inB a (t : Int) = a.getLsbD t := by
  unfold inB
  have h1 : (t : Int) < 64 := by omega
  simp [h1]
theorem count_none {ps : List Pc} {c : Int} (hc0 : 0 ≤ c) (hc : ∀ q ∈ ps, q.1 ≠ c) {t : Int} : ps.countP (atB c t) = 0 := by
  rw [List.countP_eq_zero]
  intro q hq
  unfold atB
  have : ¬ c < 0 := by omega
  simp [this, hc q hq]
/-- How often a tick of a core is met: once, if its piece has it. -/
theorem count_mem : ∀ {ps : List Pc}, (ps.Pairwise fun a b => a.1 < b.1) → (∀ q ∈ ps, 0 ≤ q.1) → ∀ {q : Pc}, q ∈ ps → ∀ {t : Nat}, t < 64 → ps.countP (atB q.1 t) = if q.2.getLsbD t then 1 else 0
  | [], _, _, q, hq, t, ht => by cases hq
  | a :: ps, h, h0, q, hq, t, ht => by
    rw [List.pairwise_cons] at h
    rw [List.countP_cons]
    have hq0 : ¬ q.1 < 0 := by have := h0 q hq; omega
    rcases List.mem_cons.1 hq with rfl | hq'
    · rw [count_none (h0 _ hq) fun x hx => by have := h.1 x hx; omega]
      unfold atB
      rw [inB_nat ht]
      simp [hq0]
    · rw [count_mem h.2 (fun x hx => h0 x (by simp [hx])) hq' ht]
      have hne : a.1 ≠ q.1 := by have := h.1 q hq'; omega
      have : atB q.1 t a = false := by unfold atB; simp [hq0, hne]
      rw [this]; simp

theorem PcsR.mem_of {ps qs : List Pc} (hp : PcsR ps) (hq : PcsR qs) (h : ∀ c : Nat, c < 16 → ∀ t : Nat, t < 64 → ps.countP (atB c t) = qs.countP (atB c t)) {x : Pc} (hx : x ∈ ps) : x ∈ qs := by
  have hc := hp.core x hx
  obtain ⟨c, hc'⟩ : ∃ c : Nat, (c : Int) = x.1 := ⟨x.1.toNat, by omega⟩
  obtain ⟨t, ht, hb⟩ := bv_bit (hp.nz x hx)
  have hall := h c (by omega)
  rw [hc'] at hall
  have h1 := hall t ht
  rw [count_mem hp.asc (fun q hq => (hp.core q hq).1) hx ht, if_pos hb] at h1
  have : ∃ y ∈ qs, y.1 = x.1 := by
    apply Classical.byContradiction
    intro hn
    rw [count_none hc.1 fun q hq e => hn ⟨q, hq, e⟩] at h1
    omega
  obtain ⟨y, hy, hyx⟩ := this
  have e2 : y.2 = x.2 := by
    apply BitVec.eq_of_getLsbD_eq
    intro i hi
    have g := hall i hi
    rw [count_mem hp.asc (fun q hq => (hp.core q hq).1) hx hi] at g
    have g2 := count_mem hq.asc (fun q hq' => (hq.core q hq').1) hy hi
    rw [hyx] at g2
    rw [g2] at g
    cases h1 : x.2.getLsbD i <;> cases h2 : y.2.getLsbD i <;> rw [h1, h2] at g <;> first | rfl | (simp at g)
  have : y = x := Prod.ext hyx e2
  rw [← this]; exact hy

theorem refMov_right {x y : Pl} (hx : PcsR x.pieces) (hy : PcsR y.pieces) (cx : x.pieces.length = 0 → 0 ≤ x.core ∧ x.core < 16) :
    refMov x y ↔ (x.pieces ≠ y.pieces ∨ (x.pieces.length = 0 ∧ x.core ≠ y.core)) := by
  constructor
  · intro h
    apply Classical.byContradiction
    intro hn
    have he : x.pieces = y.pieces := Classical.byContradiction fun e => hn (.inl e)
    obtain ⟨c, hc, h | ⟨t, ht, h⟩⟩ := h
    · apply h
      unfold onP
      rw [← he]
      by_cases h0 : x.pieces.length = 0
      · have : x.core = y.core := Classical.byContradiction fun e => hn (.inr ⟨h0, e⟩)
        rw [if_pos h0, if_pos h0, this]
      · rw [if_neg h0, if_neg h0]
    · apply h; rw [he]
  · intro h
    apply Classical.byContradiction
    intro hn
    have hall : ∀ c : Nat, c < 16 → ∀ t : Nat, t < 64 → x.pieces.countP (atB c t) = y.pieces.countP (atB c t) := fun c hc t ht => Classical.byContradiction fun e => hn ⟨c, hc, .inr ⟨t, ht, e⟩⟩
    have hon : ∀ c : Nat, c < 16 → onP x c = onP y c := fun c hc => Classical.byContradiction fun e => hn ⟨c, hc, .inl e⟩
    have he : x.pieces = y.pieces := pcs_ext hx.asc hy.asc fun q => ⟨fun h => hx.mem_of hy hall h, fun h => hy.mem_of hx (fun c hc t ht => (hall c hc t ht).symm) h⟩
    rcases h with h | ⟨h0, h⟩
    · exact h he
    · obtain ⟨g1, g2⟩ := cx h0
      obtain ⟨c, hc⟩ : ∃ c : Nat, (c : Int) = x.core := ⟨x.core.toNat, by omega⟩
      have := hon c (by omega)
      unfold onP at this
      rw [← he, if_pos h0, if_pos h0, hc] at this
      simp at this
      exact h this.symm
end Go.Am


/- Diff: right plans' pieces. -/
set_option linter.unusedVariables false
set_option linter.unusedSimpArgs false
namespace Go.Am
open Classical

theorem RightP.units {p : PlanD} (h : RightP p) : ∀ x ∈ p.places, 1 ≤ x.unit ∧ x.unit ≤ 1040 := fun x hx => by
  have := (h.place hx).1
  unfold isU at this; omega
theorem RightP.ascD {p : PlanD} (h : RightP p) : Asc p.places := by
  intro i j hij hj
  induction j with
  | zero => omega
  | succ j ih =>
    obtain ⟨_, _, g⟩ := h.2.2.2.2.1 (j + 1) hj
    have g := g (by omega)
    simp only [Nat.add_sub_cancel] at g
    by_cases e : i = j
    · subst e; exact g
    · have := ih (by omega) (by omega); omega
theorem RightP.pcsR {p : PlanD} (h : RightP p) {x : Pl} (hx : x ∈ p.places) : PcsR x.pieces := by
  obtain ⟨-, -, -, -, h5⟩ := h.place hx
  by_cases h0 : x.pieces.length = 0
  · have e : x.pieces = [] := List.eq_nil_of_length_eq_zero h0
    rw [e]
    exact ⟨by simp, by simp, by simp⟩
  · obtain ⟨g, -⟩ := h5 h0
    refine ⟨fun q hq => ?_, ?_, fun q hq => ?_⟩
    · obtain ⟨i, hi, rfl⟩ := List.getElem_of_mem hq
      obtain ⟨_, a, -⟩ := g i hi
      exact hasC_range a
    · refine (List.pairwise_iff_getElem (R := fun (a b : Pc) => a.1 < b.1)).2 fun i j hi hj hij => ?_
      induction j with
      | zero => omega
      | succ j ih =>
        obtain ⟨_, _, b, -⟩ := g (j + 1) hj
        have b := b (by omega)
        simp only [Nat.add_sub_cancel] at b
        by_cases e : i = j
        · subst e; exact b
        · have := ih (by omega) (by omega); omega
    · obtain ⟨i, hi, rfl⟩ := List.getElem_of_mem hq
      obtain ⟨_, _, _, c⟩ := g i hi
      exact c
theorem RightP.core0 {p : PlanD} (h : RightP p) {x : Pl} (hx : x ∈ p.places) : x.pieces.length = 0 → 0 ≤ x.core ∧ x.core < 16 := fun h0 => hasC_range ((h.place hx).2.2.2.1 h0)

theorem moved_right {l k : List PE} {a b : PlanD} (hl : l.map PE.pl = a.places) (hk : k.map PE.pl = b.places) (ra : RightP a) (rb : RightP b) : someL l k MovP = listL (isU0 a.places b.places) a.places b.places :=
  moved_eq hl hk ra.ascD rb.ascD ra.units rb.units fun x hx y hy => refMov_right (ra.pcsR hx) (rb.pcsR hy) (ra.core0 hx)
end Go.Am


/- The law DiffLists walks. -/
set_option linter.unusedVariables false
set_option linter.unusedSimpArgs false
namespace Go.Am
open Classical
variable {m : Mem}

theorem ok_specD {f : Nat} (h : R f = some (.ext X.ok)) {m : Mem} : WC R f [] m fun v m' => v = .bool true ∧ m' = m := WC.ext h rfl ⟨rfl, rfl⟩
theorem light_lD {p : PlanD} (h : lightP p = true) : PlanL p := by
  simp only [lightP, Bool.and_eq_true, decide_eq_true_eq, List.all_eq_true] at h
  refine ⟨by omega, fun x hx => ?_⟩
  have := h.1 x (by rw [List.take_of_length_le (by omega)]; exact hx)
  omega
def rightAB (a b : PlanD) : Prop := lightP a = true ∧ lightP b = true ∧ RightP a ∧ RightP b
set_option maxHeartbeats 4000000 in
theorem right_spec {a b : PlanD} {v w : Value} (hv : PlanV m a v) (hw : PlanV m b w) : WC R F.law22_right [v, w] m fun r m' => r = .bool (decide (rightAB a b)) ∧ Ext m m' := by
  refine WC.of R.law22_right rfl ?_
  obtain ⟨pv, rfl, hp⟩ := hv
  obtain ⟨qv, rfl, hq⟩ := hw
  simp only [RC.law22_right, planV, go_sem, Int.reduceBEq, Int.reduceBNe, Int.reduceNeg, reduceCtorEq, Nat.reduceEqDiff, Nat.reduceAdd, Nat.reduceLeDiff, Nat.reduceMul, Nat.reduceSub, Int.reduceToNat, Int.reduceLT, Int.reduceLE, hp.one, hq.one]
  have hx1 : Ext m (m.new (.cells [.int .i64 a.frame, u32 a.cores, pv] (some 3))) := Ext.new
  have hb1 : Bk (m.new (.cells [.int .i64 a.frame, u32 a.cores, pv] (some 3))) m.next [.int .i64 a.frame, u32 a.cores, pv] 3 := Bk.new
  generalize m.new (.cells [.int .i64 a.frame, u32 a.cores, pv] (some 3)) = m1 at hx1 hb1 ⊢
  have hx2 : Ext m1 (m1.new (.cells [.int .i64 b.frame, u32 b.cores, qv] (some 3))) := Ext.new
  have hb2 : Bk (m1.new (.cells [.int .i64 b.frame, u32 b.cores, qv] (some 3))) m1.next [.int .i64 b.frame, u32 b.cores, qv] 3 := Bk.new
  generalize m1.new (.cells [.int .i64 b.frame, u32 b.cores, qv] (some 3)) = m2 at hx2 hb2 ⊢
  have hb12 := hb1.keep hx2
  have hX := hx1.trans hx2
  try simp only [go_sem, Int.reduceBEq, Int.reduceBNe, Int.reduceNeg, reduceCtorEq, Nat.reduceEqDiff, Nat.reduceAdd, Nat.reduceLeDiff, Nat.reduceMul, Nat.reduceSub, Int.reduceToNat, Int.reduceLT, Int.reduceLE, load_w, load_a, store_b, idxS_b, set_blk, new_blk, set_next, new_next, len_s, ldW_c, ldA_c, stB_c, toArr_one, size_one, toList_toArr, size_toArr, List.length_cons, List.length_nil, List.getElem?_cons_zero, List.getElem?_cons_succ, Nat.zero_add, Nat.add_zero, hb12.at_]
  refine gC.of (Light_spec (p := a) ⟨pv, rfl, hp.keep hX⟩) ?_
  rintro _ m3 ⟨rfl, hx3⟩
  have hb13 := hb12.keep hx3
  have hb23 := hb2.keep hx3
  have hX3 := hX.trans hx3
  by_cases h1 : lightP a = true
  · try simp only [go_sem, Int.reduceBEq, Int.reduceBNe, Int.reduceNeg, reduceCtorEq, Nat.reduceEqDiff, Nat.reduceAdd, Nat.reduceLeDiff, Nat.reduceMul, Nat.reduceSub, Int.reduceToNat, Int.reduceLT, Int.reduceLE, load_w, load_a, store_b, idxS_b, set_blk, new_blk, set_next, new_next, len_s, ldW_c, ldA_c, stB_c, toArr_one, size_one, toList_toArr, size_toArr, List.length_cons, List.length_nil, List.getElem?_cons_zero, List.getElem?_cons_succ, Nat.zero_add, Nat.add_zero, h1, hb23.at_]
    refine gC.of (Light_spec (p := b) ⟨qv, rfl, hq.keep hX3⟩) ?_
    rintro _ m4 ⟨rfl, hx4⟩
    have hX4 := hX3.trans hx4
    have hb14 := hb13.keep hx4
    have hb24 := hb23.keep hx4
    by_cases h2 : lightP b = true
    · have la := light_lD h1
      have lb := light_lD h2
      try simp only [go_sem, Int.reduceBEq, Int.reduceBNe, Int.reduceNeg, reduceCtorEq, Nat.reduceEqDiff, Nat.reduceAdd, Nat.reduceLeDiff, Nat.reduceMul, Nat.reduceSub, Int.reduceToNat, Int.reduceLT, Int.reduceLE, load_w, load_a, store_b, idxS_b, set_blk, new_blk, set_next, new_next, len_s, ldW_c, ldA_c, stB_c, toArr_one, size_one, toList_toArr, size_toArr, List.length_cons, List.length_nil, List.getElem?_cons_zero, List.getElem?_cons_succ, Nat.zero_add, Nat.add_zero, h2, hb14.at_]
      refine gC.of (refRight_spec (p := a) ⟨pv, rfl, hp.keep hX4⟩ la.len la.pcs) ?_
      rintro _ m5 ⟨rfl, hx5⟩
      have hX5 := hX4.trans hx5
      have hb25 := hb24.keep hx5
      by_cases h3 : RightP a
      · try simp only [go_sem, Int.reduceBEq, Int.reduceBNe, Int.reduceNeg, reduceCtorEq, Nat.reduceEqDiff, Nat.reduceAdd, Nat.reduceLeDiff, Nat.reduceMul, Nat.reduceSub, Int.reduceToNat, Int.reduceLT, Int.reduceLE, load_w, load_a, store_b, idxS_b, set_blk, new_blk, set_next, new_next, len_s, ldW_c, ldA_c, stB_c, toArr_one, size_one, toList_toArr, size_toArr, List.length_cons, List.length_nil, List.getElem?_cons_zero, List.getElem?_cons_succ, Nat.zero_add, Nat.add_zero, decide_eq_true h3, hb25.at_]
        refine gC.of (refRight_spec (p := b) ⟨qv, rfl, hq.keep hX5⟩ lb.len lb.pcs) ?_
        rintro _ m6 ⟨rfl, hx6⟩
        have e : decide (rightAB a b) = decide (RightP b) := by rw [decide_eq_decide]; unfold rightAB; simp [h1, h2, h3]
        try simp only [go_sem, Int.reduceBEq, Int.reduceBNe, Int.reduceNeg, reduceCtorEq, Nat.reduceEqDiff, Nat.reduceAdd, Nat.reduceLeDiff, Nat.reduceMul, Nat.reduceSub, Int.reduceToNat, Int.reduceLT, Int.reduceLE, load_w, load_a, store_b, idxS_b, set_blk, new_blk, set_next, new_next, len_s, ldW_c, ldA_c, stB_c, toArr_one, size_one, toList_toArr, size_toArr, List.length_cons, List.length_nil, List.getElem?_cons_zero, List.getElem?_cons_succ, Nat.zero_add, Nat.add_zero, e]
        first | exact hX5.trans hx6 | exact ⟨rfl, hX5.trans hx6⟩
      · have e : decide (rightAB a b) = false := decide_eq_false fun h => h3 h.2.2.1
        try simp only [go_sem, Int.reduceBEq, Int.reduceBNe, Int.reduceNeg, reduceCtorEq, Nat.reduceEqDiff, Nat.reduceAdd, Nat.reduceLeDiff, Nat.reduceMul, Nat.reduceSub, Int.reduceToNat, Int.reduceLT, Int.reduceLE, load_w, load_a, store_b, idxS_b, set_blk, new_blk, set_next, new_next, len_s, ldW_c, ldA_c, stB_c, toArr_one, size_one, toList_toArr, size_toArr, List.length_cons, List.length_nil, List.getElem?_cons_zero, List.getElem?_cons_succ, Nat.zero_add, Nat.add_zero, decide_eq_false h3, e]
        first | exact hX5 | exact ⟨rfl, hX5⟩
    · have e : decide (rightAB a b) = false := decide_eq_false fun h => h2 h.2.1
      try simp only [go_sem, Int.reduceBEq, Int.reduceBNe, Int.reduceNeg, reduceCtorEq, Nat.reduceEqDiff, Nat.reduceAdd, Nat.reduceLeDiff, Nat.reduceMul, Nat.reduceSub, Int.reduceToNat, Int.reduceLT, Int.reduceLE, load_w, load_a, store_b, idxS_b, set_blk, new_blk, set_next, new_next, len_s, ldW_c, ldA_c, stB_c, toArr_one, size_one, toList_toArr, size_toArr, List.length_cons, List.length_nil, List.getElem?_cons_zero, List.getElem?_cons_succ, Nat.zero_add, Nat.add_zero, h2, e]
      first | exact hX4 | exact ⟨rfl, hX4⟩
  · have e : decide (rightAB a b) = false := decide_eq_false fun h => h1 h.1
    try simp only [go_sem, Int.reduceBEq, Int.reduceBNe, Int.reduceNeg, reduceCtorEq, Nat.reduceEqDiff, Nat.reduceAdd, Nat.reduceLeDiff, Nat.reduceMul, Nat.reduceSub, Int.reduceToNat, Int.reduceLT, Int.reduceLE, load_w, load_a, store_b, idxS_b, set_blk, new_blk, set_next, new_next, len_s, ldW_c, ldA_c, stB_c, toArr_one, size_one, toList_toArr, size_toArr, List.length_cons, List.length_nil, List.getElem?_cons_zero, List.getElem?_cons_succ, Nat.zero_add, Nat.add_zero, h1, e]
    first | exact hX3 | exact ⟨rfl, hX3⟩
end Go.Am


/- The law DiffLists. -/
set_option linter.unusedVariables false
set_option linter.unusedSimpArgs false
namespace Go.Am
open Classical
variable {m : Mem}

theorem listL_len {P : Int → Bool} {a b : List Pl} : (listL P a b).length < 1000000 := by
  have := unitsL_len (a := a) (b := b) 1040
  have h2 : (listL P a b).length ≤ (unitsL a b 1040).length := List.length_filter_le ..
  omega
theorem rowS_of {m : Mem} {P : List Pl} {v : Value} (h : PlsV m P v) : ∃ le : List PE, le.map PE.pl = P ∧ RowS m le v ∧ ∀ e ∈ le, PcV m e.pl.pieces e.pv := by
  obtain ⟨l, a, b, c⟩ := rowE_of h
  exact ⟨l, a, ⟨b.sl, b.lt⟩, c⟩
theorem RightP.okE {p : PlanD} (h : RightP p) (hli : lightP p = true) {l : List PE} (hl : l.map PE.pl = p.places) : OkE l := by
  have hu : l.map unitE = p.places.map (·.unit) := by rw [← hl, List.map_map]; rfl
  refine ⟨fun e he => ?_, ?_, ?_⟩
  · have : e.pl ∈ p.places := by rw [← hl]; exact List.mem_map.2 ⟨e, he, rfl⟩
    have := h.units _ this
    show (Lit.int .i64 e.pl.unit).wf = true
    have h1 : IntKind.min .i64 = -9223372036854775808 := by decide
    have h2 : IntKind.max .i64 = 9223372036854775807 := by decide
    simp only [Lit.wf, h1, h2, Bool.and_eq_true, decide_eq_true_eq]
    omega
  · rw [hu, List.nodup_iff_pairwise_ne, List.pairwise_map]
    refine (List.pairwise_iff_getElem (R := fun (a b : Pl) => a.unit ≠ b.unit)).2 fun i j hi hj hij => ?_
    have := h.ascD i j hij hj
    omega
  · simp only [lightP, Bool.and_eq_true, decide_eq_true_eq] at hli
    rw [← List.length_map (f := PE.pl), hl]; omega

set_option maxHeartbeats 8000000 in
theorem DiffLists_spec {a b : PlanD} {v w : Value} (hv : PlanV m a v) (hw : PlanV m b w) : WC R F.law22_DiffLists [v, w] m fun r m' => r = .bool true := by
  refine WC.of R.law22_DiffLists rfl ?_
  obtain ⟨pv, rfl, hp⟩ := hv
  obtain ⟨qv, rfl, hq⟩ := hw
  simp only [RC.law22_DiffLists, planV, go_sem, Int.reduceBEq, Int.reduceBNe, Int.reduceNeg, reduceCtorEq, Nat.reduceEqDiff, Nat.reduceAdd, Nat.reduceLeDiff, Nat.reduceMul, Nat.reduceSub, Int.reduceToNat, Int.reduceLT, Int.reduceLE, hp.one, hq.one]
  have hx1 : Ext m (m.new (.cells [.int .i64 a.frame, u32 a.cores, pv] (some 3))) := Ext.new
  have hb1 : Bk (m.new (.cells [.int .i64 a.frame, u32 a.cores, pv] (some 3))) m.next [.int .i64 a.frame, u32 a.cores, pv] 3 := Bk.new
  generalize m.new (.cells [.int .i64 a.frame, u32 a.cores, pv] (some 3)) = m1 at hx1 hb1 ⊢
  have hx2 : Ext m1 (m1.new (.cells [.int .i64 b.frame, u32 b.cores, qv] (some 3))) := Ext.new
  have hb2 : Bk (m1.new (.cells [.int .i64 b.frame, u32 b.cores, qv] (some 3))) m1.next [.int .i64 b.frame, u32 b.cores, qv] 3 := Bk.new
  generalize m1.new (.cells [.int .i64 b.frame, u32 b.cores, qv] (some 3)) = m2 at hx2 hb2 ⊢
  have hb1 := hb1.keep hx2
  have hX := hx1.trans hx2
  have hp := hp.keep hX
  have hq := hq.keep hX
  try simp only [go_sem, Int.reduceBEq, Int.reduceBNe, Int.reduceNeg, reduceCtorEq, Nat.reduceEqDiff, Nat.reduceAdd, Nat.reduceLeDiff, Nat.reduceMul, Nat.reduceSub, Int.reduceToNat, Int.reduceLT, Int.reduceLE, load_w, load_a, store_b, idxS_b, set_blk, new_blk, set_next, new_next, len_s, ldW_c, ldA_c, stB_c, toArr_one, size_one, toList_toArr, size_toArr, List.length_cons, List.length_nil, List.getElem?_cons_zero, List.getElem?_cons_succ, Nat.zero_add, Nat.add_zero, hb1.at_, hb2.at_]
  refine gC.of (right_spec (a := a) (b := b) ⟨pv, rfl, hp⟩ ⟨qv, rfl, hq⟩) ?_
  rintro _ M0 ⟨rfl, hx⟩
  have hb1 := hb1.keep hx
  have hb2 := hb2.keep hx
  have hp := hp.keep hx
  have hq := hq.keep hx
  by_cases hr : rightAB a b
  · obtain ⟨l1, l2, ra, rb⟩ := hr
    have hr : rightAB a b := ⟨l1, l2, ra, rb⟩
    have pa := light_lD l1
    have pb := light_lD l2
    obtain ⟨la, ha, hsa, hpa⟩ := rowS_of hp
    obtain ⟨lb, hb, hsb, hpb⟩ := rowS_of hq
    have oa := ra.okE l1 ha
    have ob := rb.okE l2 hb
    have fa : ∀ e ∈ la, e.pl.pieces.length < 1000000 := fun e he => pa.pcs _ (by rw [← ha]; exact List.mem_map.2 ⟨e, he, rfl⟩)
    have fb : ∀ e ∈ lb, e.pl.pieces.length < 1000000 := fun e he => pb.pcs _ (by rw [← hb]; exact List.mem_map.2 ⟨e, he, rfl⟩)
    try simp only [go_sem, Int.reduceBEq, Int.reduceBNe, Int.reduceNeg, reduceCtorEq, Nat.reduceEqDiff, Nat.reduceAdd, Nat.reduceLeDiff, Nat.reduceMul, Nat.reduceSub, Int.reduceToNat, Int.reduceLT, Int.reduceLE, load_w, load_a, store_b, idxS_b, set_blk, new_blk, set_next, new_next, len_s, ldW_c, ldA_c, stB_c, toArr_one, size_one, toList_toArr, size_toArr, List.length_cons, List.length_nil, List.getElem?_cons_zero, List.getElem?_cons_succ, Nat.zero_add, Nat.add_zero, decide_eq_true hr, hb1.at_, hb2.at_]
    refine gC.of (Moved_spec (hsa.keep (Ext.refl M0)) (hsb.keep (Ext.refl M0)) oa ob (fun e he => ⟨(hpa e he).keep (Ext.refl M0), fa e he⟩) (fun e he => ⟨(hpb e he).keep (Ext.refl M0), fb e he⟩)) ?_
    rintro ra0 A0 ⟨hoa0, hxa0⟩
    have hX0 : Ext M0 A0 := (Ext.refl M0).trans hxa0
    rw [moved_right ha hb ra rb] at hoa0
    have hk10 := hxa0.same m.next (hb1.keep (Ext.refl M0)).lt
    have hk20 := hxa0.same m1.next (hb2.keep (Ext.refl M0)).lt
    have hc10 := hb1.keep hX0
    have hc20 := hb2.keep hX0
    try simp only [go_sem, Int.reduceBEq, Int.reduceBNe, Int.reduceNeg, reduceCtorEq, Nat.reduceEqDiff, Nat.reduceAdd, Nat.reduceLeDiff, Nat.reduceMul, Nat.reduceSub, Int.reduceToNat, Int.reduceLT, Int.reduceLE, load_w, load_a, store_b, idxS_b, set_blk, new_blk, set_next, new_next, len_s, ldW_c, ldA_c, stB_c, toArr_one, size_one, toList_toArr, size_toArr, List.length_cons, List.length_nil, List.getElem?_cons_zero, List.getElem?_cons_succ, Nat.zero_add, Nat.add_zero, watchOk_cons, watchOk_nil, blkOf_ptr, hk10, hk20, hc10.at_, hc20.at_]
    refine gC.of (List0_spec (p := a) (q := b) ⟨pv, rfl, hp.keep hX0⟩ ⟨qv, rfl, hq.keep hX0⟩ pa pb ra.ascD rb.ascD) ?_
    rintro rb0 B0 ⟨hob0, hxb0⟩
    have hY0 : Ext M0 B0 := hX0.trans hxb0
    try simp only [go_sem, Int.reduceBEq, Int.reduceBNe, Int.reduceNeg, reduceCtorEq, Nat.reduceEqDiff, Nat.reduceAdd, Nat.reduceLeDiff, Nat.reduceMul, Nat.reduceSub, Int.reduceToNat, Int.reduceLT, Int.reduceLE, load_w, load_a, store_b, idxS_b, set_blk, new_blk, set_next, new_next, len_s, ldW_c, ldA_c, stB_c, toArr_one, size_one, toList_toArr, size_toArr, List.length_cons, List.length_nil, List.getElem?_cons_zero, List.getElem?_cons_succ, Nat.zero_add, Nat.add_zero]
    refine gC.of (ref03_Same_spec (hoa0.keep hxb0).sl hob0.sl listL_len listL_len) ?_
    rintro _ _ ⟨rfl, hm0⟩
    replace hm0 := hm0.symm
    subst hm0
    have d0 : decide (listL (isU0 a.places b.places) a.places b.places = listL (isU0 a.places b.places) a.places b.places) = true := by simp
    have he10 := hb1.keep hY0
    have he20 := hb2.keep hY0
    try simp only [go_sem, Int.reduceBEq, Int.reduceBNe, Int.reduceNeg, reduceCtorEq, Nat.reduceEqDiff, Nat.reduceAdd, Nat.reduceLeDiff, Nat.reduceMul, Nat.reduceSub, Int.reduceToNat, Int.reduceLT, Int.reduceLE, load_w, load_a, store_b, idxS_b, set_blk, new_blk, set_next, new_next, len_s, ldW_c, ldA_c, stB_c, toArr_one, size_one, toList_toArr, size_toArr, List.length_cons, List.length_nil, List.getElem?_cons_zero, List.getElem?_cons_succ, Nat.zero_add, Nat.add_zero, d0, he10.at_, he20.at_]
    refine gC.of (Came_spec (hsa.keep hY0) (hsb.keep hY0) oa ob) ?_
    rintro ra1 A1 ⟨hoa1, hxa1⟩
    have hX1 : Ext M0 A1 := hY0.trans hxa1
    rw [came_eq ha hb ra.units rb.units] at hoa1
    have hk11 := hxa1.same m.next (hb1.keep hY0).lt
    have hk21 := hxa1.same m1.next (hb2.keep hY0).lt
    have hc11 := hb1.keep hX1
    have hc21 := hb2.keep hX1
    try simp only [go_sem, Int.reduceBEq, Int.reduceBNe, Int.reduceNeg, reduceCtorEq, Nat.reduceEqDiff, Nat.reduceAdd, Nat.reduceLeDiff, Nat.reduceMul, Nat.reduceSub, Int.reduceToNat, Int.reduceLT, Int.reduceLE, load_w, load_a, store_b, idxS_b, set_blk, new_blk, set_next, new_next, len_s, ldW_c, ldA_c, stB_c, toArr_one, size_one, toList_toArr, size_toArr, List.length_cons, List.length_nil, List.getElem?_cons_zero, List.getElem?_cons_succ, Nat.zero_add, Nat.add_zero, watchOk_cons, watchOk_nil, blkOf_ptr, hk11, hk21, hc11.at_, hc21.at_]
    refine gC.of (List1_spec (p := a) (q := b) ⟨pv, rfl, hp.keep hX1⟩ ⟨qv, rfl, hq.keep hX1⟩ pa pb ra.ascD rb.ascD) ?_
    rintro rb1 B1 ⟨hob1, hxb1⟩
    have hY1 : Ext M0 B1 := hX1.trans hxb1
    try simp only [go_sem, Int.reduceBEq, Int.reduceBNe, Int.reduceNeg, reduceCtorEq, Nat.reduceEqDiff, Nat.reduceAdd, Nat.reduceLeDiff, Nat.reduceMul, Nat.reduceSub, Int.reduceToNat, Int.reduceLT, Int.reduceLE, load_w, load_a, store_b, idxS_b, set_blk, new_blk, set_next, new_next, len_s, ldW_c, ldA_c, stB_c, toArr_one, size_one, toList_toArr, size_toArr, List.length_cons, List.length_nil, List.getElem?_cons_zero, List.getElem?_cons_succ, Nat.zero_add, Nat.add_zero]
    refine gC.of (ref03_Same_spec (hoa1.keep hxb1).sl hob1.sl listL_len listL_len) ?_
    rintro _ _ ⟨rfl, hm1⟩
    replace hm1 := hm1.symm
    subst hm1
    have d1 : decide (listL (isU1 a.places b.places) a.places b.places = listL (isU1 a.places b.places) a.places b.places) = true := by simp
    have he11 := hb1.keep hY1
    have he21 := hb2.keep hY1
    try simp only [go_sem, Int.reduceBEq, Int.reduceBNe, Int.reduceNeg, reduceCtorEq, Nat.reduceEqDiff, Nat.reduceAdd, Nat.reduceLeDiff, Nat.reduceMul, Nat.reduceSub, Int.reduceToNat, Int.reduceLT, Int.reduceLE, load_w, load_a, store_b, idxS_b, set_blk, new_blk, set_next, new_next, len_s, ldW_c, ldA_c, stB_c, toArr_one, size_one, toList_toArr, size_toArr, List.length_cons, List.length_nil, List.getElem?_cons_zero, List.getElem?_cons_succ, Nat.zero_add, Nat.add_zero, d1, he11.at_, he21.at_]
    refine gC.of (Gone_spec (hsa.keep hY1) (hsb.keep hY1) oa ob) ?_
    rintro ra2 A2 ⟨hoa2, hxa2⟩
    have hX2 : Ext M0 A2 := hY1.trans hxa2
    rw [gone_eq ha hb ra.units rb.units] at hoa2
    have hk12 := hxa2.same m.next (hb1.keep hY1).lt
    have hk22 := hxa2.same m1.next (hb2.keep hY1).lt
    have hc12 := hb1.keep hX2
    have hc22 := hb2.keep hX2
    try simp only [go_sem, Int.reduceBEq, Int.reduceBNe, Int.reduceNeg, reduceCtorEq, Nat.reduceEqDiff, Nat.reduceAdd, Nat.reduceLeDiff, Nat.reduceMul, Nat.reduceSub, Int.reduceToNat, Int.reduceLT, Int.reduceLE, load_w, load_a, store_b, idxS_b, set_blk, new_blk, set_next, new_next, len_s, ldW_c, ldA_c, stB_c, toArr_one, size_one, toList_toArr, size_toArr, List.length_cons, List.length_nil, List.getElem?_cons_zero, List.getElem?_cons_succ, Nat.zero_add, Nat.add_zero, watchOk_cons, watchOk_nil, blkOf_ptr, hk12, hk22, hc12.at_, hc22.at_]
    refine gC.of (List2_spec (p := a) (q := b) ⟨pv, rfl, hp.keep hX2⟩ ⟨qv, rfl, hq.keep hX2⟩ pa pb ra.ascD rb.ascD) ?_
    rintro rb2 B2 ⟨hob2, hxb2⟩
    have hY2 : Ext M0 B2 := hX2.trans hxb2
    try simp only [go_sem, Int.reduceBEq, Int.reduceBNe, Int.reduceNeg, reduceCtorEq, Nat.reduceEqDiff, Nat.reduceAdd, Nat.reduceLeDiff, Nat.reduceMul, Nat.reduceSub, Int.reduceToNat, Int.reduceLT, Int.reduceLE, load_w, load_a, store_b, idxS_b, set_blk, new_blk, set_next, new_next, len_s, ldW_c, ldA_c, stB_c, toArr_one, size_one, toList_toArr, size_toArr, List.length_cons, List.length_nil, List.getElem?_cons_zero, List.getElem?_cons_succ, Nat.zero_add, Nat.add_zero]
    refine gC.of (ref03_Same_spec (hoa2.keep hxb2).sl hob2.sl listL_len listL_len) ?_
    rintro _ _ ⟨rfl, hm2⟩
    replace hm2 := hm2.symm
    subst hm2
    have d2 : decide (listL (isU2 a.places b.places) a.places b.places = listL (isU2 a.places b.places) a.places b.places) = true := by simp
    have he12 := hb1.keep hY2
    have he22 := hb2.keep hY2
    try simp only [go_sem, Int.reduceBEq, Int.reduceBNe, Int.reduceNeg, reduceCtorEq, Nat.reduceEqDiff, Nat.reduceAdd, Nat.reduceLeDiff, Nat.reduceMul, Nat.reduceSub, Int.reduceToNat, Int.reduceLT, Int.reduceLE, load_w, load_a, store_b, idxS_b, set_blk, new_blk, set_next, new_next, len_s, ldW_c, ldA_c, stB_c, toArr_one, size_one, toList_toArr, size_toArr, List.length_cons, List.length_nil, List.getElem?_cons_zero, List.getElem?_cons_succ, Nat.zero_add, Nat.add_zero, d2, he12.at_, he22.at_]
    refine gC.of (Resized_spec (hsa.keep hY2) (hsb.keep hY2) oa ob) ?_
    rintro ra3 A3 ⟨hoa3, hxa3⟩
    have hX3 : Ext M0 A3 := hY2.trans hxa3
    rw [resized_eq ha hb ra.ascD rb.ascD ra.units rb.units] at hoa3
    have hk13 := hxa3.same m.next (hb1.keep hY2).lt
    have hk23 := hxa3.same m1.next (hb2.keep hY2).lt
    have hc13 := hb1.keep hX3
    have hc23 := hb2.keep hX3
    try simp only [go_sem, Int.reduceBEq, Int.reduceBNe, Int.reduceNeg, reduceCtorEq, Nat.reduceEqDiff, Nat.reduceAdd, Nat.reduceLeDiff, Nat.reduceMul, Nat.reduceSub, Int.reduceToNat, Int.reduceLT, Int.reduceLE, load_w, load_a, store_b, idxS_b, set_blk, new_blk, set_next, new_next, len_s, ldW_c, ldA_c, stB_c, toArr_one, size_one, toList_toArr, size_toArr, List.length_cons, List.length_nil, List.getElem?_cons_zero, List.getElem?_cons_succ, Nat.zero_add, Nat.add_zero, watchOk_cons, watchOk_nil, blkOf_ptr, hk13, hk23, hc13.at_, hc23.at_]
    refine gC.of (List3_spec (p := a) (q := b) ⟨pv, rfl, hp.keep hX3⟩ ⟨qv, rfl, hq.keep hX3⟩ pa pb ra.ascD rb.ascD) ?_
    rintro rb3 B3 ⟨hob3, hxb3⟩
    have hY3 : Ext M0 B3 := hX3.trans hxb3
    try simp only [go_sem, Int.reduceBEq, Int.reduceBNe, Int.reduceNeg, reduceCtorEq, Nat.reduceEqDiff, Nat.reduceAdd, Nat.reduceLeDiff, Nat.reduceMul, Nat.reduceSub, Int.reduceToNat, Int.reduceLT, Int.reduceLE, load_w, load_a, store_b, idxS_b, set_blk, new_blk, set_next, new_next, len_s, ldW_c, ldA_c, stB_c, toArr_one, size_one, toList_toArr, size_toArr, List.length_cons, List.length_nil, List.getElem?_cons_zero, List.getElem?_cons_succ, Nat.zero_add, Nat.add_zero]
    refine gC.of (ref03_Same_spec (hoa3.keep hxb3).sl hob3.sl listL_len listL_len) ?_
    rintro _ _ ⟨rfl, hm3⟩
    replace hm3 := hm3.symm
    subst hm3
    have d3 : decide (listL (isU3 a.places b.places) a.places b.places = listL (isU3 a.places b.places) a.places b.places) = true := by simp
    have he13 := hb1.keep hY3
    have he23 := hb2.keep hY3
    try simp only [go_sem, Int.reduceBEq, Int.reduceBNe, Int.reduceNeg, reduceCtorEq, Nat.reduceEqDiff, Nat.reduceAdd, Nat.reduceLeDiff, Nat.reduceMul, Nat.reduceSub, Int.reduceToNat, Int.reduceLT, Int.reduceLE, load_w, load_a, store_b, idxS_b, set_blk, new_blk, set_next, new_next, len_s, ldW_c, ldA_c, stB_c, toArr_one, size_one, toList_toArr, size_toArr, List.length_cons, List.length_nil, List.getElem?_cons_zero, List.getElem?_cons_succ, Nat.zero_add, Nat.add_zero, d3, he13.at_, he23.at_]
    refine gC.of (ok_specD R.law22_awake) ?_
    rintro _ m_ ⟨rfl, hm_⟩
    replace hm_ := hm_.symm
    subst hm_
    simp only [go_sem, Int.reduceBEq, Int.reduceBNe, Int.reduceNeg, reduceCtorEq, Nat.reduceEqDiff, Nat.reduceAdd, Nat.reduceLeDiff, Nat.reduceMul, Nat.reduceSub, Int.reduceToNat, Int.reduceLT, Int.reduceLE]
    try simp only [go_sem, Int.reduceBEq, Int.reduceBNe, Int.reduceNeg, reduceCtorEq, Nat.reduceEqDiff, Nat.reduceAdd, Nat.reduceLeDiff, Nat.reduceMul, Nat.reduceSub, Int.reduceToNat, Int.reduceLT, Int.reduceLE, load_w, load_a, store_b, idxS_b, set_blk, new_blk, set_next, new_next, len_s, ldW_c, ldA_c, stB_c, toArr_one, size_one, toList_toArr, size_toArr, List.length_cons, List.length_nil, List.getElem?_cons_zero, List.getElem?_cons_succ, Nat.zero_add, Nat.add_zero]
  · try simp only [go_sem, Int.reduceBEq, Int.reduceBNe, Int.reduceNeg, reduceCtorEq, Nat.reduceEqDiff, Nat.reduceAdd, Nat.reduceLeDiff, Nat.reduceMul, Nat.reduceSub, Int.reduceToNat, Int.reduceLT, Int.reduceLE, load_w, load_a, store_b, idxS_b, set_blk, new_blk, set_next, new_next, len_s, ldW_c, ldA_c, stB_c, toArr_one, size_one, toList_toArr, size_toArr, List.length_cons, List.length_nil, List.getElem?_cons_zero, List.getElem?_cons_succ, Nat.zero_add, Nat.add_zero, decide_eq_false hr]
    refine gC.of (ok_specD R.law22_awake) ?_
    rintro _ m_ ⟨rfl, hm_⟩
    replace hm_ := hm_.symm
    subst hm_
    simp only [go_sem, Int.reduceBEq, Int.reduceBNe, Int.reduceNeg, reduceCtorEq, Nat.reduceEqDiff, Nat.reduceAdd, Nat.reduceLeDiff, Nat.reduceMul, Nat.reduceSub, Int.reduceToNat, Int.reduceLT, Int.reduceLE]
end Go.Am


/- DiffLists, of arguments as they are read. -/
set_option linter.unusedVariables false
namespace Go.Am
theorem law22_DiffLists_walk (m : Mem) (us : List Value) (h : RdAs m [(true, planSh), (true, planSh)] us) : WC R F.law22_DiffLists us m fun v _ => v = .bool true := by
  obtain ⟨_, _, rfl, h1, h⟩ := h.one; obtain ⟨_, _, rfl, h2, h⟩ := h.one; cases h.none
  obtain ⟨p, hp, -⟩ := plan_read h1; obtain ⟨q, hq, -⟩ := plan_read h2
  exact DiffLists_spec hp hq
end Go.Am
