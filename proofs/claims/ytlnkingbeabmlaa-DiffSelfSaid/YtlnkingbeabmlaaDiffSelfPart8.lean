/- Parts of the proofs of the statements of this seat: DiffT5, DiffT6, DiffT7, DiffT8, DiffT9, DiffU1, DiffU2, DiffV1, DiffV2, DiffV3, DiffV4, DiffMaskRank, DiffV5. No conditions. -/
import Derived.Test.YtlnkingbeabmlaaDiffSelfPart7
import Derived.Test.YtlnkingbeabmlaaDiffSelfPart5
set_option linter.unusedVariables false
set_option linter.unusedSimpArgs false

/- Diff: the reference's lists, of other kinds. -/
set_option linter.unusedVariables false
set_option linter.unusedSimpArgs false
namespace Go.Am
open Classical
variable {m : Mem}

noncomputable def isU1 (a b : List Pl) (u : Int) : Bool := !decide (hasU a u)
noncomputable def isU2 (a b : List Pl) (u : Int) : Bool := !decide (hasU b u)
noncomputable def isU3 (a b : List Pl) (u : Int) : Bool := decide (hasU a u) && (decide (hasU b u) && decide ((findP a u).share ≠ (findP b u).share))

set_option maxHeartbeats 8000000 in
theorem List1_spec {p q : PlanD} {v w : Value} (hv : PlanV m p v) (hw : PlanV m q w) (hl : PlanL p) (hk : PlanL q) (ha : Asc p.places) (hb : Asc q.places) :
    WC R F.ref22_List [.int .i64 1, v, w] m fun r m' => Own m m' 1 (listL (isU1 p.places q.places) p.places q.places).length (intsZ (listL (isU1 p.places q.places) p.places q.places)) r ∧ Ext m m' := by
  refine WC.of R.ref22_List rfl ?_
  obtain ⟨pv, rfl, hp⟩ := hv
  obtain ⟨qv, rfl, hq⟩ := hw
  simp only [RC.ref22_List, planV, go_sem, Int.reduceBEq, Int.reduceBNe, Int.reduceNeg, reduceCtorEq, Nat.reduceEqDiff, Nat.reduceAdd, Nat.reduceLeDiff, Nat.reduceMul, Nat.reduceSub, Int.reduceToNat, Int.reduceLT, Int.reduceLE, hp.one, hq.one]
  have hx1 : Ext m (m.new (.cells [.int .i64 p.frame, u32 p.cores, pv] (some 3))) := Ext.new
  have hb1 : Bk (m.new (.cells [.int .i64 p.frame, u32 p.cores, pv] (some 3))) m.next [.int .i64 p.frame, u32 p.cores, pv] 3 := Bk.new
  generalize m.new (.cells [.int .i64 p.frame, u32 p.cores, pv] (some 3)) = m1 at hx1 hb1 ⊢
  have hx2 : Ext m1 (m1.new (.cells [.int .i64 q.frame, u32 q.cores, qv] (some 3))) := Ext.new
  have hb2 : Bk (m1.new (.cells [.int .i64 q.frame, u32 q.cores, qv] (some 3))) m1.next [.int .i64 q.frame, u32 q.cores, qv] 3 := Bk.new
  generalize m1.new (.cells [.int .i64 q.frame, u32 q.cores, qv] (some 3)) = m2 at hx2 hb2 ⊢
  have hb12 := hb1.keep hx2
  have hX := hx1.trans hx2
  have hp2 := hp.keep hX
  have hq2 := hq.keep hX
  have hbn1 := hb12.ne
  have hbn2 := hb2.ne
  have hx3 : Ext m2 (m2.new (.cells [] (some 1))) := Ext.new
  have ho3 : Own m2 (m2.new (.cells [] (some 1))) 1 0 [] (.slice (some ⟨m2.next, 0, none⟩) 0 0) := .at (all := []) (Nat.le_refl _) (by simp [Mem.new]) (Nat.le_refl _) (by simp [Mem.new]) rfl rfl rfl
  try simp only [go_sem, Int.reduceBEq, Int.reduceBNe, Int.reduceNeg, reduceCtorEq, Nat.reduceEqDiff, Nat.reduceAdd, Nat.reduceLeDiff, Nat.reduceMul, Nat.reduceSub, Int.reduceToNat, Int.reduceLT, Int.reduceLE, load_w, load_a, store_b, idxS_b, set_blk, new_blk, set_next, new_next, len_s, ldW_c, ldA_c, stB_c, toArr_one, size_one, toList_toArr, size_toArr, List.length_cons, List.length_nil, List.getElem?_cons_zero, List.getElem?_cons_succ, Nat.zero_add, Nat.add_zero, hb12.at_, hb2.at_, hbn1, hbn2]
  have hm3 : m2.next < (m2.new (.cells [] (some 1))).next := by simp [Mem.new]
  generalize m2.new (.cells [] (some 1)) = m3 at hx3 ho3 hm3 ⊢
  refine gC.of (Units_spec (p := p) (q := q) ⟨pv, rfl, hp2.keep hx3⟩ ⟨qv, rfl, hq2.keep hx3⟩ hl hk ha hb) ?_
  rintro uw m4 ⟨hou, hx4⟩
  have hul := unitsL_len (a := p.places) (b := q.places) 1040
  have hx24 := hx3.trans hx4
  have ho4 := ho3.keep hx4
  unfold listL
  generalize unitsL p.places q.places 1040 = U at *
  have hsU := hou.sl
  have hltU := hou.lt
  try simp only [go_sem, Int.reduceBEq, Int.reduceBNe, Int.reduceNeg, reduceCtorEq, Nat.reduceEqDiff, Nat.reduceAdd, Nat.reduceLeDiff, Nat.reduceMul, Nat.reduceSub, Int.reduceToNat, Int.reduceLT, Int.reduceLE, load_w, load_a, store_b, idxS_b, set_blk, new_blk, set_next, new_next, len_s, ldW_c, ldA_c, stB_c, toArr_one, size_one, toList_toArr, size_toArr, List.length_cons, List.length_nil, List.getElem?_cons_zero, List.getElem?_cons_succ, Nat.zero_add, Nat.add_zero]
  refine WL.of (fun n e m' => ∃ (i : Nat) (z : Value), i ≤ U.length ∧ n = U.length - i ∧ e = [(0, .int .i64 1), (4, pt m.next), (5, pt m1.next), (7, z), (8, uw), (9, .int .i64 i)] ∧ OwnQ m2 m4 m' m2.next 1 ((U.take i).filter (isU1 p.places q.places)).length (intsZ ((U.take i).filter (isU1 p.places q.places))) z) U.length
    ⟨0, _, by omega, by omega, by simp only [go_sem, Int.reduceBEq, Int.reduceBNe, Int.reduceNeg, reduceCtorEq, Nat.reduceEqDiff, Nat.reduceAdd, Nat.reduceLeDiff, Nat.reduceMul, Nat.reduceSub, Int.reduceToNat, Int.reduceLT, Int.reduceLE] <;> rfl, ⟨ho4, Upd.refl _ _, fun b hb => by simp [vb] at hb; exact .inl hb, hx24⟩⟩ ?_
  rintro _ _ m5 ⟨i, z, hi, rfl, rfl, ho⟩
  have hx25 := ho.ext
  have hbx := (hb12).keep hx25
  have hby := hb2.keep hx25
  have hgeU := hou.ge
  have hn23 : m2.next < m3.next := hm3
  have hoffU : SlOff [m2.next] uw := SlOff.vb_iff.2 (fun b hb hm => by simp at hm; have := hgeU b hb; omega)
  have hs5 := hsU.upd hltU hoffU ho.upd
  have hlt5 := hltU.upd ho.upd
  simp only [RB.ref22_List_1, pt, go_sem, Int.reduceBEq, Int.reduceBNe, Int.reduceNeg, reduceCtorEq, Nat.reduceEqDiff, Nat.reduceAdd, Nat.reduceLeDiff, Nat.reduceMul, Nat.reduceSub, Int.reduceToNat, Int.reduceLT, Int.reduceLE, load_w, load_a, store_b, idxS_b, set_blk, new_blk, set_next, new_next, len_s, ldW_c, ldA_c, stB_c, toArr_one, size_one, toList_toArr, size_toArr, List.length_cons, List.length_nil, List.getElem?_cons_zero, List.getElem?_cons_succ, Nat.zero_add, Nat.add_zero, hs5.len]
  have s1 := step1 (show i < 1000000 by omega)
  by_cases g1 : i < U.length
  · have e1 : decide ((i : Int) < (U.length : Int)) = true := decide_eq_true (by omega)
    obtain ⟨bb, oo, a1, a2⟩ := hs5.geti g1
    try simp only [go_sem, Int.reduceBEq, Int.reduceBNe, Int.reduceNeg, reduceCtorEq, Nat.reduceEqDiff, Nat.reduceAdd, Nat.reduceLeDiff, Nat.reduceMul, Nat.reduceSub, Int.reduceToNat, Int.reduceLT, Int.reduceLE, load_w, load_a, store_b, idxS_b, set_blk, new_blk, set_next, new_next, len_s, ldW_c, ldA_c, stB_c, toArr_one, size_one, toList_toArr, size_toArr, List.length_cons, List.length_nil, List.getElem?_cons_zero, List.getElem?_cons_succ, Nat.zero_add, Nat.add_zero, e1, hbx.at_, a1, a2]
    have hbu : Ext m5 (m5.bump 12) := Ext.bump
    refine gC.of (refFindO_spec (p := p) (u := U[i]) ⟨pv, rfl, hp2⟩ (hx25.trans hbu) hl ha) ?_
    rintro _ m6 ⟨xv, rfl, hxv, hx6⟩
    have hn6 : m5.next + 12 ≤ m6.next := hx6.next
    have hx56 := hbu.trans hx6
    have hone := hxv.one
    have hlx : (findP p.places U[i]).pieces.length < 1000000 := findP_pcs hl
    have hly : (findP q.places U[i]).pieces.length < 1000000 := findP_pcs hk
    have hset : ∀ (M : Mem) (k : Nat) (a b : Option AObj), (M.set k a).set k b = M.set k b := fun M k a b => by
      unfold Mem.set; congr 1; funext q; simp only []; split <;> rfl
    simp only [plV]
    try simp only [go_sem, Int.reduceBEq, Int.reduceBNe, Int.reduceNeg, reduceCtorEq, Nat.reduceEqDiff, Nat.reduceAdd, Nat.reduceLeDiff, Nat.reduceMul, Nat.reduceSub, Int.reduceToNat, Int.reduceLT, Int.reduceLE, load_w, load_a, store_b, idxS_b, set_blk, new_blk, set_next, new_next, len_s, ldW_c, ldA_c, stB_c, toArr_one, size_one, toList_toArr, size_toArr, List.length_cons, List.length_nil, List.getElem?_cons_zero, List.getElem?_cons_succ, Nat.zero_add, Nat.add_zero, aExt0, aExt1, hone, hset]
    have hU7 : Upd m6 (m6.set (m5.next + 9) (some (.cells [.int .i64 (findP p.places U[i]).unit, .int .i64 (findP p.places U[i]).share, .int .i64 (findP p.places U[i]).core, xv] (some 4)))) [m5.next + 9] := Upd.set (by simp)
    have hc7 : Bk (m6.set (m5.next + 9) (some (.cells [.int .i64 (findP p.places U[i]).unit, .int .i64 (findP p.places U[i]).share, .int .i64 (findP p.places U[i]).core, xv] (some 4)))) (m5.next + 9) [.int .i64 (findP p.places U[i]).unit, .int .i64 (findP p.places U[i]).share, .int .i64 (findP p.places U[i]).core, xv] 4 := ⟨by simp [Mem.set], by simp [Mem.set]; omega⟩
    have hm7n : (m6.set (m5.next + 9) (some (.cells [.int .i64 (findP p.places U[i]).unit, .int .i64 (findP p.places U[i]).share, .int .i64 (findP p.places U[i]).core, xv] (some 4)))).next = m6.next := rfl
    generalize m6.set (m5.next + 9) (some (.cells [.int .i64 (findP p.places U[i]).unit, .int .i64 (findP p.places U[i]).share, .int .i64 (findP p.places U[i]).core, xv] (some 4))) = m7 at hU7 hc7 hm7n ⊢
    have hx57 : Ext m5 m7 := hU7.ext_of hx56 (by simp)
    have hby7 := hby.keep hx57
    have hs7 := hs5.keep hlt5 hx57
    obtain ⟨b2, o2, c1, c2⟩ := hs7.geti g1
    rw [a1] at c1
    cases c1
    have hbu7 : Ext m7 (m7.bump 12) := Ext.bump
    try simp only [go_sem, Int.reduceBEq, Int.reduceBNe, Int.reduceNeg, reduceCtorEq, Nat.reduceEqDiff, Nat.reduceAdd, Nat.reduceLeDiff, Nat.reduceMul, Nat.reduceSub, Int.reduceToNat, Int.reduceLT, Int.reduceLE, load_w, load_a, store_b, idxS_b, set_blk, new_blk, set_next, new_next, len_s, ldW_c, ldA_c, stB_c, toArr_one, size_one, toList_toArr, size_toArr, List.length_cons, List.length_nil, List.getElem?_cons_zero, List.getElem?_cons_succ, Nat.zero_add, Nat.add_zero, a1, c2, hby7.at_]
    refine gC.of (refFindO_spec (p := q) (u := U[i]) ⟨qv, rfl, hq2⟩ ((hx25.trans hx57).trans hbu7) hk hb) ?_
    rintro _ m8 ⟨yv, rfl, hyv, hx8⟩
    have hn78 : m7.next + 12 ≤ m8.next := hx8.next
    have hn67 := hU7.next
    have hx78 := hbu7.trans hx8
    have hone2 := hyv.one
    have hc8 := hc7.keep hx78
    simp only [plV]
    try simp only [go_sem, Int.reduceBEq, Int.reduceBNe, Int.reduceNeg, reduceCtorEq, Nat.reduceEqDiff, Nat.reduceAdd, Nat.reduceLeDiff, Nat.reduceMul, Nat.reduceSub, Int.reduceToNat, Int.reduceLT, Int.reduceLE, load_w, load_a, store_b, idxS_b, set_blk, new_blk, set_next, new_next, len_s, ldW_c, ldA_c, stB_c, toArr_one, size_one, toList_toArr, size_toArr, List.length_cons, List.length_nil, List.getElem?_cons_zero, List.getElem?_cons_succ, Nat.zero_add, Nat.add_zero, aExt0, aExt1, hone2, hset]
    have hU9 : Upd m8 (m8.set (m6.next + 9) (some (.cells [.int .i64 (findP q.places U[i]).unit, .int .i64 (findP q.places U[i]).share, .int .i64 (findP q.places U[i]).core, yv] (some 4)))) [m6.next + 9] := Upd.set (by simp)
    have hcy9 : Bk (m8.set (m6.next + 9) (some (.cells [.int .i64 (findP q.places U[i]).unit, .int .i64 (findP q.places U[i]).share, .int .i64 (findP q.places U[i]).core, yv] (some 4)))) (m6.next + 9) [.int .i64 (findP q.places U[i]).unit, .int .i64 (findP q.places U[i]).share, .int .i64 (findP q.places U[i]).core, yv] 4 := ⟨by simp [Mem.set], by simp [Mem.set]; omega⟩
    generalize m8.set (m6.next + 9) (some (.cells [.int .i64 (findP q.places U[i]).unit, .int .i64 (findP q.places U[i]).share, .int .i64 (findP q.places U[i]).core, yv] (some 4))) = m9 at hU9 hcy9 ⊢
    have hcx9 := hc8.upd hU9 (by simp; omega)
    have hx59 : Ext m5 m9 := hU9.ext_of (hx57.trans hx78) (by simp; omega)
    have hx79 : Ext m7 m9 := hU9.ext_of hx78 (by simp; omega)
    have hyv9 : PcV m9 (findP q.places U[i]).pieces yv := hyv.keep (hx25.trans hx59)
    have hxv9 : PcV m9 (findP p.places U[i]).pieces xv := hxv.keep (hx25.trans hx59)
    have hulen : ((U.take i).filter (isU1 p.places q.places)).length ≤ i := Nat.le_trans (List.length_filter_le ..) (by rw [List.length_take]; omega)
    have htk : U.take (i + 1) = U.take i ++ [U[i]] := List.take_succ_eq_append_getElem g1
    have hstepT : isU1 p.places q.places U[i] = true → (U.take (i + 1)).filter (isU1 p.places q.places) = (U.take i).filter (isU1 p.places q.places) ++ [U[i]] := fun h => by
      rw [htk, List.filter_append]; simp [h]
    have hstepF : isU1 p.places q.places U[i] = false → (U.take (i + 1)).filter (isU1 p.places q.places) = (U.take i).filter (isU1 p.places q.places) := fun h => by
      rw [htk, List.filter_append]; simp [h]
    by_cases h1 : hasU p.places U[i]
    · have hpr : isU1 p.places q.places U[i] = false := by unfold isU1; simp [h1]
      try simp only [go_sem, Int.reduceBEq, Int.reduceBNe, Int.reduceNeg, reduceCtorEq, Nat.reduceEqDiff, Nat.reduceAdd, Nat.reduceLeDiff, Nat.reduceMul, Nat.reduceSub, Int.reduceToNat, Int.reduceLT, Int.reduceLE, load_w, load_a, store_b, idxS_b, set_blk, new_blk, set_next, new_next, len_s, ldW_c, ldA_c, stB_c, toArr_one, size_one, toList_toArr, size_toArr, List.length_cons, List.length_nil, List.getElem?_cons_zero, List.getElem?_cons_succ, Nat.zero_add, Nat.add_zero, decide_eq_true h1, s1]
      refine ⟨U.length - (i + 1), by omega, i + 1, z, by omega, rfl, rfl, ?_⟩
      rw [hstepF hpr]; exact ho.keep (hx59)
    · have hpr : isU1 p.places q.places U[i] = true := by unfold isU1; simp [h1]
      obtain ⟨b3, o3, d1, d2⟩ := (hs5.keep hlt5 (hx59)).geti g1
      rw [a1] at d1
      cases d1
      obtain ⟨v', mz, p1, p2⟩ := (ho.keep (hx59)).app (by_ := 8) (es := [.int .i64 U[i]]) (by omega) rfl rfl (by omega) (by omega)
      try simp only [go_sem, Int.reduceBEq, Int.reduceBNe, Int.reduceNeg, reduceCtorEq, Nat.reduceEqDiff, Nat.reduceAdd, Nat.reduceLeDiff, Nat.reduceMul, Nat.reduceSub, Int.reduceToNat, Int.reduceLT, Int.reduceLE, load_w, load_a, store_b, idxS_b, set_blk, new_blk, set_next, new_next, len_s, ldW_c, ldA_c, stB_c, toArr_one, size_one, toList_toArr, size_toArr, List.length_cons, List.length_nil, List.getElem?_cons_zero, List.getElem?_cons_succ, Nat.zero_add, Nat.add_zero, decide_eq_false h1, a1, d2, p1, s1]
      refine ⟨U.length - (i + 1), by omega, i + 1, v', by omega, rfl, rfl, ?_⟩
      rw [hstepT hpr, List.length_append]
      unfold intsZ at p2 ⊢
      rw [List.map_append]; exact p2
  · have e1 : decide ((i : Int) < (U.length : Int)) = false := decide_eq_false (by omega)
    have hi2 : i = U.length := by omega
    subst hi2
    rw [List.take_length] at ho
    try simp only [go_sem, Int.reduceBEq, Int.reduceBNe, Int.reduceNeg, reduceCtorEq, Nat.reduceEqDiff, Nat.reduceAdd, Nat.reduceLeDiff, Nat.reduceMul, Nat.reduceSub, Int.reduceToNat, Int.reduceLT, Int.reduceLE, load_w, load_a, store_b, idxS_b, set_blk, new_blk, set_next, new_next, len_s, ldW_c, ldA_c, stB_c, toArr_one, size_one, toList_toArr, size_toArr, List.length_cons, List.length_nil, List.getElem?_cons_zero, List.getElem?_cons_succ, Nat.zero_add, Nat.add_zero, e1]
    exact ⟨ho.own.weak hX, hX.trans hx25⟩

set_option maxHeartbeats 8000000 in
theorem List2_spec {p q : PlanD} {v w : Value} (hv : PlanV m p v) (hw : PlanV m q w) (hl : PlanL p) (hk : PlanL q) (ha : Asc p.places) (hb : Asc q.places) :
    WC R F.ref22_List [.int .i64 2, v, w] m fun r m' => Own m m' 1 (listL (isU2 p.places q.places) p.places q.places).length (intsZ (listL (isU2 p.places q.places) p.places q.places)) r ∧ Ext m m' := by
  refine WC.of R.ref22_List rfl ?_
  obtain ⟨pv, rfl, hp⟩ := hv
  obtain ⟨qv, rfl, hq⟩ := hw
  simp only [RC.ref22_List, planV, go_sem, Int.reduceBEq, Int.reduceBNe, Int.reduceNeg, reduceCtorEq, Nat.reduceEqDiff, Nat.reduceAdd, Nat.reduceLeDiff, Nat.reduceMul, Nat.reduceSub, Int.reduceToNat, Int.reduceLT, Int.reduceLE, hp.one, hq.one]
  have hx1 : Ext m (m.new (.cells [.int .i64 p.frame, u32 p.cores, pv] (some 3))) := Ext.new
  have hb1 : Bk (m.new (.cells [.int .i64 p.frame, u32 p.cores, pv] (some 3))) m.next [.int .i64 p.frame, u32 p.cores, pv] 3 := Bk.new
  generalize m.new (.cells [.int .i64 p.frame, u32 p.cores, pv] (some 3)) = m1 at hx1 hb1 ⊢
  have hx2 : Ext m1 (m1.new (.cells [.int .i64 q.frame, u32 q.cores, qv] (some 3))) := Ext.new
  have hb2 : Bk (m1.new (.cells [.int .i64 q.frame, u32 q.cores, qv] (some 3))) m1.next [.int .i64 q.frame, u32 q.cores, qv] 3 := Bk.new
  generalize m1.new (.cells [.int .i64 q.frame, u32 q.cores, qv] (some 3)) = m2 at hx2 hb2 ⊢
  have hb12 := hb1.keep hx2
  have hX := hx1.trans hx2
  have hp2 := hp.keep hX
  have hq2 := hq.keep hX
  have hbn1 := hb12.ne
  have hbn2 := hb2.ne
  have hx3 : Ext m2 (m2.new (.cells [] (some 1))) := Ext.new
  have ho3 : Own m2 (m2.new (.cells [] (some 1))) 1 0 [] (.slice (some ⟨m2.next, 0, none⟩) 0 0) := .at (all := []) (Nat.le_refl _) (by simp [Mem.new]) (Nat.le_refl _) (by simp [Mem.new]) rfl rfl rfl
  try simp only [go_sem, Int.reduceBEq, Int.reduceBNe, Int.reduceNeg, reduceCtorEq, Nat.reduceEqDiff, Nat.reduceAdd, Nat.reduceLeDiff, Nat.reduceMul, Nat.reduceSub, Int.reduceToNat, Int.reduceLT, Int.reduceLE, load_w, load_a, store_b, idxS_b, set_blk, new_blk, set_next, new_next, len_s, ldW_c, ldA_c, stB_c, toArr_one, size_one, toList_toArr, size_toArr, List.length_cons, List.length_nil, List.getElem?_cons_zero, List.getElem?_cons_succ, Nat.zero_add, Nat.add_zero, hb12.at_, hb2.at_, hbn1, hbn2]
  have hm3 : m2.next < (m2.new (.cells [] (some 1))).next := by simp [Mem.new]
  generalize m2.new (.cells [] (some 1)) = m3 at hx3 ho3 hm3 ⊢
  refine gC.of (Units_spec (p := p) (q := q) ⟨pv, rfl, hp2.keep hx3⟩ ⟨qv, rfl, hq2.keep hx3⟩ hl hk ha hb) ?_
  rintro uw m4 ⟨hou, hx4⟩
  have hul := unitsL_len (a := p.places) (b := q.places) 1040
  have hx24 := hx3.trans hx4
  have ho4 := ho3.keep hx4
  unfold listL
  generalize unitsL p.places q.places 1040 = U at *
  have hsU := hou.sl
  have hltU := hou.lt
  try simp only [go_sem, Int.reduceBEq, Int.reduceBNe, Int.reduceNeg, reduceCtorEq, Nat.reduceEqDiff, Nat.reduceAdd, Nat.reduceLeDiff, Nat.reduceMul, Nat.reduceSub, Int.reduceToNat, Int.reduceLT, Int.reduceLE, load_w, load_a, store_b, idxS_b, set_blk, new_blk, set_next, new_next, len_s, ldW_c, ldA_c, stB_c, toArr_one, size_one, toList_toArr, size_toArr, List.length_cons, List.length_nil, List.getElem?_cons_zero, List.getElem?_cons_succ, Nat.zero_add, Nat.add_zero]
  refine WL.of (fun n e m' => ∃ (i : Nat) (z : Value), i ≤ U.length ∧ n = U.length - i ∧ e = [(0, .int .i64 2), (4, pt m.next), (5, pt m1.next), (7, z), (8, uw), (9, .int .i64 i)] ∧ OwnQ m2 m4 m' m2.next 1 ((U.take i).filter (isU2 p.places q.places)).length (intsZ ((U.take i).filter (isU2 p.places q.places))) z) U.length
    ⟨0, _, by omega, by omega, by simp only [go_sem, Int.reduceBEq, Int.reduceBNe, Int.reduceNeg, reduceCtorEq, Nat.reduceEqDiff, Nat.reduceAdd, Nat.reduceLeDiff, Nat.reduceMul, Nat.reduceSub, Int.reduceToNat, Int.reduceLT, Int.reduceLE] <;> rfl, ⟨ho4, Upd.refl _ _, fun b hb => by simp [vb] at hb; exact .inl hb, hx24⟩⟩ ?_
  rintro _ _ m5 ⟨i, z, hi, rfl, rfl, ho⟩
  have hx25 := ho.ext
  have hbx := (hb12).keep hx25
  have hby := hb2.keep hx25
  have hgeU := hou.ge
  have hn23 : m2.next < m3.next := hm3
  have hoffU : SlOff [m2.next] uw := SlOff.vb_iff.2 (fun b hb hm => by simp at hm; have := hgeU b hb; omega)
  have hs5 := hsU.upd hltU hoffU ho.upd
  have hlt5 := hltU.upd ho.upd
  simp only [RB.ref22_List_1, pt, go_sem, Int.reduceBEq, Int.reduceBNe, Int.reduceNeg, reduceCtorEq, Nat.reduceEqDiff, Nat.reduceAdd, Nat.reduceLeDiff, Nat.reduceMul, Nat.reduceSub, Int.reduceToNat, Int.reduceLT, Int.reduceLE, load_w, load_a, store_b, idxS_b, set_blk, new_blk, set_next, new_next, len_s, ldW_c, ldA_c, stB_c, toArr_one, size_one, toList_toArr, size_toArr, List.length_cons, List.length_nil, List.getElem?_cons_zero, List.getElem?_cons_succ, Nat.zero_add, Nat.add_zero, hs5.len]
  have s1 := step1 (show i < 1000000 by omega)
  by_cases g1 : i < U.length
  · have e1 : decide ((i : Int) < (U.length : Int)) = true := decide_eq_true (by omega)
    obtain ⟨bb, oo, a1, a2⟩ := hs5.geti g1
    try simp only [go_sem, Int.reduceBEq, Int.reduceBNe, Int.reduceNeg, reduceCtorEq, Nat.reduceEqDiff, Nat.reduceAdd, Nat.reduceLeDiff, Nat.reduceMul, Nat.reduceSub, Int.reduceToNat, Int.reduceLT, Int.reduceLE, load_w, load_a, store_b, idxS_b, set_blk, new_blk, set_next, new_next, len_s, ldW_c, ldA_c, stB_c, toArr_one, size_one, toList_toArr, size_toArr, List.length_cons, List.length_nil, List.getElem?_cons_zero, List.getElem?_cons_succ, Nat.zero_add, Nat.add_zero, e1, hbx.at_, a1, a2]
    have hbu : Ext m5 (m5.bump 12) := Ext.bump
    refine gC.of (refFindO_spec (p := p) (u := U[i]) ⟨pv, rfl, hp2⟩ (hx25.trans hbu) hl ha) ?_
    rintro _ m6 ⟨xv, rfl, hxv, hx6⟩
    have hn6 : m5.next + 12 ≤ m6.next := hx6.next
    have hx56 := hbu.trans hx6
    have hone := hxv.one
    have hlx : (findP p.places U[i]).pieces.length < 1000000 := findP_pcs hl
    have hly : (findP q.places U[i]).pieces.length < 1000000 := findP_pcs hk
    have hset : ∀ (M : Mem) (k : Nat) (a b : Option AObj), (M.set k a).set k b = M.set k b := fun M k a b => by
      unfold Mem.set; congr 1; funext q; simp only []; split <;> rfl
    simp only [plV]
    try simp only [go_sem, Int.reduceBEq, Int.reduceBNe, Int.reduceNeg, reduceCtorEq, Nat.reduceEqDiff, Nat.reduceAdd, Nat.reduceLeDiff, Nat.reduceMul, Nat.reduceSub, Int.reduceToNat, Int.reduceLT, Int.reduceLE, load_w, load_a, store_b, idxS_b, set_blk, new_blk, set_next, new_next, len_s, ldW_c, ldA_c, stB_c, toArr_one, size_one, toList_toArr, size_toArr, List.length_cons, List.length_nil, List.getElem?_cons_zero, List.getElem?_cons_succ, Nat.zero_add, Nat.add_zero, aExt0, aExt1, hone, hset]
    have hU7 : Upd m6 (m6.set (m5.next + 9) (some (.cells [.int .i64 (findP p.places U[i]).unit, .int .i64 (findP p.places U[i]).share, .int .i64 (findP p.places U[i]).core, xv] (some 4)))) [m5.next + 9] := Upd.set (by simp)
    have hc7 : Bk (m6.set (m5.next + 9) (some (.cells [.int .i64 (findP p.places U[i]).unit, .int .i64 (findP p.places U[i]).share, .int .i64 (findP p.places U[i]).core, xv] (some 4)))) (m5.next + 9) [.int .i64 (findP p.places U[i]).unit, .int .i64 (findP p.places U[i]).share, .int .i64 (findP p.places U[i]).core, xv] 4 := ⟨by simp [Mem.set], by simp [Mem.set]; omega⟩
    have hm7n : (m6.set (m5.next + 9) (some (.cells [.int .i64 (findP p.places U[i]).unit, .int .i64 (findP p.places U[i]).share, .int .i64 (findP p.places U[i]).core, xv] (some 4)))).next = m6.next := rfl
    generalize m6.set (m5.next + 9) (some (.cells [.int .i64 (findP p.places U[i]).unit, .int .i64 (findP p.places U[i]).share, .int .i64 (findP p.places U[i]).core, xv] (some 4))) = m7 at hU7 hc7 hm7n ⊢
    have hx57 : Ext m5 m7 := hU7.ext_of hx56 (by simp)
    have hby7 := hby.keep hx57
    have hs7 := hs5.keep hlt5 hx57
    obtain ⟨b2, o2, c1, c2⟩ := hs7.geti g1
    rw [a1] at c1
    cases c1
    have hbu7 : Ext m7 (m7.bump 12) := Ext.bump
    try simp only [go_sem, Int.reduceBEq, Int.reduceBNe, Int.reduceNeg, reduceCtorEq, Nat.reduceEqDiff, Nat.reduceAdd, Nat.reduceLeDiff, Nat.reduceMul, Nat.reduceSub, Int.reduceToNat, Int.reduceLT, Int.reduceLE, load_w, load_a, store_b, idxS_b, set_blk, new_blk, set_next, new_next, len_s, ldW_c, ldA_c, stB_c, toArr_one, size_one, toList_toArr, size_toArr, List.length_cons, List.length_nil, List.getElem?_cons_zero, List.getElem?_cons_succ, Nat.zero_add, Nat.add_zero, a1, c2, hby7.at_]
    refine gC.of (refFindO_spec (p := q) (u := U[i]) ⟨qv, rfl, hq2⟩ ((hx25.trans hx57).trans hbu7) hk hb) ?_
    rintro _ m8 ⟨yv, rfl, hyv, hx8⟩
    have hn78 : m7.next + 12 ≤ m8.next := hx8.next
    have hn67 := hU7.next
    have hx78 := hbu7.trans hx8
    have hone2 := hyv.one
    have hc8 := hc7.keep hx78
    simp only [plV]
    try simp only [go_sem, Int.reduceBEq, Int.reduceBNe, Int.reduceNeg, reduceCtorEq, Nat.reduceEqDiff, Nat.reduceAdd, Nat.reduceLeDiff, Nat.reduceMul, Nat.reduceSub, Int.reduceToNat, Int.reduceLT, Int.reduceLE, load_w, load_a, store_b, idxS_b, set_blk, new_blk, set_next, new_next, len_s, ldW_c, ldA_c, stB_c, toArr_one, size_one, toList_toArr, size_toArr, List.length_cons, List.length_nil, List.getElem?_cons_zero, List.getElem?_cons_succ, Nat.zero_add, Nat.add_zero, aExt0, aExt1, hone2, hset]
    have hU9 : Upd m8 (m8.set (m6.next + 9) (some (.cells [.int .i64 (findP q.places U[i]).unit, .int .i64 (findP q.places U[i]).share, .int .i64 (findP q.places U[i]).core, yv] (some 4)))) [m6.next + 9] := Upd.set (by simp)
    have hcy9 : Bk (m8.set (m6.next + 9) (some (.cells [.int .i64 (findP q.places U[i]).unit, .int .i64 (findP q.places U[i]).share, .int .i64 (findP q.places U[i]).core, yv] (some 4)))) (m6.next + 9) [.int .i64 (findP q.places U[i]).unit, .int .i64 (findP q.places U[i]).share, .int .i64 (findP q.places U[i]).core, yv] 4 := ⟨by simp [Mem.set], by simp [Mem.set]; omega⟩
    generalize m8.set (m6.next + 9) (some (.cells [.int .i64 (findP q.places U[i]).unit, .int .i64 (findP q.places U[i]).share, .int .i64 (findP q.places U[i]).core, yv] (some 4))) = m9 at hU9 hcy9 ⊢
    have hcx9 := hc8.upd hU9 (by simp; omega)
    have hx59 : Ext m5 m9 := hU9.ext_of (hx57.trans hx78) (by simp; omega)
    have hx79 : Ext m7 m9 := hU9.ext_of hx78 (by simp; omega)
    have hyv9 : PcV m9 (findP q.places U[i]).pieces yv := hyv.keep (hx25.trans hx59)
    have hxv9 : PcV m9 (findP p.places U[i]).pieces xv := hxv.keep (hx25.trans hx59)
    have hulen : ((U.take i).filter (isU2 p.places q.places)).length ≤ i := Nat.le_trans (List.length_filter_le ..) (by rw [List.length_take]; omega)
    have htk : U.take (i + 1) = U.take i ++ [U[i]] := List.take_succ_eq_append_getElem g1
    have hstepT : isU2 p.places q.places U[i] = true → (U.take (i + 1)).filter (isU2 p.places q.places) = (U.take i).filter (isU2 p.places q.places) ++ [U[i]] := fun h => by
      rw [htk, List.filter_append]; simp [h]
    have hstepF : isU2 p.places q.places U[i] = false → (U.take (i + 1)).filter (isU2 p.places q.places) = (U.take i).filter (isU2 p.places q.places) := fun h => by
      rw [htk, List.filter_append]; simp [h]
    by_cases h1 : hasU q.places U[i]
    · have hpr : isU2 p.places q.places U[i] = false := by unfold isU2; simp [h1]
      try simp only [go_sem, Int.reduceBEq, Int.reduceBNe, Int.reduceNeg, reduceCtorEq, Nat.reduceEqDiff, Nat.reduceAdd, Nat.reduceLeDiff, Nat.reduceMul, Nat.reduceSub, Int.reduceToNat, Int.reduceLT, Int.reduceLE, load_w, load_a, store_b, idxS_b, set_blk, new_blk, set_next, new_next, len_s, ldW_c, ldA_c, stB_c, toArr_one, size_one, toList_toArr, size_toArr, List.length_cons, List.length_nil, List.getElem?_cons_zero, List.getElem?_cons_succ, Nat.zero_add, Nat.add_zero, decide_eq_true h1, s1]
      refine ⟨U.length - (i + 1), by omega, i + 1, z, by omega, rfl, rfl, ?_⟩
      rw [hstepF hpr]; exact ho.keep (hx59)
    · have hpr : isU2 p.places q.places U[i] = true := by unfold isU2; simp [h1]
      obtain ⟨b3, o3, d1, d2⟩ := (hs5.keep hlt5 (hx59)).geti g1
      rw [a1] at d1
      cases d1
      obtain ⟨v', mz, p1, p2⟩ := (ho.keep (hx59)).app (by_ := 8) (es := [.int .i64 U[i]]) (by omega) rfl rfl (by omega) (by omega)
      try simp only [go_sem, Int.reduceBEq, Int.reduceBNe, Int.reduceNeg, reduceCtorEq, Nat.reduceEqDiff, Nat.reduceAdd, Nat.reduceLeDiff, Nat.reduceMul, Nat.reduceSub, Int.reduceToNat, Int.reduceLT, Int.reduceLE, load_w, load_a, store_b, idxS_b, set_blk, new_blk, set_next, new_next, len_s, ldW_c, ldA_c, stB_c, toArr_one, size_one, toList_toArr, size_toArr, List.length_cons, List.length_nil, List.getElem?_cons_zero, List.getElem?_cons_succ, Nat.zero_add, Nat.add_zero, decide_eq_false h1, a1, d2, p1, s1]
      refine ⟨U.length - (i + 1), by omega, i + 1, v', by omega, rfl, rfl, ?_⟩
      rw [hstepT hpr, List.length_append]
      unfold intsZ at p2 ⊢
      rw [List.map_append]; exact p2
  · have e1 : decide ((i : Int) < (U.length : Int)) = false := decide_eq_false (by omega)
    have hi2 : i = U.length := by omega
    subst hi2
    rw [List.take_length] at ho
    try simp only [go_sem, Int.reduceBEq, Int.reduceBNe, Int.reduceNeg, reduceCtorEq, Nat.reduceEqDiff, Nat.reduceAdd, Nat.reduceLeDiff, Nat.reduceMul, Nat.reduceSub, Int.reduceToNat, Int.reduceLT, Int.reduceLE, load_w, load_a, store_b, idxS_b, set_blk, new_blk, set_next, new_next, len_s, ldW_c, ldA_c, stB_c, toArr_one, size_one, toList_toArr, size_toArr, List.length_cons, List.length_nil, List.getElem?_cons_zero, List.getElem?_cons_succ, Nat.zero_add, Nat.add_zero, e1]
    exact ⟨ho.own.weak hX, hX.trans hx25⟩

set_option maxHeartbeats 8000000 in
theorem List3_spec {p q : PlanD} {v w : Value} (hv : PlanV m p v) (hw : PlanV m q w) (hl : PlanL p) (hk : PlanL q) (ha : Asc p.places) (hb : Asc q.places) :
    WC R F.ref22_List [.int .i64 3, v, w] m fun r m' => Own m m' 1 (listL (isU3 p.places q.places) p.places q.places).length (intsZ (listL (isU3 p.places q.places) p.places q.places)) r ∧ Ext m m' := by
  refine WC.of R.ref22_List rfl ?_
  obtain ⟨pv, rfl, hp⟩ := hv
  obtain ⟨qv, rfl, hq⟩ := hw
  simp only [RC.ref22_List, planV, go_sem, Int.reduceBEq, Int.reduceBNe, Int.reduceNeg, reduceCtorEq, Nat.reduceEqDiff, Nat.reduceAdd, Nat.reduceLeDiff, Nat.reduceMul, Nat.reduceSub, Int.reduceToNat, Int.reduceLT, Int.reduceLE, hp.one, hq.one]
  have hx1 : Ext m (m.new (.cells [.int .i64 p.frame, u32 p.cores, pv] (some 3))) := Ext.new
  have hb1 : Bk (m.new (.cells [.int .i64 p.frame, u32 p.cores, pv] (some 3))) m.next [.int .i64 p.frame, u32 p.cores, pv] 3 := Bk.new
  generalize m.new (.cells [.int .i64 p.frame, u32 p.cores, pv] (some 3)) = m1 at hx1 hb1 ⊢
  have hx2 : Ext m1 (m1.new (.cells [.int .i64 q.frame, u32 q.cores, qv] (some 3))) := Ext.new
  have hb2 : Bk (m1.new (.cells [.int .i64 q.frame, u32 q.cores, qv] (some 3))) m1.next [.int .i64 q.frame, u32 q.cores, qv] 3 := Bk.new
  generalize m1.new (.cells [.int .i64 q.frame, u32 q.cores, qv] (some 3)) = m2 at hx2 hb2 ⊢
  have hb12 := hb1.keep hx2
  have hX := hx1.trans hx2
  have hp2 := hp.keep hX
  have hq2 := hq.keep hX
  have hbn1 := hb12.ne
  have hbn2 := hb2.ne
  have hx3 : Ext m2 (m2.new (.cells [] (some 1))) := Ext.new
  have ho3 : Own m2 (m2.new (.cells [] (some 1))) 1 0 [] (.slice (some ⟨m2.next, 0, none⟩) 0 0) := .at (all := []) (Nat.le_refl _) (by simp [Mem.new]) (Nat.le_refl _) (by simp [Mem.new]) rfl rfl rfl
  try simp only [go_sem, Int.reduceBEq, Int.reduceBNe, Int.reduceNeg, reduceCtorEq, Nat.reduceEqDiff, Nat.reduceAdd, Nat.reduceLeDiff, Nat.reduceMul, Nat.reduceSub, Int.reduceToNat, Int.reduceLT, Int.reduceLE, load_w, load_a, store_b, idxS_b, set_blk, new_blk, set_next, new_next, len_s, ldW_c, ldA_c, stB_c, toArr_one, size_one, toList_toArr, size_toArr, List.length_cons, List.length_nil, List.getElem?_cons_zero, List.getElem?_cons_succ, Nat.zero_add, Nat.add_zero, hb12.at_, hb2.at_, hbn1, hbn2]
  have hm3 : m2.next < (m2.new (.cells [] (some 1))).next := by simp [Mem.new]
  generalize m2.new (.cells [] (some 1)) = m3 at hx3 ho3 hm3 ⊢
  refine gC.of (Units_spec (p := p) (q := q) ⟨pv, rfl, hp2.keep hx3⟩ ⟨qv, rfl, hq2.keep hx3⟩ hl hk ha hb) ?_
  rintro uw m4 ⟨hou, hx4⟩
  have hul := unitsL_len (a := p.places) (b := q.places) 1040
  have hx24 := hx3.trans hx4
  have ho4 := ho3.keep hx4
  unfold listL
  generalize unitsL p.places q.places 1040 = U at *
  have hsU := hou.sl
  have hltU := hou.lt
  try simp only [go_sem, Int.reduceBEq, Int.reduceBNe, Int.reduceNeg, reduceCtorEq, Nat.reduceEqDiff, Nat.reduceAdd, Nat.reduceLeDiff, Nat.reduceMul, Nat.reduceSub, Int.reduceToNat, Int.reduceLT, Int.reduceLE, load_w, load_a, store_b, idxS_b, set_blk, new_blk, set_next, new_next, len_s, ldW_c, ldA_c, stB_c, toArr_one, size_one, toList_toArr, size_toArr, List.length_cons, List.length_nil, List.getElem?_cons_zero, List.getElem?_cons_succ, Nat.zero_add, Nat.add_zero]
  refine WL.of (fun n e m' => ∃ (i : Nat) (z : Value), i ≤ U.length ∧ n = U.length - i ∧ e = [(0, .int .i64 3), (4, pt m.next), (5, pt m1.next), (7, z), (8, uw), (9, .int .i64 i)] ∧ OwnQ m2 m4 m' m2.next 1 ((U.take i).filter (isU3 p.places q.places)).length (intsZ ((U.take i).filter (isU3 p.places q.places))) z) U.length
    ⟨0, _, by omega, by omega, by simp only [go_sem, Int.reduceBEq, Int.reduceBNe, Int.reduceNeg, reduceCtorEq, Nat.reduceEqDiff, Nat.reduceAdd, Nat.reduceLeDiff, Nat.reduceMul, Nat.reduceSub, Int.reduceToNat, Int.reduceLT, Int.reduceLE] <;> rfl, ⟨ho4, Upd.refl _ _, fun b hb => by simp [vb] at hb; exact .inl hb, hx24⟩⟩ ?_
  rintro _ _ m5 ⟨i, z, hi, rfl, rfl, ho⟩
  have hx25 := ho.ext
  have hbx := (hb12).keep hx25
  have hby := hb2.keep hx25
  have hgeU := hou.ge
  have hn23 : m2.next < m3.next := hm3
  have hoffU : SlOff [m2.next] uw := SlOff.vb_iff.2 (fun b hb hm => by simp at hm; have := hgeU b hb; omega)
  have hs5 := hsU.upd hltU hoffU ho.upd
  have hlt5 := hltU.upd ho.upd
  simp only [RB.ref22_List_1, pt, go_sem, Int.reduceBEq, Int.reduceBNe, Int.reduceNeg, reduceCtorEq, Nat.reduceEqDiff, Nat.reduceAdd, Nat.reduceLeDiff, Nat.reduceMul, Nat.reduceSub, Int.reduceToNat, Int.reduceLT, Int.reduceLE, load_w, load_a, store_b, idxS_b, set_blk, new_blk, set_next, new_next, len_s, ldW_c, ldA_c, stB_c, toArr_one, size_one, toList_toArr, size_toArr, List.length_cons, List.length_nil, List.getElem?_cons_zero, List.getElem?_cons_succ, Nat.zero_add, Nat.add_zero, hs5.len]
  have s1 := step1 (show i < 1000000 by omega)
  by_cases g1 : i < U.length
  · have e1 : decide ((i : Int) < (U.length : Int)) = true := decide_eq_true (by omega)
    obtain ⟨bb, oo, a1, a2⟩ := hs5.geti g1
    try simp only [go_sem, Int.reduceBEq, Int.reduceBNe, Int.reduceNeg, reduceCtorEq, Nat.reduceEqDiff, Nat.reduceAdd, Nat.reduceLeDiff, Nat.reduceMul, Nat.reduceSub, Int.reduceToNat, Int.reduceLT, Int.reduceLE, load_w, load_a, store_b, idxS_b, set_blk, new_blk, set_next, new_next, len_s, ldW_c, ldA_c, stB_c, toArr_one, size_one, toList_toArr, size_toArr, List.length_cons, List.length_nil, List.getElem?_cons_zero, List.getElem?_cons_succ, Nat.zero_add, Nat.add_zero, e1, hbx.at_, a1, a2]
    have hbu : Ext m5 (m5.bump 12) := Ext.bump
    refine gC.of (refFindO_spec (p := p) (u := U[i]) ⟨pv, rfl, hp2⟩ (hx25.trans hbu) hl ha) ?_
    rintro _ m6 ⟨xv, rfl, hxv, hx6⟩
    have hn6 : m5.next + 12 ≤ m6.next := hx6.next
    have hx56 := hbu.trans hx6
    have hone := hxv.one
    have hlx : (findP p.places U[i]).pieces.length < 1000000 := findP_pcs hl
    have hly : (findP q.places U[i]).pieces.length < 1000000 := findP_pcs hk
    have hset : ∀ (M : Mem) (k : Nat) (a b : Option AObj), (M.set k a).set k b = M.set k b := fun M k a b => by
      unfold Mem.set; congr 1; funext q; simp only []; split <;> rfl
    simp only [plV]
    try simp only [go_sem, Int.reduceBEq, Int.reduceBNe, Int.reduceNeg, reduceCtorEq, Nat.reduceEqDiff, Nat.reduceAdd, Nat.reduceLeDiff, Nat.reduceMul, Nat.reduceSub, Int.reduceToNat, Int.reduceLT, Int.reduceLE, load_w, load_a, store_b, idxS_b, set_blk, new_blk, set_next, new_next, len_s, ldW_c, ldA_c, stB_c, toArr_one, size_one, toList_toArr, size_toArr, List.length_cons, List.length_nil, List.getElem?_cons_zero, List.getElem?_cons_succ, Nat.zero_add, Nat.add_zero, aExt0, aExt1, hone, hset]
    have hU7 : Upd m6 (m6.set (m5.next + 9) (some (.cells [.int .i64 (findP p.places U[i]).unit, .int .i64 (findP p.places U[i]).share, .int .i64 (findP p.places U[i]).core, xv] (some 4)))) [m5.next + 9] := Upd.set (by simp)
    have hc7 : Bk (m6.set (m5.next + 9) (some (.cells [.int .i64 (findP p.places U[i]).unit, .int .i64 (findP p.places U[i]).share, .int .i64 (findP p.places U[i]).core, xv] (some 4)))) (m5.next + 9) [.int .i64 (findP p.places U[i]).unit, .int .i64 (findP p.places U[i]).share, .int .i64 (findP p.places U[i]).core, xv] 4 := ⟨by simp [Mem.set], by simp [Mem.set]; omega⟩
    have hm7n : (m6.set (m5.next + 9) (some (.cells [.int .i64 (findP p.places U[i]).unit, .int .i64 (findP p.places U[i]).share, .int .i64 (findP p.places U[i]).core, xv] (some 4)))).next = m6.next := rfl
    generalize m6.set (m5.next + 9) (some (.cells [.int .i64 (findP p.places U[i]).unit, .int .i64 (findP p.places U[i]).share, .int .i64 (findP p.places U[i]).core, xv] (some 4))) = m7 at hU7 hc7 hm7n ⊢
    have hx57 : Ext m5 m7 := hU7.ext_of hx56 (by simp)
    have hby7 := hby.keep hx57
    have hs7 := hs5.keep hlt5 hx57
    obtain ⟨b2, o2, c1, c2⟩ := hs7.geti g1
    rw [a1] at c1
    cases c1
    have hbu7 : Ext m7 (m7.bump 12) := Ext.bump
    try simp only [go_sem, Int.reduceBEq, Int.reduceBNe, Int.reduceNeg, reduceCtorEq, Nat.reduceEqDiff, Nat.reduceAdd, Nat.reduceLeDiff, Nat.reduceMul, Nat.reduceSub, Int.reduceToNat, Int.reduceLT, Int.reduceLE, load_w, load_a, store_b, idxS_b, set_blk, new_blk, set_next, new_next, len_s, ldW_c, ldA_c, stB_c, toArr_one, size_one, toList_toArr, size_toArr, List.length_cons, List.length_nil, List.getElem?_cons_zero, List.getElem?_cons_succ, Nat.zero_add, Nat.add_zero, a1, c2, hby7.at_]
    refine gC.of (refFindO_spec (p := q) (u := U[i]) ⟨qv, rfl, hq2⟩ ((hx25.trans hx57).trans hbu7) hk hb) ?_
    rintro _ m8 ⟨yv, rfl, hyv, hx8⟩
    have hn78 : m7.next + 12 ≤ m8.next := hx8.next
    have hn67 := hU7.next
    have hx78 := hbu7.trans hx8
    have hone2 := hyv.one
    have hc8 := hc7.keep hx78
    simp only [plV]
    try simp only [go_sem, Int.reduceBEq, Int.reduceBNe, Int.reduceNeg, reduceCtorEq, Nat.reduceEqDiff, Nat.reduceAdd, Nat.reduceLeDiff, Nat.reduceMul, Nat.reduceSub, Int.reduceToNat, Int.reduceLT, Int.reduceLE, load_w, load_a, store_b, idxS_b, set_blk, new_blk, set_next, new_next, len_s, ldW_c, ldA_c, stB_c, toArr_one, size_one, toList_toArr, size_toArr, List.length_cons, List.length_nil, List.getElem?_cons_zero, List.getElem?_cons_succ, Nat.zero_add, Nat.add_zero, aExt0, aExt1, hone2, hset]
    have hU9 : Upd m8 (m8.set (m6.next + 9) (some (.cells [.int .i64 (findP q.places U[i]).unit, .int .i64 (findP q.places U[i]).share, .int .i64 (findP q.places U[i]).core, yv] (some 4)))) [m6.next + 9] := Upd.set (by simp)
    have hcy9 : Bk (m8.set (m6.next + 9) (some (.cells [.int .i64 (findP q.places U[i]).unit, .int .i64 (findP q.places U[i]).share, .int .i64 (findP q.places U[i]).core, yv] (some 4)))) (m6.next + 9) [.int .i64 (findP q.places U[i]).unit, .int .i64 (findP q.places U[i]).share, .int .i64 (findP q.places U[i]).core, yv] 4 := ⟨by simp [Mem.set], by simp [Mem.set]; omega⟩
    generalize m8.set (m6.next + 9) (some (.cells [.int .i64 (findP q.places U[i]).unit, .int .i64 (findP q.places U[i]).share, .int .i64 (findP q.places U[i]).core, yv] (some 4))) = m9 at hU9 hcy9 ⊢
    have hcx9 := hc8.upd hU9 (by simp; omega)
    have hx59 : Ext m5 m9 := hU9.ext_of (hx57.trans hx78) (by simp; omega)
    have hx79 : Ext m7 m9 := hU9.ext_of hx78 (by simp; omega)
    have hyv9 : PcV m9 (findP q.places U[i]).pieces yv := hyv.keep (hx25.trans hx59)
    have hxv9 : PcV m9 (findP p.places U[i]).pieces xv := hxv.keep (hx25.trans hx59)
    have hulen : ((U.take i).filter (isU3 p.places q.places)).length ≤ i := Nat.le_trans (List.length_filter_le ..) (by rw [List.length_take]; omega)
    have htk : U.take (i + 1) = U.take i ++ [U[i]] := List.take_succ_eq_append_getElem g1
    have hstepT : isU3 p.places q.places U[i] = true → (U.take (i + 1)).filter (isU3 p.places q.places) = (U.take i).filter (isU3 p.places q.places) ++ [U[i]] := fun h => by
      rw [htk, List.filter_append]; simp [h]
    have hstepF : isU3 p.places q.places U[i] = false → (U.take (i + 1)).filter (isU3 p.places q.places) = (U.take i).filter (isU3 p.places q.places) := fun h => by
      rw [htk, List.filter_append]; simp [h]
    by_cases h1 : hasU p.places U[i]
    · by_cases h2 : hasU q.places U[i]
      · by_cases h3 : (findP p.places U[i]).share = (findP q.places U[i]).share
        · have hpr : isU3 p.places q.places U[i] = false := by unfold isU3; simp [h3]
          have h3' : ((findP p.places U[i]).share != (findP q.places U[i]).share) = false := by rw [bne_eq_false_iff_eq]; exact h3
          try simp only [go_sem, Int.reduceBEq, Int.reduceBNe, Int.reduceNeg, reduceCtorEq, Nat.reduceEqDiff, Nat.reduceAdd, Nat.reduceLeDiff, Nat.reduceMul, Nat.reduceSub, Int.reduceToNat, Int.reduceLT, Int.reduceLE, load_w, load_a, store_b, idxS_b, set_blk, new_blk, set_next, new_next, len_s, ldW_c, ldA_c, stB_c, toArr_one, size_one, toList_toArr, size_toArr, List.length_cons, List.length_nil, List.getElem?_cons_zero, List.getElem?_cons_succ, Nat.zero_add, Nat.add_zero, decide_eq_true h1, decide_eq_true h2, hcx9.at_, hcy9.at_, h3', s1]
          refine ⟨U.length - (i + 1), by omega, i + 1, z, by omega, rfl, rfl, ?_⟩
          rw [hstepF hpr]; exact ho.keep (hx59)
        · have hpr : isU3 p.places q.places U[i] = true := by unfold isU3; simp [h1, h2, h3]
          have h3' : ((findP p.places U[i]).share != (findP q.places U[i]).share) = true := by rw [bne_iff_ne]; exact h3
          obtain ⟨b3, o3, d1, d2⟩ := (hs5.keep hlt5 (hx59)).geti g1
          rw [a1] at d1
          cases d1
          obtain ⟨v', mz, p1, p2⟩ := (ho.keep (hx59)).app (by_ := 8) (es := [.int .i64 U[i]]) (by omega) rfl rfl (by omega) (by omega)
          try simp only [go_sem, Int.reduceBEq, Int.reduceBNe, Int.reduceNeg, reduceCtorEq, Nat.reduceEqDiff, Nat.reduceAdd, Nat.reduceLeDiff, Nat.reduceMul, Nat.reduceSub, Int.reduceToNat, Int.reduceLT, Int.reduceLE, load_w, load_a, store_b, idxS_b, set_blk, new_blk, set_next, new_next, len_s, ldW_c, ldA_c, stB_c, toArr_one, size_one, toList_toArr, size_toArr, List.length_cons, List.length_nil, List.getElem?_cons_zero, List.getElem?_cons_succ, Nat.zero_add, Nat.add_zero, decide_eq_true h1, decide_eq_true h2, hcx9.at_, hcy9.at_, h3', a1, d2, p1, s1]
          refine ⟨U.length - (i + 1), by omega, i + 1, v', by omega, rfl, rfl, ?_⟩
          rw [hstepT hpr, List.length_append]
          unfold intsZ at p2 ⊢
          rw [List.map_append]; exact p2
      · have hpr : isU3 p.places q.places U[i] = false := by unfold isU3; simp [h2]
        try simp only [go_sem, Int.reduceBEq, Int.reduceBNe, Int.reduceNeg, reduceCtorEq, Nat.reduceEqDiff, Nat.reduceAdd, Nat.reduceLeDiff, Nat.reduceMul, Nat.reduceSub, Int.reduceToNat, Int.reduceLT, Int.reduceLE, load_w, load_a, store_b, idxS_b, set_blk, new_blk, set_next, new_next, len_s, ldW_c, ldA_c, stB_c, toArr_one, size_one, toList_toArr, size_toArr, List.length_cons, List.length_nil, List.getElem?_cons_zero, List.getElem?_cons_succ, Nat.zero_add, Nat.add_zero, decide_eq_true h1, decide_eq_false h2, s1]
        refine ⟨U.length - (i + 1), by omega, i + 1, z, by omega, rfl, rfl, ?_⟩
        rw [hstepF hpr]; exact ho.keep (hx59)
    · have hpr : isU3 p.places q.places U[i] = false := by unfold isU3; simp [h1]
      try simp only [go_sem, Int.reduceBEq, Int.reduceBNe, Int.reduceNeg, reduceCtorEq, Nat.reduceEqDiff, Nat.reduceAdd, Nat.reduceLeDiff, Nat.reduceMul, Nat.reduceSub, Int.reduceToNat, Int.reduceLT, Int.reduceLE, load_w, load_a, store_b, idxS_b, set_blk, new_blk, set_next, new_next, len_s, ldW_c, ldA_c, stB_c, toArr_one, size_one, toList_toArr, size_toArr, List.length_cons, List.length_nil, List.getElem?_cons_zero, List.getElem?_cons_succ, Nat.zero_add, Nat.add_zero, decide_eq_false h1, s1]
      refine ⟨U.length - (i + 1), by omega, i + 1, z, by omega, rfl, rfl, ?_⟩
      rw [hstepF hpr]; exact ho.keep (hx59)
  · have e1 : decide ((i : Int) < (U.length : Int)) = false := decide_eq_false (by omega)
    have hi2 : i = U.length := by omega
    subst hi2
    rw [List.take_length] at ho
    try simp only [go_sem, Int.reduceBEq, Int.reduceBNe, Int.reduceNeg, reduceCtorEq, Nat.reduceEqDiff, Nat.reduceAdd, Nat.reduceLeDiff, Nat.reduceMul, Nat.reduceSub, Int.reduceToNat, Int.reduceLT, Int.reduceLE, load_w, load_a, store_b, idxS_b, set_blk, new_blk, set_next, new_next, len_s, ldW_c, ldA_c, stB_c, toArr_one, size_one, toList_toArr, size_toArr, List.length_cons, List.length_nil, List.getElem?_cons_zero, List.getElem?_cons_succ, Nat.zero_add, Nat.add_zero, e1]
    exact ⟨ho.own.weak hX, hX.trans hx25⟩

end Go.Am


/- Diff: the plain law of the lists. -/
set_option linter.unusedVariables false
set_option linter.unusedSimpArgs false
namespace Go.Am
open Classical

theorem asc_ext {l k : List Int} (hl : l.Pairwise (· < ·)) (hk : k.Pairwise (· < ·)) (h : ∀ x, x ∈ l ↔ x ∈ k) : l = k := by
  have nd : ∀ {l : List Int}, l.Pairwise (· < ·) → l.Nodup := fun h => List.nodup_iff_pairwise_ne.2 (h.imp fun h => by omega)
  have hp : l.Perm k := (List.perm_ext_iff_of_nodup (nd hl) (nd hk)).2 h
  exact List.Perm.eq_of_pairwise (le := fun a b => a < b) (fun a b _ _ h1 h2 => by omega) hl hk hp

theorem compL_asc : ∀ {l : List Int}, l.Pairwise (· ≤ ·) → (compL l).Pairwise (· < ·) ∧ ∀ x, x ∈ compL l ↔ x ∈ l
  | [], _ => ⟨by simp [compL], fun x => Iff.rfl⟩
  | [a], _ => ⟨by simp [compL], fun x => Iff.rfl⟩
  | a :: b :: r, h => by
    rw [List.pairwise_cons] at h
    obtain ⟨h1, h2⟩ := compL_asc (l := b :: r) h.2
    simp only [compL]
    split
    · rename_i e
      subst e
      refine ⟨h1, fun x => ?_⟩
      rw [h2 x]; simp
    · rename_i hne
      refine ⟨List.pairwise_cons.2 ⟨fun x hx => ?_, h1⟩, fun x => ?_⟩
      · have hx' := (h2 x).1 hx
        have hab := h.1 b (by simp)
        rcases List.mem_cons.1 hx' with rfl | hr
        · omega
        · have := (List.pairwise_cons.1 h.2).1 x hr
          omega
      · rw [List.mem_cons, h2 x, List.mem_cons (a := x) (b := a)]

theorem unitsL_asc {a b : List Pl} : ∀ n, (unitsL a b n).Pairwise (· < ·) ∧ ∀ x : Int, x ∈ unitsL a b n ↔ (1 ≤ x ∧ x ≤ n ∧ (hasU a x ∨ hasU b x))
  | 0 => ⟨by simp [unitsL], fun x => by simp [unitsL]; omega⟩
  | n + 1 => by
    obtain ⟨h1, h2⟩ := unitsL_asc (a := a) (b := b) n
    unfold unitsL
    split
    · rename_i hc
      refine ⟨List.pairwise_append.2 ⟨h1, by simp, fun x hx y hy => ?_⟩, fun x => ?_⟩
      · have := (h2 x).1 hx
        simp at hy; omega
      · rw [List.mem_append, h2 x, List.mem_singleton]
        constructor
        · rintro (⟨g1, g2, g3⟩ | rfl)
          · exact ⟨g1, by omega, g3⟩
          · exact ⟨by omega, by omega, hc⟩
        · rintro ⟨g1, g2, g3⟩
          by_cases e : x = ((n + 1 : Nat) : Int)
          · exact .inr e
          · exact .inl ⟨g1, by omega, g3⟩
    · rename_i hc
      rw [List.append_nil]
      refine ⟨h1, fun x => ?_⟩
      rw [h2 x]
      constructor
      · rintro ⟨g1, g2, g3⟩; exact ⟨g1, by omega, g3⟩
      · rintro ⟨g1, g2, g3⟩
        by_cases e : x = ((n + 1 : Nat) : Int)
        · subst e; exact absurd g3 hc
        · exact ⟨g1, by omega, g3⟩

theorem mem_units {l : List PE} {P : List Pl} (h : l.map PE.pl = P) {u : Int} : u ∈ l.map unitE ↔ hasU P u := by
  subst h
  unfold hasU unitE
  constructor
  · intro hm
    obtain ⟨e, he, rfl⟩ := List.mem_map.1 hm
    obtain ⟨i, hi, rfl⟩ := List.getElem_of_mem he
    exact ⟨i, by simpa using hi, by simp⟩
  · rintro ⟨i, hi, rfl⟩
    refine List.mem_map.2 ⟨l[i]'(by simpa using hi), List.getElem_mem _, by simp⟩

/-- All units of two plans, sorted, each once. -/
theorem all_units {l k : List PE} {a b : List Pl} (hl : l.map PE.pl = a) (hk : k.map PE.pl = b) (ha : ∀ x ∈ a, 1 ≤ x.unit ∧ x.unit ≤ 1040) (hb : ∀ x ∈ b, 1 ≤ x.unit ∧ x.unit ≤ 1040) :
    compL (sortI (sortI (l.map unitE) ++ sortI (k.map unitE))) = unitsL a b 1040 := by
  obtain ⟨h1, h2⟩ := compL_asc (sortI_sorted (l := sortI (l.map unitE) ++ sortI (k.map unitE)))
  obtain ⟨g1, g2⟩ := unitsL_asc (a := a) (b := b) 1040
  refine asc_ext h1 g1 fun x => ?_
  rw [h2 x, g2 x, sortI_perm.mem_iff, List.mem_append, sortI_perm.mem_iff, sortI_perm.mem_iff, mem_units hl, mem_units hk]
  constructor
  · intro h
    have hr : 1 ≤ x ∧ x ≤ 1040 := by
      rcases h with ⟨i, hi, rfl⟩ | ⟨i, hi, rfl⟩
      · exact ha _ (List.getElem_mem hi)
      · exact hb _ (List.getElem_mem hi)
    exact ⟨hr.1, by omega, h⟩
  · exact fun h => h.2.2
end Go.Am


/- Diff: what is looked up is what is found. -/
set_option linter.unusedVariables false
set_option linter.unusedSimpArgs false
namespace Go.Am
open Classical

theorem lkp_asMap : ∀ {l : List PE} {u : Int}, (lkp (asMap l) u = none ∧ ∀ e ∈ l, unitE e ≠ u) ∨ ∃ e ∈ l, unitE e = u ∧ lkp (asMap l) u = some e
  | [], u => .inl ⟨rfl, by simp⟩
  | a :: l, u => by
    by_cases h : unitE a = u
    · exact .inr ⟨a, by simp, h, by simp only [asMap, List.map_cons, lkp]; rw [if_pos h]⟩
    · have e1 : lkp (asMap (a :: l)) u = lkp (asMap l) u := by
        simp only [asMap, List.map_cons, lkp]; rw [if_neg h]
      rw [e1]
      rcases lkp_asMap (l := l) (u := u) with ⟨h1, h2⟩ | ⟨e, he, h1, h2⟩
      · exact .inl ⟨h1, fun e he => by rcases List.mem_cons.1 he with rfl | he; exact h; exact h2 e he⟩
      · exact .inr ⟨e, by simp [he], h1, h2⟩

theorem hasE_eq {l : List PE} {P : List Pl} (h : l.map PE.pl = P) {u : Int} : hasE l u = decide (hasU P u) := by
  unfold hasE
  rcases lkp_asMap (l := l) (u := u) with ⟨h1, h2⟩ | ⟨e, he, h1, h2⟩
  · rw [h1]
    have : ¬ hasU P u := fun hu => by
      obtain ⟨e, he, g⟩ := List.mem_map.1 ((mem_units h).2 hu)
      exact h2 e he g
    rw [decide_eq_false this]; rfl
  · rw [h2, decide_eq_true ((mem_units h).1 (List.mem_map.2 ⟨e, he, h1⟩))]; rfl

theorem lkE_eq {l : List PE} {P : List Pl} (h : l.map PE.pl = P) (ha : Asc P) {u : Int} : (lkE l u).pl = findP P u := by
  unfold lkE
  rcases lkp_asMap (l := l) (u := u) with ⟨h1, h2⟩ | ⟨e, he, h1, h2⟩
  · rw [h1]
    have : ¬ hasU P u := fun hu => by
      obtain ⟨e, he, g⟩ := List.mem_map.1 ((mem_units h).2 hu)
      exact h2 e he g
    rw [findP_not this]; rfl
  · rw [h2]
    subst h
    obtain ⟨i, hi, rfl⟩ := List.getElem_of_mem he
    have hi' : i < (l.map PE.pl).length := by simpa using hi
    rw [findP_at ha hi' (by rw [List.getElem_map]; exact h1)]
    simp

theorem came_eq {l k : List PE} {a b : List Pl} (hl : l.map PE.pl = a) (hk : k.map PE.pl = b) (ha : ∀ x ∈ a, 1 ≤ x.unit ∧ x.unit ≤ 1040) (hb : ∀ x ∈ b, 1 ≤ x.unit ∧ x.unit ≤ 1040) :
    someL l k CamP = listL (isU1 a b) a b := by
  unfold someL listL
  rw [all_units hl hk ha hb]
  refine List.filter_congr fun u hu => ?_
  have := ((unitsL_asc (a := a) (b := b) 1040).2 u).1 hu
  unfold CamP isU1
  rw [hasE_eq hl, hasE_eq hk]
  by_cases h1 : hasU a u
  · simp [h1]
  · have h2 : hasU b u := this.2.2.resolve_left h1
    simp [h1, h2]
theorem gone_eq {l k : List PE} {a b : List Pl} (hl : l.map PE.pl = a) (hk : k.map PE.pl = b) (ha : ∀ x ∈ a, 1 ≤ x.unit ∧ x.unit ≤ 1040) (hb : ∀ x ∈ b, 1 ≤ x.unit ∧ x.unit ≤ 1040) :
    someL l k GonP = listL (isU2 a b) a b := by
  unfold someL listL
  rw [all_units hl hk ha hb]
  refine List.filter_congr fun u hu => ?_
  have := ((unitsL_asc (a := a) (b := b) 1040).2 u).1 hu
  unfold GonP isU2
  rw [hasE_eq hl, hasE_eq hk]
  by_cases h2 : hasU b u
  · simp [h2]
  · have h1 : hasU a u := this.2.2.resolve_right h2
    simp [h1, h2]
theorem resized_eq {l k : List PE} {a b : List Pl} (hl : l.map PE.pl = a) (hk : k.map PE.pl = b) (aa : Asc a) (ab : Asc b) (ha : ∀ x ∈ a, 1 ≤ x.unit ∧ x.unit ≤ 1040) (hb : ∀ x ∈ b, 1 ≤ x.unit ∧ x.unit ≤ 1040) :
    someL l k ResP = listL (isU3 a b) a b := by
  unfold someL listL
  rw [all_units hl hk ha hb]
  refine List.filter_congr fun u hu => ?_
  unfold ResP isU3
  rw [hasE_eq hl, hasE_eq hk, lkE_eq hl aa, lkE_eq hk ab]
  congr 2
  by_cases h : (findP a u).share = (findP b u).share <;> simp [h]
/-- Moved, where ticks tell pieces apart. -/
theorem moved_eq {l k : List PE} {a b : List Pl} (hl : l.map PE.pl = a) (hk : k.map PE.pl = b) (aa : Asc a) (ab : Asc b) (ha : ∀ x ∈ a, 1 ≤ x.unit ∧ x.unit ≤ 1040) (hb : ∀ x ∈ b, 1 ≤ x.unit ∧ x.unit ≤ 1040)
    (hm : ∀ x ∈ a, ∀ y ∈ b, (refMov x y ↔ (x.pieces ≠ y.pieces ∨ (x.pieces.length = 0 ∧ x.core ≠ y.core)))) :
    someL l k MovP = listL (isU0 a b) a b := by
  unfold someL listL
  rw [all_units hl hk ha hb]
  refine List.filter_congr fun u hu => ?_
  unfold MovP isU0
  rw [hasE_eq hl, hasE_eq hk]
  by_cases h1 : hasU a u
  · by_cases h2 : hasU b u
    · have e1 := lkE_eq hl aa (u := u)
      have e2 := lkE_eq hk ab (u := u)
      obtain ⟨i, hi, hiu⟩ := h1
      obtain ⟨j, hj, hju⟩ := h2
      have f1 := findP_at aa hi hiu
      have f2 := findP_at ab hj hju
      have hh := hm _ (List.getElem_mem hi) _ (List.getElem_mem hj)
      have : movP (lkE l u) (lkE k u) = decide (refMov (findP a u) (findP b u)) := by
        unfold movP
        rw [e1, e2, f1, f2, Bool.eq_iff_iff, decide_eq_true_eq, hh]
        simp
      rw [this]
    · simp [h2]
  · simp [h1]
end Go.Am


/- Diff: ticks tell pieces apart. -/
set_option linter.unusedVariables false
set_option linter.unusedSimpArgs false
namespace Go.Am
open Classical

/-- Pieces as a right plan has them. -/
structure PcsR (ps : List Pc) : Prop where
  core : ∀ q ∈ ps, 0 ≤ q.1 ∧ q.1 < 16
  asc : ps.Pairwise fun a b => a.1 < b.1
  nz : ∀ q ∈ ps, q.2 ≠ 0#64

theorem bv_bit {x : BitVec 64} (h : x ≠ 0#64) : ∃ t, t < 64 ∧ x.getLsbD t = true := by
  apply Classical.byContradiction
  intro hn
  apply h
  apply BitVec.eq_of_getLsbD_eq
  intro i hi
  have : ¬ x.getLsbD i = true := fun e => hn ⟨i, hi, e⟩
  simp only [BitVec.getLsbD_zero]
  simpa using this

/-- Rows of pieces with the same members are the same. -/
theorem pcs_ext {l k : List Pc} (hl : l.Pairwise fun a b => a.1 < b.1) (hk : k.Pairwise fun a b => a.1 < b.1) (h : ∀ x, x ∈ l ↔ x ∈ k) : l = k := by
  have nd : ∀ {l : List Pc}, l.Pairwise (fun a b => a.1 < b.1) → l.Nodup := fun h => List.nodup_iff_pairwise_ne.2 (h.imp fun {a b} h e => by subst e; omega)
  have hp : l.Perm k := (List.perm_ext_iff_of_nodup (nd hl) (nd hk)).2 h
  exact List.Perm.eq_of_pairwise (le := fun a b : Pc => a.1 < b.1) (fun a b _ _ h1 h2 => by omega) hl hk hp

theorem inB_nat {a : BitVec 64} {t : Nat} (ht : t < 64) : inB a (t : Int) = a.getLsbD t := by
  unfold inB
  have h1 : (t : Int) < 64 := by omega
  simp [h1]
theorem count_none {ps : List Pc} {c : Int} (hc0 : 0 ≤ c) (hc : ∀ q ∈ ps, q.1 ≠ c) {t : Int} : ps.countP (atB c t) = 0 := by
  rw [List.countP_eq_zero]
  intro q hq
  unfold atB
  have : ¬ c < 0 := by omega
  simp [this, hc q hq]
/-- How often a tick of a core is met: once, if its piece has it. -/
theorem count_mem : ∀ {ps : List Pc}, (ps.Pairwise fun a b => a.1 < b.1) → (∀ q ∈ ps, 0 ≤ q.1) → ∀ {q : Pc}, q ∈ ps → ∀ {t : Nat}, t < 64 → ps.countP (atB q.1 t) = if q.2.getLsbD t then 1 else 0
  | [], _, _, q, hq, t, ht => by cases hq
  | a :: ps, h, h0, q, hq, t, ht => by
    rw [List.pairwise_cons] at h
    rw [List.countP_cons]
    have hq0 : ¬ q.1 < 0 := by have := h0 q hq; omega
    rcases List.mem_cons.1 hq with rfl | hq'
    · rw [count_none (h0 _ hq) fun x hx => by have := h.1 x hx; omega]
      unfold atB
      rw [inB_nat ht]
      simp [hq0]
    · rw [count_mem h.2 (fun x hx => h0 x (by simp [hx])) hq' ht]
      have hne : a.1 ≠ q.1 := by have := h.1 q hq'; omega
      have : atB q.1 t a = false := by unfold atB; simp [hq0, hne]
      rw [this]; simp

theorem PcsR.mem_of {ps qs : List Pc} (hp : PcsR ps) (hq : PcsR qs) (h : ∀ c : Nat, c < 16 → ∀ t : Nat, t < 64 → ps.countP (atB c t) = qs.countP (atB c t)) {x : Pc} (hx : x ∈ ps) : x ∈ qs := by
  have hc := hp.core x hx
  obtain ⟨c, hc'⟩ : ∃ c : Nat, (c : Int) = x.1 := ⟨x.1.toNat, by omega⟩
  obtain ⟨t, ht, hb⟩ := bv_bit (hp.nz x hx)
  have hall := h c (by omega)
  rw [hc'] at hall
  have h1 := hall t ht
  rw [count_mem hp.asc (fun q hq => (hp.core q hq).1) hx ht, if_pos hb] at h1
  have : ∃ y ∈ qs, y.1 = x.1 := by
    apply Classical.byContradiction
    intro hn
    rw [count_none hc.1 fun q hq e => hn ⟨q, hq, e⟩] at h1
    omega
  obtain ⟨y, hy, hyx⟩ := this
  have e2 : y.2 = x.2 := by
    apply BitVec.eq_of_getLsbD_eq
    intro i hi
    have g := hall i hi
    rw [count_mem hp.asc (fun q hq => (hp.core q hq).1) hx hi] at g
    have g2 := count_mem hq.asc (fun q hq' => (hq.core q hq').1) hy hi
    rw [hyx] at g2
    rw [g2] at g
    cases h1 : x.2.getLsbD i <;> cases h2 : y.2.getLsbD i <;> rw [h1, h2] at g <;> first | rfl | (simp at g)
  have : y = x := Prod.ext hyx e2
  rw [← this]; exact hy

theorem refMov_right {x y : Pl} (hx : PcsR x.pieces) (hy : PcsR y.pieces) (cx : x.pieces.length = 0 → 0 ≤ x.core ∧ x.core < 16) :
    refMov x y ↔ (x.pieces ≠ y.pieces ∨ (x.pieces.length = 0 ∧ x.core ≠ y.core)) := by
  constructor
  · intro h
    apply Classical.byContradiction
    intro hn
    have he : x.pieces = y.pieces := Classical.byContradiction fun e => hn (.inl e)
    obtain ⟨c, hc, h | ⟨t, ht, h⟩⟩ := h
    · apply h
      unfold onP
      rw [← he]
      by_cases h0 : x.pieces.length = 0
      · have : x.core = y.core := Classical.byContradiction fun e => hn (.inr ⟨h0, e⟩)
        rw [if_pos h0, if_pos h0, this]
      · rw [if_neg h0, if_neg h0]
    · apply h; rw [he]
  · intro h
    apply Classical.byContradiction
    intro hn
    have hall : ∀ c : Nat, c < 16 → ∀ t : Nat, t < 64 → x.pieces.countP (atB c t) = y.pieces.countP (atB c t) := fun c hc t ht => Classical.byContradiction fun e => hn ⟨c, hc, .inr ⟨t, ht, e⟩⟩
    have hon : ∀ c : Nat, c < 16 → onP x c = onP y c := fun c hc => Classical.byContradiction fun e => hn ⟨c, hc, .inl e⟩
    have he : x.pieces = y.pieces := pcs_ext hx.asc hy.asc fun q => ⟨fun h => hx.mem_of hy hall h, fun h => hy.mem_of hx (fun c hc t ht => (hall c hc t ht).symm) h⟩
    rcases h with h | ⟨h0, h⟩
    · exact h he
    · obtain ⟨g1, g2⟩ := cx h0
      obtain ⟨c, hc⟩ : ∃ c : Nat, (c : Int) = x.core := ⟨x.core.toNat, by omega⟩
      have := hon c (by omega)
      unfold onP at this
      rw [← he, if_pos h0, if_pos h0, hc] at this
      simp at this
      exact h this.symm
end Go.Am


/- Diff: right plans' pieces. -/
set_option linter.unusedVariables false
set_option linter.unusedSimpArgs false
namespace Go.Am
open Classical

theorem RightP.units {p : PlanD} (h : RightP p) : ∀ x ∈ p.places, 1 ≤ x.unit ∧ x.unit ≤ 1040 := fun x hx => by
  have := (h.place hx).1
  unfold isU at this; omega
theorem RightP.ascD {p : PlanD} (h : RightP p) : Asc p.places := by
  intro i j hij hj
  induction j with
  | zero => omega
  | succ j ih =>
    obtain ⟨_, _, g⟩ := h.2.2.2.2.1 (j + 1) hj
    have g := g (by omega)
    simp only [Nat.add_sub_cancel] at g
    by_cases e : i = j
    · subst e; exact g
    · have := ih (by omega) (by omega); omega
theorem RightP.pcsR {p : PlanD} (h : RightP p) {x : Pl} (hx : x ∈ p.places) : PcsR x.pieces := by
  obtain ⟨-, -, -, -, h5⟩ := h.place hx
  by_cases h0 : x.pieces.length = 0
  · have e : x.pieces = [] := List.eq_nil_of_length_eq_zero h0
    rw [e]
    exact ⟨by simp, by simp, by simp⟩
  · obtain ⟨g, -⟩ := h5 h0
    refine ⟨fun q hq => ?_, ?_, fun q hq => ?_⟩
    · obtain ⟨i, hi, rfl⟩ := List.getElem_of_mem hq
      obtain ⟨_, a, -⟩ := g i hi
      exact hasC_range a
    · refine (List.pairwise_iff_getElem (R := fun (a b : Pc) => a.1 < b.1)).2 fun i j hi hj hij => ?_
      induction j with
      | zero => omega
      | succ j ih =>
        obtain ⟨_, _, b, -⟩ := g (j + 1) hj
        have b := b (by omega)
        simp only [Nat.add_sub_cancel] at b
        by_cases e : i = j
        · subst e; exact b
        · have := ih (by omega) (by omega); omega
    · obtain ⟨i, hi, rfl⟩ := List.getElem_of_mem hq
      obtain ⟨_, _, _, c⟩ := g i hi
      exact c
theorem RightP.core0 {p : PlanD} (h : RightP p) {x : Pl} (hx : x ∈ p.places) : x.pieces.length = 0 → 0 ≤ x.core ∧ x.core < 16 := fun h0 => hasC_range ((h.place hx).2.2.2.1 h0)

theorem moved_right {l k : List PE} {a b : PlanD} (hl : l.map PE.pl = a.places) (hk : k.map PE.pl = b.places) (ra : RightP a) (rb : RightP b) : someL l k MovP = listL (isU0 a.places b.places) a.places b.places :=
  moved_eq hl hk ra.ascD rb.ascD ra.units rb.units fun x hx y hy => refMov_right (ra.pcsR hx) (rb.pcsR hy) (ra.core0 hx)
end Go.Am


/- The law DiffLists walks. -/
set_option linter.unusedVariables false
set_option linter.unusedSimpArgs false
namespace Go.Am
open Classical
variable {m : Mem}

theorem ok_specD {f : Nat} (h : R f = some (.ext X.ok)) {m : Mem} : WC R f [] m fun v m' => v = .bool true ∧ m' = m := WC.ext h rfl ⟨rfl, rfl⟩
theorem light_lD {p : PlanD} (h : lightP p = true) : PlanL p := by
  simp only [lightP, Bool.and_eq_true, decide_eq_true_eq, List.all_eq_true] at h
  refine ⟨by omega, fun x hx => ?_⟩
  have := h.1 x (by rw [List.take_of_length_le (by omega)]; exact hx)
  omega
def rightAB (a b : PlanD) : Prop := lightP a = true ∧ lightP b = true ∧ RightP a ∧ RightP b
set_option maxHeartbeats 4000000 in
theorem right_spec {a b : PlanD} {v w : Value} (hv : PlanV m a v) (hw : PlanV m b w) : WC R F.law22_right [v, w] m fun r m' => r = .bool (decide (rightAB a b)) ∧ Ext m m' := by
  refine WC.of R.law22_right rfl ?_
  obtain ⟨pv, rfl, hp⟩ := hv
  obtain ⟨qv, rfl, hq⟩ := hw
  simp only [RC.law22_right, planV, go_sem, Int.reduceBEq, Int.reduceBNe, Int.reduceNeg, reduceCtorEq, Nat.reduceEqDiff, Nat.reduceAdd, Nat.reduceLeDiff, Nat.reduceMul, Nat.reduceSub, Int.reduceToNat, Int.reduceLT, Int.reduceLE, hp.one, hq.one]
  have hx1 : Ext m (m.new (.cells [.int .i64 a.frame, u32 a.cores, pv] (some 3))) := Ext.new
  have hb1 : Bk (m.new (.cells [.int .i64 a.frame, u32 a.cores, pv] (some 3))) m.next [.int .i64 a.frame, u32 a.cores, pv] 3 := Bk.new
  generalize m.new (.cells [.int .i64 a.frame, u32 a.cores, pv] (some 3)) = m1 at hx1 hb1 ⊢
  have hx2 : Ext m1 (m1.new (.cells [.int .i64 b.frame, u32 b.cores, qv] (some 3))) := Ext.new
  have hb2 : Bk (m1.new (.cells [.int .i64 b.frame, u32 b.cores, qv] (some 3))) m1.next [.int .i64 b.frame, u32 b.cores, qv] 3 := Bk.new
  generalize m1.new (.cells [.int .i64 b.frame, u32 b.cores, qv] (some 3)) = m2 at hx2 hb2 ⊢
  have hb12 := hb1.keep hx2
  have hX := hx1.trans hx2
  try simp only [go_sem, Int.reduceBEq, Int.reduceBNe, Int.reduceNeg, reduceCtorEq, Nat.reduceEqDiff, Nat.reduceAdd, Nat.reduceLeDiff, Nat.reduceMul, Nat.reduceSub, Int.reduceToNat, Int.reduceLT, Int.reduceLE, load_w, load_a, store_b, idxS_b, set_blk, new_blk, set_next, new_next, len_s, ldW_c, ldA_c, stB_c, toArr_one, size_one, toList_toArr, size_toArr, List.length_cons, List.length_nil, List.getElem?_cons_zero, List.getElem?_cons_succ, Nat.zero_add, Nat.add_zero, hb12.at_]
  refine gC.of (Light_spec (p := a) ⟨pv, rfl, hp.keep hX⟩) ?_
  rintro _ m3 ⟨rfl, hx3⟩
  have hb13 := hb12.keep hx3
  have hb23 := hb2.keep hx3
  have hX3 := hX.trans hx3
  by_cases h1 : lightP a = true
  · try simp only [go_sem, Int.reduceBEq, Int.reduceBNe, Int.reduceNeg, reduceCtorEq, Nat.reduceEqDiff, Nat.reduceAdd, Nat.reduceLeDiff, Nat.reduceMul, Nat.reduceSub, Int.reduceToNat, Int.reduceLT, Int.reduceLE, load_w, load_a, store_b, idxS_b, set_blk, new_blk, set_next, new_next, len_s, ldW_c, ldA_c, stB_c, toArr_one, size_one, toList_toArr, size_toArr, List.length_cons, List.length_nil, List.getElem?_cons_zero, List.getElem?_cons_succ, Nat.zero_add, Nat.add_zero, h1, hb23.at_]
    refine gC.of (Light_spec (p := b) ⟨qv, rfl, hq.keep hX3⟩) ?_
    rintro _ m4 ⟨rfl, hx4⟩
    have hX4 := hX3.trans hx4
    have hb14 := hb13.keep hx4
    have hb24 := hb23.keep hx4
    by_cases h2 : lightP b = true
    · have la := light_lD h1
      have lb := light_lD h2
      try simp only [go_sem, Int.reduceBEq, Int.reduceBNe, Int.reduceNeg, reduceCtorEq, Nat.reduceEqDiff, Nat.reduceAdd, Nat.reduceLeDiff, Nat.reduceMul, Nat.reduceSub, Int.reduceToNat, Int.reduceLT, Int.reduceLE, load_w, load_a, store_b, idxS_b, set_blk, new_blk, set_next, new_next, len_s, ldW_c, ldA_c, stB_c, toArr_one, size_one, toList_toArr, size_toArr, List.length_cons, List.length_nil, List.getElem?_cons_zero, List.getElem?_cons_succ, Nat.zero_add, Nat.add_zero, h2, hb14.at_]
      refine gC.of (refRight_spec (p := a) ⟨pv, rfl, hp.keep hX4⟩ la.len la.pcs) ?_
      rintro _ m5 ⟨rfl, hx5⟩
      have hX5 := hX4.trans hx5
      have hb25 := hb24.keep hx5
      by_cases h3 : RightP a
      · try simp only [go_sem, Int.reduceBEq, Int.reduceBNe, Int.reduceNeg, reduceCtorEq, Nat.reduceEqDiff, Nat.reduceAdd, Nat.reduceLeDiff, Nat.reduceMul, Nat.reduceSub, Int.reduceToNat, Int.reduceLT, Int.reduceLE, load_w, load_a, store_b, idxS_b, set_blk, new_blk, set_next, new_next, len_s, ldW_c, ldA_c, stB_c, toArr_one, size_one, toList_toArr, size_toArr, List.length_cons, List.length_nil, List.getElem?_cons_zero, List.getElem?_cons_succ, Nat.zero_add, Nat.add_zero, decide_eq_true h3, hb25.at_]
        refine gC.of (refRight_spec (p := b) ⟨qv, rfl, hq.keep hX5⟩ lb.len lb.pcs) ?_
        rintro _ m6 ⟨rfl, hx6⟩
        have e : decide (rightAB a b) = decide (RightP b) := by rw [decide_eq_decide]; unfold rightAB; simp [h1, h2, h3]
        try simp only [go_sem, Int.reduceBEq, Int.reduceBNe, Int.reduceNeg, reduceCtorEq, Nat.reduceEqDiff, Nat.reduceAdd, Nat.reduceLeDiff, Nat.reduceMul, Nat.reduceSub, Int.reduceToNat, Int.reduceLT, Int.reduceLE, load_w, load_a, store_b, idxS_b, set_blk, new_blk, set_next, new_next, len_s, ldW_c, ldA_c, stB_c, toArr_one, size_one, toList_toArr, size_toArr, List.length_cons, List.length_nil, List.getElem?_cons_zero, List.getElem?_cons_succ, Nat.zero_add, Nat.add_zero, e]
        first | exact hX5.trans hx6 | exact ⟨rfl, hX5.trans hx6⟩
      · have e : decide (rightAB a b) = false := decide_eq_false fun h => h3 h.2.2.1
        try simp only [go_sem, Int.reduceBEq, Int.reduceBNe, Int.reduceNeg, reduceCtorEq, Nat.reduceEqDiff, Nat.reduceAdd, Nat.reduceLeDiff, Nat.reduceMul, Nat.reduceSub, Int.reduceToNat, Int.reduceLT, Int.reduceLE, load_w, load_a, store_b, idxS_b, set_blk, new_blk, set_next, new_next, len_s, ldW_c, ldA_c, stB_c, toArr_one, size_one, toList_toArr, size_toArr, List.length_cons, List.length_nil, List.getElem?_cons_zero, List.getElem?_cons_succ, Nat.zero_add, Nat.add_zero, decide_eq_false h3, e]
        first | exact hX5 | exact ⟨rfl, hX5⟩
    · have e : decide (rightAB a b) = false := decide_eq_false fun h => h2 h.2.1
      try simp only [go_sem, Int.reduceBEq, Int.reduceBNe, Int.reduceNeg, reduceCtorEq, Nat.reduceEqDiff, Nat.reduceAdd, Nat.reduceLeDiff, Nat.reduceMul, Nat.reduceSub, Int.reduceToNat, Int.reduceLT, Int.reduceLE, load_w, load_a, store_b, idxS_b, set_blk, new_blk, set_next, new_next, len_s, ldW_c, ldA_c, stB_c, toArr_one, size_one, toList_toArr, size_toArr, List.length_cons, List.length_nil, List.getElem?_cons_zero, List.getElem?_cons_succ, Nat.zero_add, Nat.add_zero, h2, e]
      first | exact hX4 | exact ⟨rfl, hX4⟩
  · have e : decide (rightAB a b) = false := decide_eq_false fun h => h1 h.1
    try simp only [go_sem, Int.reduceBEq, Int.reduceBNe, Int.reduceNeg, reduceCtorEq, Nat.reduceEqDiff, Nat.reduceAdd, Nat.reduceLeDiff, Nat.reduceMul, Nat.reduceSub, Int.reduceToNat, Int.reduceLT, Int.reduceLE, load_w, load_a, store_b, idxS_b, set_blk, new_blk, set_next, new_next, len_s, ldW_c, ldA_c, stB_c, toArr_one, size_one, toList_toArr, size_toArr, List.length_cons, List.length_nil, List.getElem?_cons_zero, List.getElem?_cons_succ, Nat.zero_add, Nat.add_zero, h1, e]
    first | exact hX3 | exact ⟨rfl, hX3⟩
end Go.Am


/- The law DiffLists. -/
set_option linter.unusedVariables false
set_option linter.unusedSimpArgs false
namespace Go.Am
open Classical
variable {m : Mem}

theorem listL_len {P : Int → Bool} {a b : List Pl} : (listL P a b).length < 1000000 := by
  have := unitsL_len (a := a) (b := b) 1040
  have h2 : (listL P a b).length ≤ (unitsL a b 1040).length := List.length_filter_le ..
  omega
theorem rowS_of {m : Mem} {P : List Pl} {v : Value} (h : PlsV m P v) : ∃ le : List PE, le.map PE.pl = P ∧ RowS m le v ∧ ∀ e ∈ le, PcV m e.pl.pieces e.pv := by
  obtain ⟨l, a, b, c⟩ := rowE_of h
  exact ⟨l, a, ⟨b.sl, b.lt⟩, c⟩
theorem RightP.okE {p : PlanD} (h : RightP p) (hli : lightP p = true) {l : List PE} (hl : l.map PE.pl = p.places) : OkE l := by
  have hu : l.map unitE = p.places.map (·.unit) := by rw [← hl, List.map_map]; rfl
  refine ⟨fun e he => ?_, ?_, ?_⟩
  · have : e.pl ∈ p.places := by rw [← hl]; exact List.mem_map.2 ⟨e, he, rfl⟩
    have := h.units _ this
    show (Lit.int .i64 e.pl.unit).wf = true
    have h1 : IntKind.min .i64 = -9223372036854775808 := by decide
    have h2 : IntKind.max .i64 = 9223372036854775807 := by decide
    simp only [Lit.wf, h1, h2, Bool.and_eq_true, decide_eq_true_eq]
    omega
  · rw [hu, List.nodup_iff_pairwise_ne, List.pairwise_map]
    refine (List.pairwise_iff_getElem (R := fun (a b : Pl) => a.unit ≠ b.unit)).2 fun i j hi hj hij => ?_
    have := h.ascD i j hij hj
    omega
  · simp only [lightP, Bool.and_eq_true, decide_eq_true_eq] at hli
    rw [← List.length_map (f := PE.pl), hl]; omega

set_option maxHeartbeats 8000000 in
theorem DiffLists_spec {a b : PlanD} {v w : Value} (hv : PlanV m a v) (hw : PlanV m b w) : WC R F.law22_DiffLists [v, w] m fun r m' => r = .bool true := by
  refine WC.of R.law22_DiffLists rfl ?_
  obtain ⟨pv, rfl, hp⟩ := hv
  obtain ⟨qv, rfl, hq⟩ := hw
  simp only [RC.law22_DiffLists, planV, go_sem, Int.reduceBEq, Int.reduceBNe, Int.reduceNeg, reduceCtorEq, Nat.reduceEqDiff, Nat.reduceAdd, Nat.reduceLeDiff, Nat.reduceMul, Nat.reduceSub, Int.reduceToNat, Int.reduceLT, Int.reduceLE, hp.one, hq.one]
  have hx1 : Ext m (m.new (.cells [.int .i64 a.frame, u32 a.cores, pv] (some 3))) := Ext.new
  have hb1 : Bk (m.new (.cells [.int .i64 a.frame, u32 a.cores, pv] (some 3))) m.next [.int .i64 a.frame, u32 a.cores, pv] 3 := Bk.new
  generalize m.new (.cells [.int .i64 a.frame, u32 a.cores, pv] (some 3)) = m1 at hx1 hb1 ⊢
  have hx2 : Ext m1 (m1.new (.cells [.int .i64 b.frame, u32 b.cores, qv] (some 3))) := Ext.new
  have hb2 : Bk (m1.new (.cells [.int .i64 b.frame, u32 b.cores, qv] (some 3))) m1.next [.int .i64 b.frame, u32 b.cores, qv] 3 := Bk.new
  generalize m1.new (.cells [.int .i64 b.frame, u32 b.cores, qv] (some 3)) = m2 at hx2 hb2 ⊢
  have hb1 := hb1.keep hx2
  have hX := hx1.trans hx2
  have hp := hp.keep hX
  have hq := hq.keep hX
  try simp only [go_sem, Int.reduceBEq, Int.reduceBNe, Int.reduceNeg, reduceCtorEq, Nat.reduceEqDiff, Nat.reduceAdd, Nat.reduceLeDiff, Nat.reduceMul, Nat.reduceSub, Int.reduceToNat, Int.reduceLT, Int.reduceLE, load_w, load_a, store_b, idxS_b, set_blk, new_blk, set_next, new_next, len_s, ldW_c, ldA_c, stB_c, toArr_one, size_one, toList_toArr, size_toArr, List.length_cons, List.length_nil, List.getElem?_cons_zero, List.getElem?_cons_succ, Nat.zero_add, Nat.add_zero, hb1.at_, hb2.at_]
  refine gC.of (right_spec (a := a) (b := b) ⟨pv, rfl, hp⟩ ⟨qv, rfl, hq⟩) ?_
  rintro _ M0 ⟨rfl, hx⟩
  have hb1 := hb1.keep hx
  have hb2 := hb2.keep hx
  have hp := hp.keep hx
  have hq := hq.keep hx
  by_cases hr : rightAB a b
  · obtain ⟨l1, l2, ra, rb⟩ := hr
    have hr : rightAB a b := ⟨l1, l2, ra, rb⟩
    have pa := light_lD l1
    have pb := light_lD l2
    obtain ⟨la, ha, hsa, hpa⟩ := rowS_of hp
    obtain ⟨lb, hb, hsb, hpb⟩ := rowS_of hq
    have oa := ra.okE l1 ha
    have ob := rb.okE l2 hb
    have fa : ∀ e ∈ la, e.pl.pieces.length < 1000000 := fun e he => pa.pcs _ (by rw [← ha]; exact List.mem_map.2 ⟨e, he, rfl⟩)
    have fb : ∀ e ∈ lb, e.pl.pieces.length < 1000000 := fun e he => pb.pcs _ (by rw [← hb]; exact List.mem_map.2 ⟨e, he, rfl⟩)
    try simp only [go_sem, Int.reduceBEq, Int.reduceBNe, Int.reduceNeg, reduceCtorEq, Nat.reduceEqDiff, Nat.reduceAdd, Nat.reduceLeDiff, Nat.reduceMul, Nat.reduceSub, Int.reduceToNat, Int.reduceLT, Int.reduceLE, load_w, load_a, store_b, idxS_b, set_blk, new_blk, set_next, new_next, len_s, ldW_c, ldA_c, stB_c, toArr_one, size_one, toList_toArr, size_toArr, List.length_cons, List.length_nil, List.getElem?_cons_zero, List.getElem?_cons_succ, Nat.zero_add, Nat.add_zero, decide_eq_true hr, hb1.at_, hb2.at_]
    refine gC.of (Moved_spec (hsa.keep (Ext.refl M0)) (hsb.keep (Ext.refl M0)) oa ob (fun e he => ⟨(hpa e he).keep (Ext.refl M0), fa e he⟩) (fun e he => ⟨(hpb e he).keep (Ext.refl M0), fb e he⟩)) ?_
    rintro ra0 A0 ⟨hoa0, hxa0⟩
    have hX0 : Ext M0 A0 := (Ext.refl M0).trans hxa0
    rw [moved_right ha hb ra rb] at hoa0
    have hk10 := hxa0.same m.next (hb1.keep (Ext.refl M0)).lt
    have hk20 := hxa0.same m1.next (hb2.keep (Ext.refl M0)).lt
    have hc10 := hb1.keep hX0
    have hc20 := hb2.keep hX0
    try simp only [go_sem, Int.reduceBEq, Int.reduceBNe, Int.reduceNeg, reduceCtorEq, Nat.reduceEqDiff, Nat.reduceAdd, Nat.reduceLeDiff, Nat.reduceMul, Nat.reduceSub, Int.reduceToNat, Int.reduceLT, Int.reduceLE, load_w, load_a, store_b, idxS_b, set_blk, new_blk, set_next, new_next, len_s, ldW_c, ldA_c, stB_c, toArr_one, size_one, toList_toArr, size_toArr, List.length_cons, List.length_nil, List.getElem?_cons_zero, List.getElem?_cons_succ, Nat.zero_add, Nat.add_zero, watchOk_cons, watchOk_nil, blkOf_ptr, hk10, hk20, hc10.at_, hc20.at_]
    refine gC.of (List0_spec (p := a) (q := b) ⟨pv, rfl, hp.keep hX0⟩ ⟨qv, rfl, hq.keep hX0⟩ pa pb ra.ascD rb.ascD) ?_
    rintro rb0 B0 ⟨hob0, hxb0⟩
    have hY0 : Ext M0 B0 := hX0.trans hxb0
    try simp only [go_sem, Int.reduceBEq, Int.reduceBNe, Int.reduceNeg, reduceCtorEq, Nat.reduceEqDiff, Nat.reduceAdd, Nat.reduceLeDiff, Nat.reduceMul, Nat.reduceSub, Int.reduceToNat, Int.reduceLT, Int.reduceLE, load_w, load_a, store_b, idxS_b, set_blk, new_blk, set_next, new_next, len_s, ldW_c, ldA_c, stB_c, toArr_one, size_one, toList_toArr, size_toArr, List.length_cons, List.length_nil, List.getElem?_cons_zero, List.getElem?_cons_succ, Nat.zero_add, Nat.add_zero]
    refine gC.of (ref03_Same_spec (hoa0.keep hxb0).sl hob0.sl listL_len listL_len) ?_
    rintro _ _ ⟨rfl, hm0⟩
    replace hm0 := hm0.symm
    subst hm0
    have d0 : decide (listL (isU0 a.places b.places) a.places b.places = listL (isU0 a.places b.places) a.places b.places) = true := by simp
    have he10 := hb1.keep hY0
    have he20 := hb2.keep hY0
    try simp only [go_sem, Int.reduceBEq, Int.reduceBNe, Int.reduceNeg, reduceCtorEq, Nat.reduceEqDiff, Nat.reduceAdd, Nat.reduceLeDiff, Nat.reduceMul, Nat.reduceSub, Int.reduceToNat, Int.reduceLT, Int.reduceLE, load_w, load_a, store_b, idxS_b, set_blk, new_blk, set_next, new_next, len_s, ldW_c, ldA_c, stB_c, toArr_one, size_one, toList_toArr, size_toArr, List.length_cons, List.length_nil, List.getElem?_cons_zero, List.getElem?_cons_succ, Nat.zero_add, Nat.add_zero, d0, he10.at_, he20.at_]
    refine gC.of (Came_spec (hsa.keep hY0) (hsb.keep hY0) oa ob) ?_
    rintro ra1 A1 ⟨hoa1, hxa1⟩
    have hX1 : Ext M0 A1 := hY0.trans hxa1
    rw [came_eq ha hb ra.units rb.units] at hoa1
    have hk11 := hxa1.same m.next (hb1.keep hY0).lt
    have hk21 := hxa1.same m1.next (hb2.keep hY0).lt
    have hc11 := hb1.keep hX1
    have hc21 := hb2.keep hX1
    try simp only [go_sem, Int.reduceBEq, Int.reduceBNe, Int.reduceNeg, reduceCtorEq, Nat.reduceEqDiff, Nat.reduceAdd, Nat.reduceLeDiff, Nat.reduceMul, Nat.reduceSub, Int.reduceToNat, Int.reduceLT, Int.reduceLE, load_w, load_a, store_b, idxS_b, set_blk, new_blk, set_next, new_next, len_s, ldW_c, ldA_c, stB_c, toArr_one, size_one, toList_toArr, size_toArr, List.length_cons, List.length_nil, List.getElem?_cons_zero, List.getElem?_cons_succ, Nat.zero_add, Nat.add_zero, watchOk_cons, watchOk_nil, blkOf_ptr, hk11, hk21, hc11.at_, hc21.at_]
    refine gC.of (List1_spec (p := a) (q := b) ⟨pv, rfl, hp.keep hX1⟩ ⟨qv, rfl, hq.keep hX1⟩ pa pb ra.ascD rb.ascD) ?_
    rintro rb1 B1 ⟨hob1, hxb1⟩
    have hY1 : Ext M0 B1 := hX1.trans hxb1
    try simp only [go_sem, Int.reduceBEq, Int.reduceBNe, Int.reduceNeg, reduceCtorEq, Nat.reduceEqDiff, Nat.reduceAdd, Nat.reduceLeDiff, Nat.reduceMul, Nat.reduceSub, Int.reduceToNat, Int.reduceLT, Int.reduceLE, load_w, load_a, store_b, idxS_b, set_blk, new_blk, set_next, new_next, len_s, ldW_c, ldA_c, stB_c, toArr_one, size_one, toList_toArr, size_toArr, List.length_cons, List.length_nil, List.getElem?_cons_zero, List.getElem?_cons_succ, Nat.zero_add, Nat.add_zero]
    refine gC.of (ref03_Same_spec (hoa1.keep hxb1).sl hob1.sl listL_len listL_len) ?_
    rintro _ _ ⟨rfl, hm1⟩
    replace hm1 := hm1.symm
    subst hm1
    have d1 : decide (listL (isU1 a.places b.places) a.places b.places = listL (isU1 a.places b.places) a.places b.places) = true := by simp
    have he11 := hb1.keep hY1
    have he21 := hb2.keep hY1
    try simp only [go_sem, Int.reduceBEq, Int.reduceBNe, Int.reduceNeg, reduceCtorEq, Nat.reduceEqDiff, Nat.reduceAdd, Nat.reduceLeDiff, Nat.reduceMul, Nat.reduceSub, Int.reduceToNat, Int.reduceLT, Int.reduceLE, load_w, load_a, store_b, idxS_b, set_blk, new_blk, set_next, new_next, len_s, ldW_c, ldA_c, stB_c, toArr_one, size_one, toList_toArr, size_toArr, List.length_cons, List.length_nil, List.getElem?_cons_zero, List.getElem?_cons_succ, Nat.zero_add, Nat.add_zero, d1, he11.at_, he21.at_]
    refine gC.of (Gone_spec (hsa.keep hY1) (hsb.keep hY1) oa ob) ?_
    rintro ra2 A2 ⟨hoa2, hxa2⟩
    have hX2 : Ext M0 A2 := hY1.trans hxa2
    rw [gone_eq ha hb ra.units rb.units] at hoa2
    have hk12 := hxa2.same m.next (hb1.keep hY1).lt
    have hk22 := hxa2.same m1.next (hb2.keep hY1).lt
    have hc12 := hb1.keep hX2
    have hc22 := hb2.keep hX2
    try simp only [go_sem, Int.reduceBEq, Int.reduceBNe, Int.reduceNeg, reduceCtorEq, Nat.reduceEqDiff, Nat.reduceAdd, Nat.reduceLeDiff, Nat.reduceMul, Nat.reduceSub, Int.reduceToNat, Int.reduceLT, Int.reduceLE, load_w, load_a, store_b, idxS_b, set_blk, new_blk, set_next, new_next, len_s, ldW_c, ldA_c, stB_c, toArr_one, size_one, toList_toArr, size_toArr, List.length_cons, List.length_nil, List.getElem?_cons_zero, List.getElem?_cons_succ, Nat.zero_add, Nat.add_zero, watchOk_cons, watchOk_nil, blkOf_ptr, hk12, hk22, hc12.at_, hc22.at_]
    refine gC.of (List2_spec (p := a) (q := b) ⟨pv, rfl, hp.keep hX2⟩ ⟨qv, rfl, hq.keep hX2⟩ pa pb ra.ascD rb.ascD) ?_
    rintro rb2 B2 ⟨hob2, hxb2⟩
    have hY2 : Ext M0 B2 := hX2.trans hxb2
    try simp only [go_sem, Int.reduceBEq, Int.reduceBNe, Int.reduceNeg, reduceCtorEq, Nat.reduceEqDiff, Nat.reduceAdd, Nat.reduceLeDiff, Nat.reduceMul, Nat.reduceSub, Int.reduceToNat, Int.reduceLT, Int.reduceLE, load_w, load_a, store_b, idxS_b, set_blk, new_blk, set_next, new_next, len_s, ldW_c, ldA_c, stB_c, toArr_one, size_one, toList_toArr, size_toArr, List.length_cons, List.length_nil, List.getElem?_cons_zero, List.getElem?_cons_succ, Nat.zero_add, Nat.add_zero]
    refine gC.of (ref03_Same_spec (hoa2.keep hxb2).sl hob2.sl listL_len listL_len) ?_
    rintro _ _ ⟨rfl, hm2⟩
    replace hm2 := hm2.symm
    subst hm2
    have d2 : decide (listL (isU2 a.places b.places) a.places b.places = listL (isU2 a.places b.places) a.places b.places) = true := by simp
    have he12 := hb1.keep hY2
    have he22 := hb2.keep hY2
    try simp only [go_sem, Int.reduceBEq, Int.reduceBNe, Int.reduceNeg, reduceCtorEq, Nat.reduceEqDiff, Nat.reduceAdd, Nat.reduceLeDiff, Nat.reduceMul, Nat.reduceSub, Int.reduceToNat, Int.reduceLT, Int.reduceLE, load_w, load_a, store_b, idxS_b, set_blk, new_blk, set_next, new_next, len_s, ldW_c, ldA_c, stB_c, toArr_one, size_one, toList_toArr, size_toArr, List.length_cons, List.length_nil, List.getElem?_cons_zero, List.getElem?_cons_succ, Nat.zero_add, Nat.add_zero, d2, he12.at_, he22.at_]
    refine gC.of (Resized_spec (hsa.keep hY2) (hsb.keep hY2) oa ob) ?_
    rintro ra3 A3 ⟨hoa3, hxa3⟩
    have hX3 : Ext M0 A3 := hY2.trans hxa3
    rw [resized_eq ha hb ra.ascD rb.ascD ra.units rb.units] at hoa3
    have hk13 := hxa3.same m.next (hb1.keep hY2).lt
    have hk23 := hxa3.same m1.next (hb2.keep hY2).lt
    have hc13 := hb1.keep hX3
    have hc23 := hb2.keep hX3
    try simp only [go_sem, Int.reduceBEq, Int.reduceBNe, Int.reduceNeg, reduceCtorEq, Nat.reduceEqDiff, Nat.reduceAdd, Nat.reduceLeDiff, Nat.reduceMul, Nat.reduceSub, Int.reduceToNat, Int.reduceLT, Int.reduceLE, load_w, load_a, store_b, idxS_b, set_blk, new_blk, set_next, new_next, len_s, ldW_c, ldA_c, stB_c, toArr_one, size_one, toList_toArr, size_toArr, List.length_cons, List.length_nil, List.getElem?_cons_zero, List.getElem?_cons_succ, Nat.zero_add, Nat.add_zero, watchOk_cons, watchOk_nil, blkOf_ptr, hk13, hk23, hc13.at_, hc23.at_]
    refine gC.of (List3_spec (p := a) (q := b) ⟨pv, rfl, hp.keep hX3⟩ ⟨qv, rfl, hq.keep hX3⟩ pa pb ra.ascD rb.ascD) ?_
    rintro rb3 B3 ⟨hob3, hxb3⟩
    have hY3 : Ext M0 B3 := hX3.trans hxb3
    try simp only [go_sem, Int.reduceBEq, Int.reduceBNe, Int.reduceNeg, reduceCtorEq, Nat.reduceEqDiff, Nat.reduceAdd, Nat.reduceLeDiff, Nat.reduceMul, Nat.reduceSub, Int.reduceToNat, Int.reduceLT, Int.reduceLE, load_w, load_a, store_b, idxS_b, set_blk, new_blk, set_next, new_next, len_s, ldW_c, ldA_c, stB_c, toArr_one, size_one, toList_toArr, size_toArr, List.length_cons, List.length_nil, List.getElem?_cons_zero, List.getElem?_cons_succ, Nat.zero_add, Nat.add_zero]
    refine gC.of (ref03_Same_spec (hoa3.keep hxb3).sl hob3.sl listL_len listL_len) ?_
    rintro _ _ ⟨rfl, hm3⟩
    replace hm3 := hm3.symm
    subst hm3
    have d3 : decide (listL (isU3 a.places b.places) a.places b.places = listL (isU3 a.places b.places) a.places b.places) = true := by simp
    have he13 := hb1.keep hY3
    have he23 := hb2.keep hY3
    try simp only [go_sem, Int.reduceBEq, Int.reduceBNe, Int.reduceNeg, reduceCtorEq, Nat.reduceEqDiff, Nat.reduceAdd, Nat.reduceLeDiff, Nat.reduceMul, Nat.reduceSub, Int.reduceToNat, Int.reduceLT, Int.reduceLE, load_w, load_a, store_b, idxS_b, set_blk, new_blk, set_next, new_next, len_s, ldW_c, ldA_c, stB_c, toArr_one, size_one, toList_toArr, size_toArr, List.length_cons, List.length_nil, List.getElem?_cons_zero, List.getElem?_cons_succ, Nat.zero_add, Nat.add_zero, d3, he13.at_, he23.at_]
    refine gC.of (ok_specD R.law22_awake) ?_
    rintro _ m_ ⟨rfl, hm_⟩
    replace hm_ := hm_.symm
    subst hm_
    simp only [go_sem, Int.reduceBEq, Int.reduceBNe, Int.reduceNeg, reduceCtorEq, Nat.reduceEqDiff, Nat.reduceAdd, Nat.reduceLeDiff, Nat.reduceMul, Nat.reduceSub, Int.reduceToNat, Int.reduceLT, Int.reduceLE]
    try simp only [go_sem, Int.reduceBEq, Int.reduceBNe, Int.reduceNeg, reduceCtorEq, Nat.reduceEqDiff, Nat.reduceAdd, Nat.reduceLeDiff, Nat.reduceMul, Nat.reduceSub, Int.reduceToNat, Int.reduceLT, Int.reduceLE, load_w, load_a, store_b, idxS_b, set_blk, new_blk, set_next, new_next, len_s, ldW_c, ldA_c, stB_c, toArr_one, size_one, toList_toArr, size_toArr, List.length_cons, List.length_nil, List.getElem?_cons_zero, List.getElem?_cons_succ, Nat.zero_add, Nat.add_zero]
  · try simp only [go_sem, Int.reduceBEq, Int.reduceBNe, Int.reduceNeg, reduceCtorEq, Nat.reduceEqDiff, Nat.reduceAdd, Nat.reduceLeDiff, Nat.reduceMul, Nat.reduceSub, Int.reduceToNat, Int.reduceLT, Int.reduceLE, load_w, load_a, store_b, idxS_b, set_blk, new_blk, set_next, new_next, len_s, ldW_c, ldA_c, stB_c, toArr_one, size_one, toList_toArr, size_toArr, List.length_cons, List.length_nil, List.getElem?_cons_zero, List.getElem?_cons_succ, Nat.zero_add, Nat.add_zero, decide_eq_false hr]
    refine gC.of (ok_specD R.law22_awake) ?_
    rintro _ m_ ⟨rfl, hm_⟩
    replace hm_ := hm_.symm
    subst hm_
    simp only [go_sem, Int.reduceBEq, Int.reduceBNe, Int.reduceNeg, reduceCtorEq, Nat.reduceEqDiff, Nat.reduceAdd, Nat.reduceLeDiff, Nat.reduceMul, Nat.reduceSub, Int.reduceToNat, Int.reduceLT, Int.reduceLE]
end Go.Am


/- Diff: the reference's list of unlike places. -/
set_option linter.unusedVariables false
set_option linter.unusedSimpArgs false
namespace Go.Am
open Classical
variable {m : Mem}

noncomputable def isU4 (a b : List Pl) (u : Int) : Bool := decide (findP a u ≠ findP b u)

set_option maxHeartbeats 8000000 in
theorem List4_spec {p q : PlanD} {v w : Value} (hv : PlanV m p v) (hw : PlanV m q w) (hl : PlanL p) (hk : PlanL q) (ha : Asc p.places) (hb : Asc q.places) :
    WC R F.ref22_List [.int .i64 4, v, w] m fun r m' => Own m m' 1 (listL (isU4 p.places q.places) p.places q.places).length (intsZ (listL (isU4 p.places q.places) p.places q.places)) r ∧ Ext m m' := by
  refine WC.of R.ref22_List rfl ?_
  obtain ⟨pv, rfl, hp⟩ := hv
  obtain ⟨qv, rfl, hq⟩ := hw
  simp only [RC.ref22_List, planV, go_sem, Int.reduceBEq, Int.reduceBNe, Int.reduceNeg, reduceCtorEq, Nat.reduceEqDiff, Nat.reduceAdd, Nat.reduceLeDiff, Nat.reduceMul, Nat.reduceSub, Int.reduceToNat, Int.reduceLT, Int.reduceLE, hp.one, hq.one]
  have hx1 : Ext m (m.new (.cells [.int .i64 p.frame, u32 p.cores, pv] (some 3))) := Ext.new
  have hb1 : Bk (m.new (.cells [.int .i64 p.frame, u32 p.cores, pv] (some 3))) m.next [.int .i64 p.frame, u32 p.cores, pv] 3 := Bk.new
  generalize m.new (.cells [.int .i64 p.frame, u32 p.cores, pv] (some 3)) = m1 at hx1 hb1 ⊢
  have hx2 : Ext m1 (m1.new (.cells [.int .i64 q.frame, u32 q.cores, qv] (some 3))) := Ext.new
  have hb2 : Bk (m1.new (.cells [.int .i64 q.frame, u32 q.cores, qv] (some 3))) m1.next [.int .i64 q.frame, u32 q.cores, qv] 3 := Bk.new
  generalize m1.new (.cells [.int .i64 q.frame, u32 q.cores, qv] (some 3)) = m2 at hx2 hb2 ⊢
  have hb12 := hb1.keep hx2
  have hX := hx1.trans hx2
  have hp2 := hp.keep hX
  have hq2 := hq.keep hX
  have hbn1 := hb12.ne
  have hbn2 := hb2.ne
  have hx3 : Ext m2 (m2.new (.cells [] (some 1))) := Ext.new
  have ho3 : Own m2 (m2.new (.cells [] (some 1))) 1 0 [] (.slice (some ⟨m2.next, 0, none⟩) 0 0) := .at (all := []) (Nat.le_refl _) (by simp [Mem.new]) (Nat.le_refl _) (by simp [Mem.new]) rfl rfl rfl
  try simp only [go_sem, Int.reduceBEq, Int.reduceBNe, Int.reduceNeg, reduceCtorEq, Nat.reduceEqDiff, Nat.reduceAdd, Nat.reduceLeDiff, Nat.reduceMul, Nat.reduceSub, Int.reduceToNat, Int.reduceLT, Int.reduceLE, load_w, load_a, store_b, idxS_b, set_blk, new_blk, set_next, new_next, len_s, ldW_c, ldA_c, stB_c, toArr_one, size_one, toList_toArr, size_toArr, List.length_cons, List.length_nil, List.getElem?_cons_zero, List.getElem?_cons_succ, Nat.zero_add, Nat.add_zero, hb12.at_, hb2.at_, hbn1, hbn2]
  have hm3 : m2.next < (m2.new (.cells [] (some 1))).next := by simp [Mem.new]
  generalize m2.new (.cells [] (some 1)) = m3 at hx3 ho3 hm3 ⊢
  refine gC.of (Units_spec (p := p) (q := q) ⟨pv, rfl, hp2.keep hx3⟩ ⟨qv, rfl, hq2.keep hx3⟩ hl hk ha hb) ?_
  rintro uw m4 ⟨hou, hx4⟩
  have hul := unitsL_len (a := p.places) (b := q.places) 1040
  have hx24 := hx3.trans hx4
  have ho4 := ho3.keep hx4
  unfold listL
  generalize unitsL p.places q.places 1040 = U at *
  have hsU := hou.sl
  have hltU := hou.lt
  try simp only [go_sem, Int.reduceBEq, Int.reduceBNe, Int.reduceNeg, reduceCtorEq, Nat.reduceEqDiff, Nat.reduceAdd, Nat.reduceLeDiff, Nat.reduceMul, Nat.reduceSub, Int.reduceToNat, Int.reduceLT, Int.reduceLE, load_w, load_a, store_b, idxS_b, set_blk, new_blk, set_next, new_next, len_s, ldW_c, ldA_c, stB_c, toArr_one, size_one, toList_toArr, size_toArr, List.length_cons, List.length_nil, List.getElem?_cons_zero, List.getElem?_cons_succ, Nat.zero_add, Nat.add_zero]
  refine WL.of (fun n e m' => ∃ (i : Nat) (z : Value), i ≤ U.length ∧ n = U.length - i ∧ e = [(0, .int .i64 4), (4, pt m.next), (5, pt m1.next), (7, z), (8, uw), (9, .int .i64 i)] ∧ OwnQ m2 m4 m' m2.next 1 ((U.take i).filter (isU4 p.places q.places)).length (intsZ ((U.take i).filter (isU4 p.places q.places))) z) U.length
    ⟨0, _, by omega, by omega, by simp only [go_sem, Int.reduceBEq, Int.reduceBNe, Int.reduceNeg, reduceCtorEq, Nat.reduceEqDiff, Nat.reduceAdd, Nat.reduceLeDiff, Nat.reduceMul, Nat.reduceSub, Int.reduceToNat, Int.reduceLT, Int.reduceLE] <;> rfl, ⟨ho4, Upd.refl _ _, fun b hb => by simp [vb] at hb; exact .inl hb, hx24⟩⟩ ?_
  rintro _ _ m5 ⟨i, z, hi, rfl, rfl, ho⟩
  have hx25 := ho.ext
  have hbx := (hb12).keep hx25
  have hby := hb2.keep hx25
  have hgeU := hou.ge
  have hn23 : m2.next < m3.next := hm3
  have hoffU : SlOff [m2.next] uw := SlOff.vb_iff.2 (fun b hb hm => by simp at hm; have := hgeU b hb; omega)
  have hs5 := hsU.upd hltU hoffU ho.upd
  have hlt5 := hltU.upd ho.upd
  simp only [RB.ref22_List_1, pt, go_sem, Int.reduceBEq, Int.reduceBNe, Int.reduceNeg, reduceCtorEq, Nat.reduceEqDiff, Nat.reduceAdd, Nat.reduceLeDiff, Nat.reduceMul, Nat.reduceSub, Int.reduceToNat, Int.reduceLT, Int.reduceLE, load_w, load_a, store_b, idxS_b, set_blk, new_blk, set_next, new_next, len_s, ldW_c, ldA_c, stB_c, toArr_one, size_one, toList_toArr, size_toArr, List.length_cons, List.length_nil, List.getElem?_cons_zero, List.getElem?_cons_succ, Nat.zero_add, Nat.add_zero, hs5.len]
  have s1 := step1 (show i < 1000000 by omega)
  by_cases g1 : i < U.length
  · have e1 : decide ((i : Int) < (U.length : Int)) = true := decide_eq_true (by omega)
    obtain ⟨bb, oo, a1, a2⟩ := hs5.geti g1
    try simp only [go_sem, Int.reduceBEq, Int.reduceBNe, Int.reduceNeg, reduceCtorEq, Nat.reduceEqDiff, Nat.reduceAdd, Nat.reduceLeDiff, Nat.reduceMul, Nat.reduceSub, Int.reduceToNat, Int.reduceLT, Int.reduceLE, load_w, load_a, store_b, idxS_b, set_blk, new_blk, set_next, new_next, len_s, ldW_c, ldA_c, stB_c, toArr_one, size_one, toList_toArr, size_toArr, List.length_cons, List.length_nil, List.getElem?_cons_zero, List.getElem?_cons_succ, Nat.zero_add, Nat.add_zero, e1, hbx.at_, a1, a2]
    have hbu : Ext m5 (m5.bump 12) := Ext.bump
    refine gC.of (refFindO_spec (p := p) (u := U[i]) ⟨pv, rfl, hp2⟩ (hx25.trans hbu) hl ha) ?_
    rintro _ m6 ⟨xv, rfl, hxv, hx6⟩
    have hn6 : m5.next + 12 ≤ m6.next := hx6.next
    have hx56 := hbu.trans hx6
    have hone := hxv.one
    have hlx : (findP p.places U[i]).pieces.length < 1000000 := findP_pcs hl
    have hly : (findP q.places U[i]).pieces.length < 1000000 := findP_pcs hk
    have hset : ∀ (M : Mem) (k : Nat) (a b : Option AObj), (M.set k a).set k b = M.set k b := fun M k a b => by
      unfold Mem.set; congr 1; funext q; simp only []; split <;> rfl
    simp only [plV]
    try simp only [go_sem, Int.reduceBEq, Int.reduceBNe, Int.reduceNeg, reduceCtorEq, Nat.reduceEqDiff, Nat.reduceAdd, Nat.reduceLeDiff, Nat.reduceMul, Nat.reduceSub, Int.reduceToNat, Int.reduceLT, Int.reduceLE, load_w, load_a, store_b, idxS_b, set_blk, new_blk, set_next, new_next, len_s, ldW_c, ldA_c, stB_c, toArr_one, size_one, toList_toArr, size_toArr, List.length_cons, List.length_nil, List.getElem?_cons_zero, List.getElem?_cons_succ, Nat.zero_add, Nat.add_zero, aExt0, aExt1, hone, hset]
    have hU7 : Upd m6 (m6.set (m5.next + 9) (some (.cells [.int .i64 (findP p.places U[i]).unit, .int .i64 (findP p.places U[i]).share, .int .i64 (findP p.places U[i]).core, xv] (some 4)))) [m5.next + 9] := Upd.set (by simp)
    have hc7 : Bk (m6.set (m5.next + 9) (some (.cells [.int .i64 (findP p.places U[i]).unit, .int .i64 (findP p.places U[i]).share, .int .i64 (findP p.places U[i]).core, xv] (some 4)))) (m5.next + 9) [.int .i64 (findP p.places U[i]).unit, .int .i64 (findP p.places U[i]).share, .int .i64 (findP p.places U[i]).core, xv] 4 := ⟨by simp [Mem.set], by simp [Mem.set]; omega⟩
    have hm7n : (m6.set (m5.next + 9) (some (.cells [.int .i64 (findP p.places U[i]).unit, .int .i64 (findP p.places U[i]).share, .int .i64 (findP p.places U[i]).core, xv] (some 4)))).next = m6.next := rfl
    generalize m6.set (m5.next + 9) (some (.cells [.int .i64 (findP p.places U[i]).unit, .int .i64 (findP p.places U[i]).share, .int .i64 (findP p.places U[i]).core, xv] (some 4))) = m7 at hU7 hc7 hm7n ⊢
    have hx57 : Ext m5 m7 := hU7.ext_of hx56 (by simp)
    have hby7 := hby.keep hx57
    have hs7 := hs5.keep hlt5 hx57
    obtain ⟨b2, o2, c1, c2⟩ := hs7.geti g1
    rw [a1] at c1
    cases c1
    have hbu7 : Ext m7 (m7.bump 12) := Ext.bump
    try simp only [go_sem, Int.reduceBEq, Int.reduceBNe, Int.reduceNeg, reduceCtorEq, Nat.reduceEqDiff, Nat.reduceAdd, Nat.reduceLeDiff, Nat.reduceMul, Nat.reduceSub, Int.reduceToNat, Int.reduceLT, Int.reduceLE, load_w, load_a, store_b, idxS_b, set_blk, new_blk, set_next, new_next, len_s, ldW_c, ldA_c, stB_c, toArr_one, size_one, toList_toArr, size_toArr, List.length_cons, List.length_nil, List.getElem?_cons_zero, List.getElem?_cons_succ, Nat.zero_add, Nat.add_zero, a1, c2, hby7.at_]
    refine gC.of (refFindO_spec (p := q) (u := U[i]) ⟨qv, rfl, hq2⟩ ((hx25.trans hx57).trans hbu7) hk hb) ?_
    rintro _ m8 ⟨yv, rfl, hyv, hx8⟩
    have hn78 : m7.next + 12 ≤ m8.next := hx8.next
    have hn67 := hU7.next
    have hx78 := hbu7.trans hx8
    have hone2 := hyv.one
    have hc8 := hc7.keep hx78
    simp only [plV]
    have hne : (m5.next = m6.next) = False := eq_false (by omega)
    try simp only [go_sem, Int.reduceBEq, Int.reduceBNe, Int.reduceNeg, reduceCtorEq, Nat.reduceEqDiff, Nat.reduceAdd, Nat.reduceLeDiff, Nat.reduceMul, Nat.reduceSub, Int.reduceToNat, Int.reduceLT, Int.reduceLE, load_w, load_a, store_b, idxS_b, set_blk, new_blk, set_next, new_next, len_s, ldW_c, ldA_c, stB_c, toArr_one, size_one, toList_toArr, size_toArr, List.length_cons, List.length_nil, List.getElem?_cons_zero, List.getElem?_cons_succ, Nat.zero_add, Nat.add_zero, aExt0, aExt1, hone2, hset, hne, hc8.at_]
    have hU9 : Upd m8 (m8.set (m6.next + 9) (some (.cells [.int .i64 (findP q.places U[i]).unit, .int .i64 (findP q.places U[i]).share, .int .i64 (findP q.places U[i]).core, yv] (some 4)))) [m6.next + 9] := Upd.set (by simp)
    have hcy9 : Bk (m8.set (m6.next + 9) (some (.cells [.int .i64 (findP q.places U[i]).unit, .int .i64 (findP q.places U[i]).share, .int .i64 (findP q.places U[i]).core, yv] (some 4)))) (m6.next + 9) [.int .i64 (findP q.places U[i]).unit, .int .i64 (findP q.places U[i]).share, .int .i64 (findP q.places U[i]).core, yv] 4 := ⟨by simp [Mem.set], by simp [Mem.set]; omega⟩
    generalize m8.set (m6.next + 9) (some (.cells [.int .i64 (findP q.places U[i]).unit, .int .i64 (findP q.places U[i]).share, .int .i64 (findP q.places U[i]).core, yv] (some 4))) = m9 at hU9 hcy9 ⊢
    have hcx9 := hc8.upd hU9 (by simp; omega)
    have hx59 : Ext m5 m9 := hU9.ext_of (hx57.trans hx78) (by simp; omega)
    have hx79 : Ext m7 m9 := hU9.ext_of hx78 (by simp; omega)
    have hyv9 : PcV m9 (findP q.places U[i]).pieces yv := hyv.keep (hx25.trans hx59)
    have hxv9 : PcV m9 (findP p.places U[i]).pieces xv := hxv.keep (hx25.trans hx59)
    have hulen : ((U.take i).filter (isU4 p.places q.places)).length ≤ i := Nat.le_trans (List.length_filter_le ..) (by rw [List.length_take]; omega)
    have htk : U.take (i + 1) = U.take i ++ [U[i]] := List.take_succ_eq_append_getElem g1
    have hstepT : isU4 p.places q.places U[i] = true → (U.take (i + 1)).filter (isU4 p.places q.places) = (U.take i).filter (isU4 p.places q.places) ++ [U[i]] := fun h => by
      rw [htk, List.filter_append]; simp [h]
    have hstepF : isU4 p.places q.places U[i] = false → (U.take (i + 1)).filter (isU4 p.places q.places) = (U.take i).filter (isU4 p.places q.places) := fun h => by
      rw [htk, List.filter_append]; simp [h]
    by_cases h3 : findP p.places U[i] = findP q.places U[i]
    · have hpr : isU4 p.places q.places U[i] = false := by unfold isU4; simp [h3]
      try simp only [go_sem, Int.reduceBEq, Int.reduceBNe, Int.reduceNeg, reduceCtorEq, Nat.reduceEqDiff, Nat.reduceAdd, Nat.reduceLeDiff, Nat.reduceMul, Nat.reduceSub, Int.reduceToNat, Int.reduceLT, Int.reduceLE, load_w, load_a, store_b, idxS_b, set_blk, new_blk, set_next, new_next, len_s, ldW_c, ldA_c, stB_c, toArr_one, size_one, toList_toArr, size_toArr, List.length_cons, List.length_nil, List.getElem?_cons_zero, List.getElem?_cons_succ, Nat.zero_add, Nat.add_zero, hcx9.at_, hcy9.at_]
      refine gC.of (refSamePlace_spec (x := findP p.places U[i]) (y := findP q.places U[i]) ⟨xv, rfl, hxv9⟩ ⟨yv, rfl, hyv9⟩ hlx hly) ?_
      rintro _ m10 ⟨rfl, hx10⟩
      try simp only [go_sem, Int.reduceBEq, Int.reduceBNe, Int.reduceNeg, reduceCtorEq, Nat.reduceEqDiff, Nat.reduceAdd, Nat.reduceLeDiff, Nat.reduceMul, Nat.reduceSub, Int.reduceToNat, Int.reduceLT, Int.reduceLE, load_w, load_a, store_b, idxS_b, set_blk, new_blk, set_next, new_next, len_s, ldW_c, ldA_c, stB_c, toArr_one, size_one, toList_toArr, size_toArr, List.length_cons, List.length_nil, List.getElem?_cons_zero, List.getElem?_cons_succ, Nat.zero_add, Nat.add_zero, decide_eq_true h3, s1]
      refine ⟨U.length - (i + 1), by omega, i + 1, z, by omega, rfl, rfl, ?_⟩
      rw [hstepF hpr]; exact ho.keep (hx59.trans hx10)
    · have hpr : isU4 p.places q.places U[i] = true := by unfold isU4; simp [h3]
      try simp only [go_sem, Int.reduceBEq, Int.reduceBNe, Int.reduceNeg, reduceCtorEq, Nat.reduceEqDiff, Nat.reduceAdd, Nat.reduceLeDiff, Nat.reduceMul, Nat.reduceSub, Int.reduceToNat, Int.reduceLT, Int.reduceLE, load_w, load_a, store_b, idxS_b, set_blk, new_blk, set_next, new_next, len_s, ldW_c, ldA_c, stB_c, toArr_one, size_one, toList_toArr, size_toArr, List.length_cons, List.length_nil, List.getElem?_cons_zero, List.getElem?_cons_succ, Nat.zero_add, Nat.add_zero, hcx9.at_, hcy9.at_]
      refine gC.of (refSamePlace_spec (x := findP p.places U[i]) (y := findP q.places U[i]) ⟨xv, rfl, hxv9⟩ ⟨yv, rfl, hyv9⟩ hlx hly) ?_
      rintro _ m10 ⟨rfl, hx10⟩
      obtain ⟨b3, o3, d1, d2⟩ := (hs5.keep hlt5 (hx59.trans hx10)).geti g1
      rw [a1] at d1
      cases d1
      obtain ⟨v', mz, p1, p2⟩ := (ho.keep (hx59.trans hx10)).app (by_ := 8) (es := [.int .i64 U[i]]) (by omega) rfl rfl (by omega) (by omega)
      try simp only [go_sem, Int.reduceBEq, Int.reduceBNe, Int.reduceNeg, reduceCtorEq, Nat.reduceEqDiff, Nat.reduceAdd, Nat.reduceLeDiff, Nat.reduceMul, Nat.reduceSub, Int.reduceToNat, Int.reduceLT, Int.reduceLE, load_w, load_a, store_b, idxS_b, set_blk, new_blk, set_next, new_next, len_s, ldW_c, ldA_c, stB_c, toArr_one, size_one, toList_toArr, size_toArr, List.length_cons, List.length_nil, List.getElem?_cons_zero, List.getElem?_cons_succ, Nat.zero_add, Nat.add_zero, decide_eq_false h3, a1, d2, p1, s1]
      refine ⟨U.length - (i + 1), by omega, i + 1, v', by omega, rfl, rfl, ?_⟩
      rw [hstepT hpr, List.length_append]
      unfold intsZ at p2 ⊢
      rw [List.map_append]; exact p2
  · have e1 : decide ((i : Int) < (U.length : Int)) = false := decide_eq_false (by omega)
    have hi2 : i = U.length := by omega
    subst hi2
    rw [List.take_length] at ho
    try simp only [go_sem, Int.reduceBEq, Int.reduceBNe, Int.reduceNeg, reduceCtorEq, Nat.reduceEqDiff, Nat.reduceAdd, Nat.reduceLeDiff, Nat.reduceMul, Nat.reduceSub, Int.reduceToNat, Int.reduceLT, Int.reduceLE, load_w, load_a, store_b, idxS_b, set_blk, new_blk, set_next, new_next, len_s, ldW_c, ldA_c, stB_c, toArr_one, size_one, toList_toArr, size_toArr, List.length_cons, List.length_nil, List.getElem?_cons_zero, List.getElem?_cons_succ, Nat.zero_add, Nat.add_zero, e1]
    exact ⟨ho.own.weak hX, hX.trans hx25⟩

end Go.Am


/- Diff: a copy of a place; a place's window on a core; what an append touches. -/
set_option linter.unusedVariables false
set_option linter.unusedSimpArgs false
namespace Go.Am
open Classical
variable {m : Mem}

/-- One more behind a row, its new block's number given: only that number and the row's block are touched. -/
theorem app_updQ {q u by_ : Nat} {m m' : Mem} {v v' x : Value} (h : aApp (some q) u by_ m v x = some (v', m')) :
    m'.next = m.next ∧ (∀ b, b ≠ q → b ∉ vb v → m'.blk b = m.blk b) ∧ (vb v' = vb v ∨ vb v' = [q]) := by
  have hset : ∀ (m1 : Mem) (o : Option AObj), (m1.set q o).next = m1.next ∧ ∀ b, b ≠ q → (m1.set q o).blk b = m1.blk b := fun m1 o => ⟨rfl, fun b hb => by show (if b = q then _ else _) = _; rw [if_neg hb]⟩
  unfold aApp at h
  rw [Option.bind_eq_some_iff] at h
  obtain ⟨n, hn, h⟩ := h
  rw [Option.bind_eq_some_iff] at h
  obtain ⟨xs, hxs, h⟩ := h
  split at h
  · split at h
    · cases h; exact ⟨rfl, fun _ _ _ => rfl, .inl rfl⟩
    · split at h
      · simp only [place] at h
        cases h
        exact ⟨rfl, fun b hb _ => (hset _ _).2 b hb, .inr rfl⟩
      · cases h
  · rename_i b o l c
    split at h
    · split at h
      · cases h; exact ⟨rfl, fun _ _ _ => rfl, .inl rfl⟩
      · cases h
    · split at h
      · rw [Option.map_eq_some_iff] at h
        obtain ⟨m1, h1, h2⟩ := h
        cases h2
        have hn1 : m'.next = m.next ∧ ∀ x, x ∉ [b] → m'.blk x = m.blk x := by
          unfold aWrite at h1
          split at h1
          · split at h1
            · cases h1
              exact ⟨rfl, fun x hx => by show (if x = b then _ else _) = _; rw [if_neg (by simpa using hx)]⟩
            · cases h1
          · cases h1
        exact ⟨hn1.1, fun x hx hn => hn1.2 x (by simpa [vb] using hn), .inl rfl⟩
      · split at h
        · rename_i cs own hb
          split at h
          · have hs : ∀ c : Bool, (if c = true then m.set b none else m).next = m.next ∧ ∀ x, x ≠ b → (if c = true then m.set b none else m).blk x = m.blk x := by
              intro c
              cases c
              · exact ⟨rfl, fun _ _ => rfl⟩
              · refine ⟨rfl, fun x hx => ?_⟩
                show (if x = b then _ else _) = _
                rw [if_neg hx]
            simp only [place] at h
            generalize hm1 : (if own.isSome = true ∧ o + c * u = cs.length then m.set b none else m) = m1 at h
            have hs1 : m1.next = m.next ∧ ∀ x, x ≠ b → m1.blk x = m.blk x := by
              rw [← hm1]
              split
              · exact hs true
              · exact hs false
            cases h
            refine ⟨hs1.1, fun x hx hn => ?_, .inr rfl⟩
            rw [(hset m1 _).2 x hx, hs1.2 x (by intro e; apply hn; simp [vb, e])]
          · cases h
        · cases h
  · cases h

/-- A copy of a place: its pieces lie anew. -/
theorem dclone_spec {e : PE} (hp : PcV m e.pl.pieces e.pv) (hl : e.pl.pieces.length < 1000000) :
    WC R F.diff_clone [eP e] m fun r m' => ∃ e' : PE, r = eP e' ∧ e'.pl = e.pl ∧ PcV m' e'.pl.pieces e'.pv ∧ (∀ b ∈ vb e'.pv, m.next ≤ b) ∧ Ext m m' := by
  refine WC.of R.diff_clone rfl ?_
  have o1 := e.one
  obtain ⟨x, pv, hone⟩ := e
  simp only at hp hl o1 ⊢
  simp only [RC.diff_clone, eP, peV, plV, go_sem, Int.reduceBEq, Int.reduceBNe, Int.reduceNeg, reduceCtorEq, Nat.reduceEqDiff, Nat.reduceAdd, Nat.reduceLeDiff, Nat.reduceMul, Nat.reduceSub, Int.reduceToNat, Int.reduceLT, Int.reduceLE, o1]
  have hx1 : Ext m (m.new (.cells [.int .i64 x.unit, .int .i64 x.share, .int .i64 x.core, pv] (some 4))) := Ext.new
  have hb1 : Bk (m.new (.cells [.int .i64 x.unit, .int .i64 x.share, .int .i64 x.core, pv] (some 4))) m.next [.int .i64 x.unit, .int .i64 x.share, .int .i64 x.core, pv] 4 := Bk.new
  generalize m.new (.cells [.int .i64 x.unit, .int .i64 x.share, .int .i64 x.core, pv] (some 4)) = m1 at hx1 hb1 ⊢
  have hbn := hb1.ne
  have hbl := hb1.lt
  try simp only [go_sem, Int.reduceBEq, Int.reduceBNe, Int.reduceNeg, reduceCtorEq, Nat.reduceEqDiff, Nat.reduceAdd, Nat.reduceLeDiff, Nat.reduceMul, Nat.reduceSub, Int.reduceToNat, Int.reduceLT, Int.reduceLE, load_w, load_a, store_b, idxS_b, set_blk, new_blk, set_next, new_next, len_s, ldW_c, ldA_c, stB_c, toArr_one, size_one, toList_toArr, size_toArr, List.length_cons, List.length_nil, List.getElem?_cons_zero, List.getElem?_cons_succ, Nat.zero_add, Nat.add_zero, hb1.at_, hbn]
  have hx2 : Ext m1 (m1.new (.cells [.int .i64 0, .int .i64 0, .int .i64 0, .slice none 0 0] (some 4))) := Ext.new
  have hb2 : Bk (m1.new (.cells [.int .i64 0, .int .i64 0, .int .i64 0, .slice none 0 0] (some 4))) m1.next [.int .i64 0, .int .i64 0, .int .i64 0, .slice none 0 0] 4 := Bk.new
  generalize m1.new (.cells [.int .i64 0, .int .i64 0, .int .i64 0, .slice none 0 0] (some 4)) = m2 at hx2 hb2 ⊢
  have hb12 := hb1.keep hx2
  try simp only [go_sem, Int.reduceBEq, Int.reduceBNe, Int.reduceNeg, reduceCtorEq, Nat.reduceEqDiff, Nat.reduceAdd, Nat.reduceLeDiff, Nat.reduceMul, Nat.reduceSub, Int.reduceToNat, Int.reduceLT, Int.reduceLE, load_w, load_a, store_b, idxS_b, set_blk, new_blk, set_next, new_next, len_s, ldW_c, ldA_c, stB_c, toArr_one, size_one, toList_toArr, size_toArr, List.length_cons, List.length_nil, List.getElem?_cons_zero, List.getElem?_cons_succ, Nat.zero_add, Nat.add_zero, hb12.at_]
  refine gC.of (Clone_spec ((hp.keep hx1).keep hx2) hl) ?_
  rintro w m3 ⟨hw, hx3⟩
  have hb13 := hb12.keep hx3
  have hb23 := hb2.keep hx3
  have hws : ∃ a n c, w = .slice a n c := by cases hw <;> exact ⟨_, _, _, rfl⟩
  have hge := hw.ge
  have hwp : PcV m3 x.pieces w := ⟨hw.sl, hw.lt⟩
  obtain ⟨wa, wn, wc, rfl⟩ := hws
  have hb2l := hb2.lt
  have hx1n := hx1.next
  have hne : (m.next = m1.next) = False := eq_false (by omega)
  have hne2 : (m1.next = m.next) = False := eq_false (by omega)
  try simp only [go_sem, Int.reduceBEq, Int.reduceBNe, Int.reduceNeg, reduceCtorEq, Nat.reduceEqDiff, Nat.reduceAdd, Nat.reduceLeDiff, Nat.reduceMul, Nat.reduceSub, Int.reduceToNat, Int.reduceLT, Int.reduceLE, load_w, load_a, store_b, idxS_b, set_blk, new_blk, set_next, new_next, len_s, ldW_c, ldA_c, stB_c, toArr_one, size_one, toList_toArr, size_toArr, List.length_cons, List.length_nil, List.getElem?_cons_zero, List.getElem?_cons_succ, Nat.zero_add, Nat.add_zero, hb13.at_, hb23.at_, hne, hne2]
  have hX := (hx1.trans hx2).trans hx3
  have key : ∀ {m'}, Upd m3 m' [m.next, m1.next] → PcV m' x.pieces (.slice wa wn wc) ∧ Ext m m' := fun hU =>
    ⟨hwp.upd hU (fun b hb => by have := hge b hb; simp; omega), hU.ext_of hX (by simp; omega)⟩
  have hUU : ∀ {A B : Option AObj}, Upd m3 ((m3.set m.next A).set m1.next B) [m.next, m1.next] := (Upd.set (fp := [m.next, m1.next]) (by simp)).trans (Upd.set (fp := [m.next, m1.next]) (by simp)) (fun _ h => h) (fun _ h => .inl h)
  refine ⟨⟨x, .slice wa wn wc, rfl⟩, rfl, rfl, (key hUU).1, fun b hb => ?_, (key hUU).2⟩
  have := hge b hb
  omega

def wnP (ps : List Pc) (c : Int) : BitVec 64 := match ps.find? fun q => q.1 == c with
  | some q => q.2
  | none => 0#64

theorem find_take {ps : List Pc} {c : Int} : ∀ {i : Nat} (h : i < ps.length), (∀ t (h : t < ps.length), t < i → ps[t].1 ≠ c) → ps[i].1 = c → ps.find? (fun q => q.1 == c) = some ps[i] := by
  induction ps with
  | nil => intro i h; simp at h
  | cons a ps ih =>
    intro i h hno he
    cases i with
    | zero => simp only [List.getElem_cons_zero] at he ⊢; simp [List.find?, he]
    | succ i =>
      have h0 := hno 0 (by simp) (by omega)
      simp only [List.getElem_cons_zero] at h0
      simp only [List.getElem_cons_succ] at he ⊢
      have : (a.1 == c) = false := by rw [beq_eq_false_iff_ne]; exact h0
      simp only [List.find?, this]
      exact ih (by simpa using h) (fun t ht hti => by have := hno (t + 1) (by simpa using ht) (by omega); simpa using this) he
theorem find_none {ps : List Pc} {c : Int} (h : ∀ t (h : t < ps.length), ps[t].1 ≠ c) : ps.find? (fun q => q.1 == c) = none := by
  rw [List.find?_eq_none]
  intro q hq
  obtain ⟨t, ht, rfl⟩ := List.getElem_of_mem hq
  simpa using h t ht

theorem window_spec {e : PE} {c : Int} (hp : PcV m e.pl.pieces e.pv) (hl : e.pl.pieces.length < 1000000) :
    WC R F.diff_window [eP e, .int .i64 c] m fun r m' => r = u64 (wnP e.pl.pieces c) ∧ Ext m m' := by
  refine WC.of R.diff_window rfl ?_
  have o1 := e.one
  obtain ⟨x, pv, hone⟩ := e
  simp only at hp hl o1 ⊢
  simp only [RC.diff_window, eP, peV, plV, go_sem, Int.reduceBEq, Int.reduceBNe, Int.reduceNeg, reduceCtorEq, Nat.reduceEqDiff, Nat.reduceAdd, Nat.reduceLeDiff, Nat.reduceMul, Nat.reduceSub, Int.reduceToNat, Int.reduceLT, Int.reduceLE, o1]
  have hx1 : Ext m (m.new (.cells [.int .i64 x.unit, .int .i64 x.share, .int .i64 x.core, pv] (some 4))) := Ext.new
  have hb1 : Bk (m.new (.cells [.int .i64 x.unit, .int .i64 x.share, .int .i64 x.core, pv] (some 4))) m.next [.int .i64 x.unit, .int .i64 x.share, .int .i64 x.core, pv] 4 := Bk.new
  generalize m.new (.cells [.int .i64 x.unit, .int .i64 x.share, .int .i64 x.core, pv] (some 4)) = m1 at hx1 hb1 ⊢
  have hp1 := hp.keep hx1
  try simp only [go_sem, Int.reduceBEq, Int.reduceBNe, Int.reduceNeg, reduceCtorEq, Nat.reduceEqDiff, Nat.reduceAdd, Nat.reduceLeDiff, Nat.reduceMul, Nat.reduceSub, Int.reduceToNat, Int.reduceLT, Int.reduceLE, load_w, load_a, store_b, idxS_b, set_blk, new_blk, set_next, new_next, len_s, ldW_c, ldA_c, stB_c, toArr_one, size_one, toList_toArr, size_toArr, List.length_cons, List.length_nil, List.getElem?_cons_zero, List.getElem?_cons_succ, Nat.zero_add, Nat.add_zero, hb1.at_, hp1.len]
  refine WL.of (fun n e m' => ∃ i : Nat, i ≤ x.pieces.length ∧ n = x.pieces.length - i ∧ Ext m1 m' ∧ e = [(1, .int .i64 c), (8, pv), (9, .int .i64 x.pieces.length), (10, .int .i64 i)] ∧ ∀ t (h : t < x.pieces.length), t < i → x.pieces[t].1 ≠ c) x.pieces.length
    ⟨0, by omega, by omega, Ext.refl _, by simp only [go_sem, Int.reduceBEq, Int.reduceBNe, Int.reduceNeg, reduceCtorEq, Nat.reduceEqDiff, Nat.reduceAdd, Nat.reduceLeDiff, Nat.reduceMul, Nat.reduceSub, Int.reduceToNat, Int.reduceLT, Int.reduceLE] <;> rfl, fun t h h2 => by omega⟩ ?_
  rintro _ _ m2 ⟨i, hi, rfl, hx2, rfl, hno⟩
  simp only [RB.diff_window_1, go_sem, Int.reduceBEq, Int.reduceBNe, Int.reduceNeg, reduceCtorEq, Nat.reduceEqDiff, Nat.reduceAdd, Nat.reduceLeDiff, Nat.reduceMul, Nat.reduceSub, Int.reduceToNat, Int.reduceLT, Int.reduceLE, load_w, load_a, store_b, idxS_b, set_blk, new_blk, set_next, new_next, len_s, ldW_c, ldA_c, stB_c, toArr_one, size_one, toList_toArr, size_toArr, List.length_cons, List.length_nil, List.getElem?_cons_zero, List.getElem?_cons_succ, Nat.zero_add, Nat.add_zero]
  have s1 := step1 (show i < 1000000 by omega)
  have hp2 := hp1.keep hx2
  by_cases g1 : i < x.pieces.length
  · have e1 : decide ((i : Int) < (x.pieces.length : Int)) = true := decide_eq_true (by omega)
    obtain ⟨b, o, a1, a2, a3, a4⟩ := hp2.elem g1
    simp only [pcV] at a2
    try simp only [go_sem, Int.reduceBEq, Int.reduceBNe, Int.reduceNeg, reduceCtorEq, Nat.reduceEqDiff, Nat.reduceAdd, Nat.reduceLeDiff, Nat.reduceMul, Nat.reduceSub, Int.reduceToNat, Int.reduceLT, Int.reduceLE, load_w, load_a, store_b, idxS_b, set_blk, new_blk, set_next, new_next, len_s, ldW_c, ldA_c, stB_c, toArr_one, size_one, toList_toArr, size_toArr, List.length_cons, List.length_nil, List.getElem?_cons_zero, List.getElem?_cons_succ, Nat.zero_add, Nat.add_zero, e1, a1, a2]
    have hx3 : Ext m2 (m2.new (.cells [.int .i64 x.pieces[i].1, u64 x.pieces[i].2] (some 2))) := Ext.new
    have hb3 : Bk (m2.new (.cells [.int .i64 x.pieces[i].1, u64 x.pieces[i].2] (some 2))) m2.next [.int .i64 x.pieces[i].1, u64 x.pieces[i].2] 2 := Bk.new
    generalize m2.new (.cells [.int .i64 x.pieces[i].1, u64 x.pieces[i].2] (some 2)) = m3 at hx3 hb3 ⊢
    try simp only [go_sem, Int.reduceBEq, Int.reduceBNe, Int.reduceNeg, reduceCtorEq, Nat.reduceEqDiff, Nat.reduceAdd, Nat.reduceLeDiff, Nat.reduceMul, Nat.reduceSub, Int.reduceToNat, Int.reduceLT, Int.reduceLE, load_w, load_a, store_b, idxS_b, set_blk, new_blk, set_next, new_next, len_s, ldW_c, ldA_c, stB_c, toArr_one, size_one, toList_toArr, size_toArr, List.length_cons, List.length_nil, List.getElem?_cons_zero, List.getElem?_cons_succ, Nat.zero_add, Nat.add_zero, hb3.at_]
    by_cases g2 : x.pieces[i].1 = c
    · have e2 : (x.pieces[i].1 == c) = true := by rw [beq_iff_eq]; exact g2
      have e3 : wnP x.pieces c = x.pieces[i].2 := by unfold wnP; rw [find_take g1 hno g2]
      try simp only [go_sem, Int.reduceBEq, Int.reduceBNe, Int.reduceNeg, reduceCtorEq, Nat.reduceEqDiff, Nat.reduceAdd, Nat.reduceLeDiff, Nat.reduceMul, Nat.reduceSub, Int.reduceToNat, Int.reduceLT, Int.reduceLE, load_w, load_a, store_b, idxS_b, set_blk, new_blk, set_next, new_next, len_s, ldW_c, ldA_c, stB_c, toArr_one, size_one, toList_toArr, size_toArr, List.length_cons, List.length_nil, List.getElem?_cons_zero, List.getElem?_cons_succ, Nat.zero_add, Nat.add_zero, e2, hb3.at_, e3]
      first | exact (hx1.trans hx2).trans hx3 | exact ⟨rfl, (hx1.trans hx2).trans hx3⟩
    · have e2 : (x.pieces[i].1 == c) = false := by rw [beq_eq_false_iff_ne]; exact g2
      try simp only [go_sem, Int.reduceBEq, Int.reduceBNe, Int.reduceNeg, reduceCtorEq, Nat.reduceEqDiff, Nat.reduceAdd, Nat.reduceLeDiff, Nat.reduceMul, Nat.reduceSub, Int.reduceToNat, Int.reduceLT, Int.reduceLE, load_w, load_a, store_b, idxS_b, set_blk, new_blk, set_next, new_next, len_s, ldW_c, ldA_c, stB_c, toArr_one, size_one, toList_toArr, size_toArr, List.length_cons, List.length_nil, List.getElem?_cons_zero, List.getElem?_cons_succ, Nat.zero_add, Nat.add_zero, e2, s1]
      refine ⟨x.pieces.length - (i + 1), by omega, i + 1, by omega, rfl, hx2.trans hx3, rfl, fun t h ht => ?_⟩
      by_cases et : t = i
      · subst et; exact g2
      · exact hno t h (by omega)
  · have e1 : decide ((i : Int) < (x.pieces.length : Int)) = false := decide_eq_false (by omega)
    have e3 : wnP x.pieces c = 0#64 := by unfold wnP; rw [find_none fun t h => hno t h (by omega)]
    try simp only [go_sem, Int.reduceBEq, Int.reduceBNe, Int.reduceNeg, reduceCtorEq, Nat.reduceEqDiff, Nat.reduceAdd, Nat.reduceLeDiff, Nat.reduceMul, Nat.reduceSub, Int.reduceToNat, Int.reduceLT, Int.reduceLE, load_w, load_a, store_b, idxS_b, set_blk, new_blk, set_next, new_next, len_s, ldW_c, ldA_c, stB_c, toArr_one, size_one, toList_toArr, size_toArr, List.length_cons, List.length_nil, List.getElem?_cons_zero, List.getElem?_cons_succ, Nat.zero_add, Nat.add_zero, e1, e3]
    first | exact hx1.trans hx2 | exact ⟨rfl, hx1.trans hx2⟩
end Go.Am


/- Diff: Changes. -/
set_option linter.unusedVariables false
set_option linter.unusedSimpArgs false
namespace Go.Am
open Classical
variable {m : Mem}

/-- A change as it lies. -/
structure CH where
  u : Int
  was : PE
  now : PE
def chV (c : CH) : List Value := .int .i64 c.u :: (peV c.was ++ peV c.now)
theorem chV_len (c : CH) : (chV c).length = 9 := rfl
theorem chV_one (c : CH) : oneCells (chV c) = true := by
  have h1 := peV_one c.was
  have h2 := peV_one c.now
  have := oneCells_append h1 h2
  unfold oneCells at this ⊢
  unfold chV
  rw [List.all_cons, this]; rfl

structure OwnChs (m0 m : Mem) (l : List CH) (v : Value) : Prop where
  own : Own m0 m 9 l.length (l.flatMap chV) v
  el : ∀ c ∈ l, (PcV m c.was.pl.pieces c.was.pv ∧ ∀ b ∈ vb c.was.pv, b ∉ vb v) ∧ PcV m c.now.pl.pieces c.now.pv ∧ ∀ b ∈ vb c.now.pv, b ∉ vb v
  ext : Ext m0 m
theorem OwnChs.keep {m0 m m' : Mem} {l : List CH} {v : Value} (h : OwnChs m0 m l v) (hx : Ext m m') : OwnChs m0 m' l v :=
  ⟨h.own.keep hx, fun e he => ⟨⟨(h.el e he).1.1.keep hx, (h.el e he).1.2⟩, (h.el e he).2.1.keep hx, (h.el e he).2.2⟩, h.ext.trans hx⟩
theorem OwnChs.weak {m0 m1 m : Mem} {l : List CH} {v : Value} (h : OwnChs m1 m l v) (hx : Ext m0 m1) : OwnChs m0 m l v := ⟨h.own.weak hx, h.el, hx.trans h.ext⟩

theorem OwnChs.appD {m0 m m5 : Mem} {l : List CH} {v : Value} {N s t : Nat} (h : OwnChs m0 m l v) (hx : Ext m m5) (hN : m.next + N ≤ m5.next) (hs : s < N) (ht : t < N) (hst : s ≠ t) {c : CH}
    (p1 : PcV m5 c.was.pl.pieces c.was.pv) (p2 : PcV m5 c.now.pl.pieces c.now.pv) (n1 : ∀ b ∈ vb c.was.pv, m.next + N ≤ b) (n2 : ∀ b ∈ vb c.now.pv, m.next + N ≤ b) (hl : l.length < 1000000) :
    ∃ v' m', aApp (some (m.next + t)) 9 104 (m5.set (m.next + s) (some (.cells (chV c) (some 9)))) v (.slice (some ⟨m.next + s, 0, none⟩) 1 1) = some (v', m') ∧ OwnChs m0 m' (l ++ [c]) v' := by
  have hlt := SlLt.vb_iff.1 h.own.lt
  have h0 := h.ext.next
  have h5 := h.keep hx
  have hU : Upd m5 (m5.set (m.next + s) (some (.cells (chV c) (some 9)))) [m.next + s] := Upd.set (by simp)
  have hX : Ext m0 (m5.set (m.next + s) (some (.cells (chV c) (some 9)))) := hU.ext_of h5.ext (by simp; omega)
  have hO := h5.own.updq hU (fun b hb => by have := hlt b hb; simp; omega)
  obtain ⟨v', m', e1, e2, e3⟩ := hO.appAt (by_ := 104) (xs := chV c) (x := .slice (some ⟨m.next + s, 0, none⟩) 1 1) (q := m.next + t) hX (.at (Nat.le_refl _) (by
      unfold aCells
      simp only [Mem.set, if_true, Nat.zero_add, List.drop_zero]
      rw [if_pos (by rw [chV_len]; omega), Nat.one_mul]
      rfl)) (chV_one c) (by omega) (by omega) (by omega) (by show _ < m5.next; omega) (SlOff.vb_iff.2 fun b hb => by have := hlt b hb; simp; omega)
  obtain ⟨a1, a2, a3⟩ := app_updQ e1
  have key : ∀ pc pv, PcV m5 pc pv → (∀ b ∈ vb pv, b ∉ vb v) → (∀ b ∈ vb pv, b < m.next ∨ m.next + N ≤ b) → PcV m' pc pv ∧ ∀ b ∈ vb pv, b ∉ vb v' := fun pc pv h1 h2 h3 => by
    refine ⟨h1.upd (fp := (m.next + s) :: (m.next + t) :: vb v) ⟨by rw [a1]; exact Nat.le_refl _, fun b hb hnb => ?_⟩ (fun b hb hm => ?_), fun b hb hm => ?_⟩
    · simp only [List.mem_cons, not_or] at hnb
      rw [a2 b hnb.2.1 hnb.2.2]
      show (if b = m.next + s then _ else _) = _
      rw [if_neg hnb.1]
    · have := h3 b hb
      simp only [List.mem_cons] at hm
      rcases hm with hm | hm | hm
      · omega
      · omega
      · exact h2 b hb hm
    · rcases a3 with e | e
      · rw [e] at hm; exact h2 b hb hm
      · rw [e] at hm
        simp at hm
        have := h3 b hb
        omega
  refine ⟨v', m', e1, ⟨?_, fun x hx' => ?_, e3⟩⟩
  · rw [List.length_append, List.flatMap_append]; simpa using e2
  · rcases List.mem_append.1 hx' with hx' | hx'
    · obtain ⟨⟨q1, q2⟩, q3, q4⟩ := h.el x hx'
      exact ⟨key _ _ (q1.keep hx) q2 fun b hb => .inl (SlLt.vb_iff.1 q1.2 b hb), key _ _ (q3.keep hx) q4 fun b hb => .inl (SlLt.vb_iff.1 q3.2 b hb)⟩
    · rw [List.mem_singleton.1 hx']
      exact ⟨key _ _ p1 (fun b hb hm => by have := n1 b hb; have := hlt b hm; omega) fun b hb => .inr (n1 b hb), key _ _ p2 (fun b hb hm => by have := n2 b hb; have := hlt b hm; omega) fun b hb => .inr (n2 b hb)⟩

noncomputable def ChaP (x y : PE) (a b : Bool) : Bool := !decide (x.pl = y.pl)
theorem Changes1_spec {x y : PE} {a b : Bool} (hx : PcV m x.pl.pieces x.pv) (hy : PcV m y.pl.pieces y.pv) (lx : x.pl.pieces.length < 1000000) (ly : y.pl.pieces.length < 1000000) :
    WC R F.diff_Changes_1 [eP x, eP y, .bool a, .bool b] m fun r m' => r = .bool (ChaP x y a b) ∧ Ext m m' := by
  refine WC.of R.diff_Changes_1 rfl ?_
  have o1 := x.one
  have o2 := y.one
  simp only [RC.diff_Changes_1, eP, peV, plV, go_sem, Int.reduceBEq, Int.reduceBNe, Int.reduceNeg, reduceCtorEq, Nat.reduceEqDiff, Nat.reduceAdd, Nat.reduceLeDiff, Nat.reduceMul, Nat.reduceSub, Int.reduceToNat, Int.reduceLT, Int.reduceLE, o1, o2]
  have hx1 : Ext m (m.new (.cells [.int .i64 x.pl.unit, .int .i64 x.pl.share, .int .i64 x.pl.core, x.pv] (some 4))) := Ext.new
  have hb1 : Bk (m.new (.cells [.int .i64 x.pl.unit, .int .i64 x.pl.share, .int .i64 x.pl.core, x.pv] (some 4))) m.next [.int .i64 x.pl.unit, .int .i64 x.pl.share, .int .i64 x.pl.core, x.pv] 4 := Bk.new
  generalize m.new (.cells [.int .i64 x.pl.unit, .int .i64 x.pl.share, .int .i64 x.pl.core, x.pv] (some 4)) = m1 at hx1 hb1 ⊢
  have hx2 : Ext m1 (m1.new (.cells [.int .i64 y.pl.unit, .int .i64 y.pl.share, .int .i64 y.pl.core, y.pv] (some 4))) := Ext.new
  have hb2 : Bk (m1.new (.cells [.int .i64 y.pl.unit, .int .i64 y.pl.share, .int .i64 y.pl.core, y.pv] (some 4))) m1.next [.int .i64 y.pl.unit, .int .i64 y.pl.share, .int .i64 y.pl.core, y.pv] 4 := Bk.new
  generalize m1.new (.cells [.int .i64 y.pl.unit, .int .i64 y.pl.share, .int .i64 y.pl.core, y.pv] (some 4)) = m2 at hx2 hb2 ⊢
  have hb12 := hb1.keep hx2
  have hx' := (hx.keep hx1).keep hx2
  have hy' := (hy.keep hx1).keep hx2
  try simp only [go_sem, Int.reduceBEq, Int.reduceBNe, Int.reduceNeg, reduceCtorEq, Nat.reduceEqDiff, Nat.reduceAdd, Nat.reduceLeDiff, Nat.reduceMul, Nat.reduceSub, Int.reduceToNat, Int.reduceLT, Int.reduceLE, load_w, load_a, store_b, idxS_b, set_blk, new_blk, set_next, new_next, len_s, ldW_c, ldA_c, stB_c, toArr_one, size_one, toList_toArr, size_toArr, List.length_cons, List.length_nil, List.getElem?_cons_zero, List.getElem?_cons_succ, Nat.zero_add, Nat.add_zero, hb12.at_, hb2.at_]
  refine gC.of (SamePlace_spec (x := x.pl) (y := y.pl) ⟨x.pv, rfl, hx'⟩ ⟨y.pv, rfl, hy'⟩ lx ly) ?_
  rintro _ m3 ⟨rfl, hx3⟩
  try simp only [go_sem, Int.reduceBEq, Int.reduceBNe, Int.reduceNeg, reduceCtorEq, Nat.reduceEqDiff, Nat.reduceAdd, Nat.reduceLeDiff, Nat.reduceMul, Nat.reduceSub, Int.reduceToNat, Int.reduceLT, Int.reduceLE, load_w, load_a, store_b, idxS_b, set_blk, new_blk, set_next, new_next, len_s, ldW_c, ldA_c, stB_c, toArr_one, size_one, toList_toArr, size_toArr, List.length_cons, List.length_nil, List.getElem?_cons_zero, List.getElem?_cons_succ, Nat.zero_add, Nat.add_zero]
  exact ⟨by unfold ChaP; rfl, (hx1.trans hx2).trans hx3⟩

theorem blkOf_map {r : Nat} : blkOf (.map (some r)) = some r := rfl
theorem someL_len {l k : List PE} {P : PE → PE → Bool → Bool → Bool} (ol : OkE l) (ok : OkE k) : (someL l k P).length ≤ 2000 := by
  unfold someL
  refine Nat.le_trans (List.length_filter_le ..) ?_
  have := compL_len (l := sortI (sortI (l.map unitE) ++ sortI (k.map unitE)))
  rw [sortI_len, List.length_append, sortI_len, sortI_len, List.length_map, List.length_map] at this
  have := ol.len; have := ok.len
  omega
theorem pcs_of {L : List PE} {x : PE} {M : Mem} (h : ∀ e ∈ L, PcV m e.pl.pieces e.pv ∧ e.pl.pieces.length < 1000000) (hM : Ext m M) (hx : x ∈ L ∨ x = e0) : PcV M x.pl.pieces x.pv ∧ x.pl.pieces.length < 1000000 := by
  rcases hx with hx | rfl
  · exact ⟨(h x hx).1.keep hM, (h x hx).2⟩
  · exact ⟨e0_pcs, by show (0 : Nat) < 1000000; omega⟩

set_option maxHeartbeats 4000000 in
theorem Changes_spec {l k : List PE} {f g : Int} {c d : BitVec 32} {pv kv : Value} (hs : RowS m l pv) (hk : RowS m k kv) (ol : OkE l) (ok : OkE k)
    (pl : ∀ e ∈ l, PcV m e.pl.pieces e.pv ∧ e.pl.pieces.length < 1000000) (pk : ∀ e ∈ k, PcV m e.pl.pieces e.pv ∧ e.pl.pieces.length < 1000000) :
    WC R F.diff_Changes [.agg #[.int .i64 f, u32 c, pv], .agg #[.int .i64 g, u32 d, kv]] m fun r m' => ∃ cs : List CH, OwnChs m m' cs r ∧ cs.map CH.u = someL l k ChaP ∧ ∀ c ∈ cs, c.was.pl = (lkE l c.u).pl ∧ c.now.pl = (lkE k c.u).pl := by
  refine WC.of R.diff_Changes rfl ?_
  simp only [RC.diff_Changes, go_sem, Int.reduceBEq, Int.reduceBNe, Int.reduceNeg, reduceCtorEq, Nat.reduceEqDiff, Nat.reduceAdd, Nat.reduceLeDiff, Nat.reduceMul, Nat.reduceSub, Int.reduceToNat, Int.reduceLT, Int.reduceLE, hs.sl.one, hk.sl.one]
  have hx1 : Ext m (m.new (.cells [.int .i64 f, u32 c, pv] (some 3))) := Ext.new
  have hb1 : Bk (m.new (.cells [.int .i64 f, u32 c, pv] (some 3))) m.next [.int .i64 f, u32 c, pv] 3 := Bk.new
  generalize m.new (.cells [.int .i64 f, u32 c, pv] (some 3)) = m1 at hx1 hb1 ⊢
  have hx2 : Ext m1 (m1.new (.cells [.int .i64 g, u32 d, kv] (some 3))) := Ext.new
  have hb2 : Bk (m1.new (.cells [.int .i64 g, u32 d, kv] (some 3))) m1.next [.int .i64 g, u32 d, kv] 3 := Bk.new
  generalize m1.new (.cells [.int .i64 g, u32 d, kv] (some 3)) = m2 at hx2 hb2 ⊢
  have hb12 := hb1.keep hx2
  have hX := hx1.trans hx2
  try simp only [go_sem, Int.reduceBEq, Int.reduceBNe, Int.reduceNeg, reduceCtorEq, Nat.reduceEqDiff, Nat.reduceAdd, Nat.reduceLeDiff, Nat.reduceMul, Nat.reduceSub, Int.reduceToNat, Int.reduceLT, Int.reduceLE, load_w, load_a, store_b, idxS_b, set_blk, new_blk, set_next, new_next, len_s, ldW_c, ldA_c, stB_c, toArr_one, size_one, toList_toArr, size_toArr, List.length_cons, List.length_nil, List.getElem?_cons_zero, List.getElem?_cons_succ, Nat.zero_add, Nat.add_zero, hb12.at_, hb2.at_]
  refine gC.of (places_spec (hs.keep hX) (by have := ol.len; omega) ol.nd) ?_
  rintro _ m4 ⟨q1, rfl, hM1, hq1, hx4⟩
  have hkk : m4.blk m1.next = m2.blk m1.next := hx4.same m1.next hb2.lt
  have hX4 := hX.trans hx4
  have hb14 := hb12.keep hx4
  have hb24 := hb2.keep hx4
  try simp only [go_sem, Int.reduceBEq, Int.reduceBNe, Int.reduceNeg, reduceCtorEq, Nat.reduceEqDiff, Nat.reduceAdd, Nat.reduceLeDiff, Nat.reduceMul, Nat.reduceSub, Int.reduceToNat, Int.reduceLT, Int.reduceLE, load_w, load_a, store_b, idxS_b, set_blk, new_blk, set_next, new_next, len_s, ldW_c, ldA_c, stB_c, toArr_one, size_one, toList_toArr, size_toArr, List.length_cons, List.length_nil, List.getElem?_cons_zero, List.getElem?_cons_succ, Nat.zero_add, Nat.add_zero, watchOk_cons, watchOk_nil, blkOf_ptr, hkk, hb24.at_, hb2.at_]
  refine gC.of (places_spec (hk.keep hX4) (by have := ok.len; omega) ok.nd) ?_
  rintro _ m5 ⟨q2, rfl, hM2, hq2, hx5⟩
  have hX5 := hX4.trans hx5
  have hb15 := hb14.keep hx5
  have hb25 := hb24.keep hx5
  have hM1 := hM1.keep hx5
  try simp only [go_sem, Int.reduceBEq, Int.reduceBNe, Int.reduceNeg, reduceCtorEq, Nat.reduceEqDiff, Nat.reduceAdd, Nat.reduceLeDiff, Nat.reduceMul, Nat.reduceSub, Int.reduceToNat, Int.reduceLT, Int.reduceLE, load_w, load_a, store_b, idxS_b, set_blk, new_blk, set_next, new_next, len_s, ldW_c, ldA_c, stB_c, toArr_one, size_one, toList_toArr, size_toArr, List.length_cons, List.length_nil, List.getElem?_cons_zero, List.getElem?_cons_succ, Nat.zero_add, Nat.add_zero, hb15.at_, hb25.at_]
  refine gC.of (some_spec (P := ChaP) (hs.keep hX5) (hk.keep hX5) ol ok ⟨_, rfl⟩ ?_) ?_
  · intro m3 x y a b hx3 h1 h2
    rw [gV_func]
    exact Changes1_spec (pcs_of pl (hX5.trans hx3) h1).1 (pcs_of pk (hX5.trans hx3) h2).1 (pcs_of pl (hX5.trans hx3) h1).2 (pcs_of pk (hX5.trans hx3) h2).2
  rintro uw m6 ⟨ho, hx6⟩
  have hul := someL_len (P := ChaP) ol ok
  generalize someL l k ChaP = U at ho hul ⊢
  have hM1 := hM1.keep hx6
  have hM2 := hM2.keep hx6
  have hX6 := hX5.trans hx6
  try simp only [go_sem, Int.reduceBEq, Int.reduceBNe, Int.reduceNeg, reduceCtorEq, Nat.reduceEqDiff, Nat.reduceAdd, Nat.reduceLeDiff, Nat.reduceMul, Nat.reduceSub, Int.reduceToNat, Int.reduceLT, Int.reduceLE, load_w, load_a, store_b, idxS_b, set_blk, new_blk, set_next, new_next, len_s, ldW_c, ldA_c, stB_c, toArr_one, size_one, toList_toArr, size_toArr, List.length_cons, List.length_nil, List.getElem?_cons_zero, List.getElem?_cons_succ, Nat.zero_add, Nat.add_zero, ho.sl.len]
  refine WL.of (fun n e m' => ∃ (i : Nat) (cs : List CH) (v : Value), i ≤ U.length ∧ n = U.length - i ∧ e = [(5, .map (some q1)), (6, .map (some q2)), (7, v), (16, uw), (17, .int .i64 U.length), (18, .int .i64 i)] ∧ OwnChs m6 m' cs v ∧ cs.map CH.u = U.take i ∧ ∀ c ∈ cs, c.was.pl = (lkE l c.u).pl ∧ c.now.pl = (lkE k c.u).pl) U.length
    ⟨0, [], _, by omega, by omega, by simp only [go_sem, Int.reduceBEq, Int.reduceBNe, Int.reduceNeg, reduceCtorEq, Nat.reduceEqDiff, Nat.reduceAdd, Nat.reduceLeDiff, Nat.reduceMul, Nat.reduceSub, Int.reduceToNat, Int.reduceLT, Int.reduceLE] <;> rfl, ⟨.nil rfl rfl, fun c hc => by simp at hc, Ext.refl _⟩, by simp, fun c hc => by simp at hc⟩ ?_
  rintro _ _ m7 ⟨i, cs, v, hi, rfl, rfl, hO, hmap, hcs⟩
  have hx7 := hO.ext
  have hcl : cs.length = i := by have := congrArg List.length hmap; simp at this; omega
  have hs7 := ho.sl.keep ho.lt hx7
  have hM1 := hM1.keep hx7
  have hM2 := hM2.keep hx7
  have hX7 := hX6.trans hx7
  simp only [RB.diff_Changes_1, go_sem, Int.reduceBEq, Int.reduceBNe, Int.reduceNeg, reduceCtorEq, Nat.reduceEqDiff, Nat.reduceAdd, Nat.reduceLeDiff, Nat.reduceMul, Nat.reduceSub, Int.reduceToNat, Int.reduceLT, Int.reduceLE, load_w, load_a, store_b, idxS_b, set_blk, new_blk, set_next, new_next, len_s, ldW_c, ldA_c, stB_c, toArr_one, size_one, toList_toArr, size_toArr, List.length_cons, List.length_nil, List.getElem?_cons_zero, List.getElem?_cons_succ, Nat.zero_add, Nat.add_zero]
  have s1 := step1 (show i < 1000000 by omega)
  by_cases g1 : i < U.length
  · have e1 : decide ((i : Int) < (U.length : Int)) = true := decide_eq_true (by omega)
    obtain ⟨bb, oo, a1, a2⟩ := hs7.geti g1
    have lk1 := hM1.look (x := U[i]) (z := e0)
    change aLook .int (.agg #[.int .i64 0, .int .i64 0, .int .i64 0, .slice none 0 0]) false m7 _ _ = some (eP (lkE l U[i])) at lk1
    have lk2 := hM2.look (x := U[i]) (z := e0)
    change aLook .int (.agg #[.int .i64 0, .int .i64 0, .int .i64 0, .slice none 0 0]) false m7 _ _ = some (eP (lkE k U[i])) at lk2
    have b1 : ∀ {n : Nat} {x y z : Value} {w : Bool}, aLook .int z w (m7.bump n) x y = aLook .int z w m7 x y := fun {n x y z w} => rfl
    have hpl := pcs_of pl (hX7.trans (Ext.bump (n := 14))) (lkE_mem (l := l) (u := U[i]))
    have hpk := pcs_of pk (hX7.trans (Ext.bump (n := 14))) (lkE_mem (l := k) (u := U[i]))
    try simp only [go_sem, Int.reduceBEq, Int.reduceBNe, Int.reduceNeg, reduceCtorEq, Nat.reduceEqDiff, Nat.reduceAdd, Nat.reduceLeDiff, Nat.reduceMul, Nat.reduceSub, Int.reduceToNat, Int.reduceLT, Int.reduceLE, load_w, load_a, store_b, idxS_b, set_blk, new_blk, set_next, new_next, len_s, ldW_c, ldA_c, stB_c, toArr_one, size_one, toList_toArr, size_toArr, List.length_cons, List.length_nil, List.getElem?_cons_zero, List.getElem?_cons_succ, Nat.zero_add, Nat.add_zero, e1, a1, a2, lk1, lk2, b1]
    refine gC.of (dclone_spec hpl.1 hpl.2) ?_
    rintro _ m8 ⟨c1, rfl, hc1, pc1, nc1, hx8⟩
    have hq2l := hM2.lt
    have hkk2 : m8.blk q2 = (m7.bump 14).blk q2 := hx8.same q2 (by show q2 < m7.next + 14; omega)
    try simp only [go_sem, Int.reduceBEq, Int.reduceBNe, Int.reduceNeg, reduceCtorEq, Nat.reduceEqDiff, Nat.reduceAdd, Nat.reduceLeDiff, Nat.reduceMul, Nat.reduceSub, Int.reduceToNat, Int.reduceLT, Int.reduceLE, load_w, load_a, store_b, idxS_b, set_blk, new_blk, set_next, new_next, len_s, ldW_c, ldA_c, stB_c, toArr_one, size_one, toList_toArr, size_toArr, List.length_cons, List.length_nil, List.getElem?_cons_zero, List.getElem?_cons_succ, Nat.zero_add, Nat.add_zero, watchOk_cons, watchOk_nil, blkOf_map, hkk2]
    refine gC.of (dclone_spec (hpk.1.keep hx8) hpk.2) ?_
    rintro _ m9 ⟨c2, rfl, hc2, pc2, nc2, hx9⟩
    have hxb : Ext m7 (m7.bump 14) := Ext.bump
    have hx79 := (hxb.trans hx8).trans hx9
    have hbn : (m7.bump 14).next = m7.next + 14 := rfl
    have hn8 := hx8.next
    have hn9 := hx9.next
    obtain ⟨v', m10, f1, f2⟩ := hO.appD (N := 14) (s := 11) (t := 12) (c := ⟨U[i], c1, c2⟩) hx79 (by omega) (by omega) (by omega) (by omega) (pc1.keep hx9) pc2 (fun b hb => by have := nc1 b hb; omega) (fun b hb => by have := nc2 b hb; omega) (by omega)
    have o1 := c1.one
    have o2 := c2.one
    simp only [chV, peV, plV, List.cons_append, List.nil_append] at f1
    simp only [eP, peV, plV]
    try simp only [go_sem, Int.reduceBEq, Int.reduceBNe, Int.reduceNeg, reduceCtorEq, Nat.reduceEqDiff, Nat.reduceAdd, Nat.reduceLeDiff, Nat.reduceMul, Nat.reduceSub, Int.reduceToNat, Int.reduceLT, Int.reduceLE, load_w, load_a, store_b, idxS_b, set_blk, new_blk, set_next, new_next, len_s, ldW_c, ldA_c, stB_c, toArr_one, size_one, toList_toArr, size_toArr, List.length_cons, List.length_nil, List.getElem?_cons_zero, List.getElem?_cons_succ, Nat.zero_add, Nat.add_zero, o1, o2, f1, s1]
    have htk : U.take (i + 1) = U.take i ++ [U[i]] := List.take_succ_eq_append_getElem g1
    refine ⟨U.length - (i + 1), by omega, i + 1, cs ++ [⟨U[i], c1, c2⟩], v', by omega, rfl, rfl, f2, by rw [htk, List.map_append, hmap]; rfl, fun x hx => ?_⟩
    rcases List.mem_append.1 hx with hx | hx
    · exact hcs x hx
    · rw [List.mem_singleton.1 hx]; exact ⟨hc1, hc2⟩
  · have hil : i = U.length := by omega
    subst hil
    rw [List.take_length] at hmap
    have e1 : decide ((U.length : Int) < (U.length : Int)) = false := decide_eq_false (by omega)
    try simp only [go_sem, Int.reduceBEq, Int.reduceBNe, Int.reduceNeg, reduceCtorEq, Nat.reduceEqDiff, Nat.reduceAdd, Nat.reduceLeDiff, Nat.reduceMul, Nat.reduceSub, Int.reduceToNat, Int.reduceLT, Int.reduceLE, load_w, load_a, store_b, idxS_b, set_blk, new_blk, set_next, new_next, len_s, ldW_c, ldA_c, stB_c, toArr_one, size_one, toList_toArr, size_toArr, List.length_cons, List.length_nil, List.getElem?_cons_zero, List.getElem?_cons_succ, Nat.zero_add, Nat.add_zero, e1]
    exact ⟨cs, hO.weak hX6, hmap, hcs⟩
end Go.Am


/- Diff: the reference's Shift. -/
set_option linter.unusedVariables false
set_option linter.unusedSimpArgs false
namespace Go.Am
open Classical
variable {m : Mem}

/-- Ticks of a core that are unlike, up to one. -/
noncomputable def cellN (x y : Pl) (c : Int) (i : Nat) : Nat := (List.range i).countP fun t : Nat => decide (x.pieces.countP (atB c t) ≠ y.pieces.countP (atB c t))
theorem cellN_succ {x y : Pl} {c : Int} {i : Nat} : cellN x y c (i + 1) = cellN x y c i + if x.pieces.countP (atB c i) ≠ y.pieces.countP (atB c i) then 1 else 0 := by
  unfold cellN
  rw [List.range_succ, List.countP_append, List.countP_singleton]
  simp only [decide_eq_true_eq]
theorem cellN_le {x y : Pl} {c : Int} {i : Nat} : cellN x y c i ≤ i := by
  unfold cellN
  have := List.countP_le_length (p := fun t : Nat => decide (x.pieces.countP (atB c t) ≠ y.pieces.countP (atB c t))) (l := List.range i)
  rw [List.length_range] at this; exact this
noncomputable def rowN (x y : Pl) (j : Nat) : Nat := ((List.range j).map fun c : Nat => cellN x y c 64).sum
theorem rowN_succ {x y : Pl} {j : Nat} : rowN x y (j + 1) = rowN x y j + cellN x y j 64 := by
  unfold rowN; rw [List.range_succ, List.map_append, List.sum_append]; simp
theorem rowN_le {x y : Pl} : ∀ j, rowN x y j ≤ 64 * j
  | 0 => Nat.le_refl _
  | j + 1 => by rw [rowN_succ]; have := rowN_le (x := x) (y := y) j; have := cellN_le (x := x) (y := y) (c := (j : Int)) (i := 64); omega

theorem shift1_loop {x y : Pl} {pv qv v2 v3 v6 v7 : Value} {bx b_y n : Nat} {c : Nat} (hc : c < 16) (hn : n < 10000000) (hx : Bk m bx (plV x pv) 4) (hy : Bk m b_y (plV y qv) 4) (px : PcV m x.pieces pv) (py : PcV m y.pieces qv) (lx : x.pieces.length < 1000000) (ly : y.pieces.length < 1000000) :
    WL R [2, 3, 5, 6, 7, 8, 10, 12, 13] RB.ref22_Shift_1 [(2, v2), (3, v3), (5, .int .i64 n), (6, v6), (7, v7), (8, pt bx), (10, pt b_y), (12, .int .i64 c), (13, .int .i64 0)] m fun z e m' => Ext m m' ∧ z = .exit 4 ∧
      ∃ rs, e = (2, v2) :: (3, v3) :: (5, .int .i64 ((n + cellN x y c 64 : Nat) : Int)) :: (6, v6) :: (7, v7) :: (8, pt bx) :: (10, pt b_y) :: (12, .int .i64 c) :: rs := by
  refine WL.of (fun k e m' => ∃ i : Nat, i ≤ 64 ∧ k = 64 - i ∧ Ext m m' ∧ e = [(2, v2), (3, v3), (5, .int .i64 ((n + cellN x y c i : Nat) : Int)), (6, v6), (7, v7), (8, pt bx), (10, pt b_y), (12, .int .i64 c), (13, .int .i64 i)]) 64
    ⟨0, by omega, by omega, Ext.refl _, by simp only [go_sem, Int.reduceBEq, Int.reduceBNe, Int.reduceNeg, reduceCtorEq, Nat.reduceEqDiff, Nat.reduceAdd, Nat.reduceLeDiff, Nat.reduceMul, Nat.reduceSub, Int.reduceToNat, Int.reduceLT, Int.reduceLE]; simp [cellN]⟩ ?_
  rintro _ _ m1 ⟨i, hi, rfl, hx1, rfl⟩
  have hxx := hx.keep hx1
  have hyy := hy.keep hx1
  have hxq := hxx
  have hyq := hyy
  simp only [plV] at hxq hyq
  simp only [RB.ref22_Shift_1, pt, go_sem, Int.reduceBEq, Int.reduceBNe, Int.reduceNeg, reduceCtorEq, Nat.reduceEqDiff, Nat.reduceAdd, Nat.reduceLeDiff, Nat.reduceMul, Nat.reduceSub, Int.reduceToNat, Int.reduceLT, Int.reduceLE, load_w, load_a, store_b, idxS_b, set_blk, new_blk, set_next, new_next, len_s, ldW_c, ldA_c, stB_c, toArr_one, size_one, toList_toArr, size_toArr, List.length_cons, List.length_nil, List.getElem?_cons_zero, List.getElem?_cons_succ, Nat.zero_add, Nat.add_zero, hxq.at_, px.one, py.one]
  have s1 := step1 (show i < 1000000 by omega)
  by_cases g1 : i < 64
  · have e1 : decide ((i : Int) < 64) = true := decide_eq_true (by omega)
    try simp only [go_sem, Int.reduceBEq, Int.reduceBNe, Int.reduceNeg, reduceCtorEq, Nat.reduceEqDiff, Nat.reduceAdd, Nat.reduceLeDiff, Nat.reduceMul, Nat.reduceSub, Int.reduceToNat, Int.reduceLT, Int.reduceLE, load_w, load_a, store_b, idxS_b, set_blk, new_blk, set_next, new_next, len_s, ldW_c, ldA_c, stB_c, toArr_one, size_one, toList_toArr, size_toArr, List.length_cons, List.length_nil, List.getElem?_cons_zero, List.getElem?_cons_succ, Nat.zero_add, Nat.add_zero, e1, hxq.at_, hyq.at_]
    refine gC.of (At_spec (x := x) (c := (c : Int)) (t := (i : Int)) ⟨pv, rfl, px.keep hx1⟩ lx) ?_
    rintro _ m2 ⟨rfl, hx2⟩
    have hyq2 := hyq.keep hx2
    have hk2 : m2.blk b_y = m1.blk b_y := hx2.same b_y hyq.lt
    try simp only [go_sem, Int.reduceBEq, Int.reduceBNe, Int.reduceNeg, reduceCtorEq, Nat.reduceEqDiff, Nat.reduceAdd, Nat.reduceLeDiff, Nat.reduceMul, Nat.reduceSub, Int.reduceToNat, Int.reduceLT, Int.reduceLE, load_w, load_a, store_b, idxS_b, set_blk, new_blk, set_next, new_next, len_s, ldW_c, ldA_c, stB_c, toArr_one, size_one, toList_toArr, size_toArr, List.length_cons, List.length_nil, List.getElem?_cons_zero, List.getElem?_cons_succ, Nat.zero_add, Nat.add_zero, watchOk_cons, watchOk_nil, blkOf_ptr, hk2, hyq2.at_, hyq.at_]
    refine gC.of (At_spec (x := y) (c := (c : Int)) (t := (i : Int)) ⟨qv, rfl, (py.keep hx1).keep hx2⟩ ly) ?_
    rintro _ m3 ⟨rfl, hx3⟩
    have hx13 := (hx1.trans hx2).trans hx3
    have hle := cellN_le (x := x) (y := y) (c := (c : Int)) (i := i)
    by_cases g2 : x.pieces.countP (atB c i) = y.pieces.countP (atB c i)
    · have e2 : (((x.pieces.countP (atB c i) : Nat) : Int) != ((y.pieces.countP (atB c i) : Nat) : Int)) = false := by rw [bne_eq_false_iff_eq, g2]
      have e3 : cellN x y c (i + 1) = cellN x y c i := by rw [cellN_succ, if_neg (by simpa using g2)]; omega
      try simp only [go_sem, Int.reduceBEq, Int.reduceBNe, Int.reduceNeg, reduceCtorEq, Nat.reduceEqDiff, Nat.reduceAdd, Nat.reduceLeDiff, Nat.reduceMul, Nat.reduceSub, Int.reduceToNat, Int.reduceLT, Int.reduceLE, load_w, load_a, store_b, idxS_b, set_blk, new_blk, set_next, new_next, len_s, ldW_c, ldA_c, stB_c, toArr_one, size_one, toList_toArr, size_toArr, List.length_cons, List.length_nil, List.getElem?_cons_zero, List.getElem?_cons_succ, Nat.zero_add, Nat.add_zero, e2, s1]
      exact ⟨64 - (i + 1), by omega, i + 1, by omega, rfl, hx13, by rw [e3]⟩
    · have e2 : (((x.pieces.countP (atB c i) : Nat) : Int) != ((y.pieces.countP (atB c i) : Nat) : Int)) = true := by rw [bne_iff_ne]; exact fun e => g2 (by omega)
      have e3 : cellN x y c (i + 1) = cellN x y c i + 1 := by rw [cellN_succ, if_pos g2]
      have s2 : IntKind.wrap .i64 (((n + cellN x y c i : Nat) : Int) + 1) = ((n + cellN x y c i + 1 : Nat) : Int) := by rw [wrap_i64 (by omega) (by omega)]; rfl
      try simp only [go_sem, Int.reduceBEq, Int.reduceBNe, Int.reduceNeg, reduceCtorEq, Nat.reduceEqDiff, Nat.reduceAdd, Nat.reduceLeDiff, Nat.reduceMul, Nat.reduceSub, Int.reduceToNat, Int.reduceLT, Int.reduceLE, load_w, load_a, store_b, idxS_b, set_blk, new_blk, set_next, new_next, len_s, ldW_c, ldA_c, stB_c, toArr_one, size_one, toList_toArr, size_toArr, List.length_cons, List.length_nil, List.getElem?_cons_zero, List.getElem?_cons_succ, Nat.zero_add, Nat.add_zero, e2, s1, s2]
      exact ⟨64 - (i + 1), by omega, i + 1, by omega, rfl, hx13, by rw [e3]; rfl⟩
  · have e1 : decide ((i : Int) < 64) = false := decide_eq_false (by omega)
    have hi64 : i = 64 := by omega
    subst hi64
    try simp only [go_sem, Int.reduceBEq, Int.reduceBNe, Int.reduceNeg, reduceCtorEq, Nat.reduceEqDiff, Nat.reduceAdd, Nat.reduceLeDiff, Nat.reduceMul, Nat.reduceSub, Int.reduceToNat, Int.reduceLT, Int.reduceLE, load_w, load_a, store_b, idxS_b, set_blk, new_blk, set_next, new_next, len_s, ldW_c, ldA_c, stB_c, toArr_one, size_one, toList_toArr, size_toArr, List.length_cons, List.length_nil, List.getElem?_cons_zero, List.getElem?_cons_succ, Nat.zero_add, Nat.add_zero, e1]
    exact ⟨hx1, _, rfl⟩

theorem shift2_loop {x y : Pl} {pv qv v2 v3 v6 v7 : Value} {bx b_y n : Nat} (hn : n < 9000000) (hx : Bk m bx (plV x pv) 4) (hy : Bk m b_y (plV y qv) 4) (px : PcV m x.pieces pv) (py : PcV m y.pieces qv) (lx : x.pieces.length < 1000000) (ly : y.pieces.length < 1000000) :
    WL R [2, 3, 5, 6, 7, 8, 10, 12] RB.ref22_Shift_2 [(2, v2), (3, v3), (5, .int .i64 n), (6, v6), (7, v7), (8, pt bx), (10, pt b_y), (12, .int .i64 0)] m fun z e m' => Ext m m' ∧ z = .exit 2 ∧
      ∃ rs, e = (2, v2) :: (3, v3) :: (5, .int .i64 ((n + rowN x y 16 : Nat) : Int)) :: (6, v6) :: (7, v7) :: rs := by
  refine WL.of (fun k e m' => ∃ i : Nat, i ≤ 16 ∧ k = 16 - i ∧ Ext m m' ∧ e = [(2, v2), (3, v3), (5, .int .i64 ((n + rowN x y i : Nat) : Int)), (6, v6), (7, v7), (8, pt bx), (10, pt b_y), (12, .int .i64 i)]) 16
    ⟨0, by omega, by omega, Ext.refl _, by simp only [go_sem, Int.reduceBEq, Int.reduceBNe, Int.reduceNeg, reduceCtorEq, Nat.reduceEqDiff, Nat.reduceAdd, Nat.reduceLeDiff, Nat.reduceMul, Nat.reduceSub, Int.reduceToNat, Int.reduceLT, Int.reduceLE]; simp [rowN]⟩ ?_
  rintro _ _ m1 ⟨i, hi, rfl, hx1, rfl⟩
  have hle := rowN_le (x := x) (y := y) i
  simp only [RB.ref22_Shift_2, pt, go_sem, Int.reduceBEq, Int.reduceBNe, Int.reduceNeg, reduceCtorEq, Nat.reduceEqDiff, Nat.reduceAdd, Nat.reduceLeDiff, Nat.reduceMul, Nat.reduceSub, Int.reduceToNat, Int.reduceLT, Int.reduceLE, load_w, load_a, store_b, idxS_b, set_blk, new_blk, set_next, new_next, len_s, ldW_c, ldA_c, stB_c, toArr_one, size_one, toList_toArr, size_toArr, List.length_cons, List.length_nil, List.getElem?_cons_zero, List.getElem?_cons_succ, Nat.zero_add, Nat.add_zero]
  have s1 := step1 (show i < 1000000 by omega)
  by_cases g1 : i < 16
  · have e1 : decide ((i : Int) < 16) = true := decide_eq_true (by omega)
    try simp only [go_sem, Int.reduceBEq, Int.reduceBNe, Int.reduceNeg, reduceCtorEq, Nat.reduceEqDiff, Nat.reduceAdd, Nat.reduceLeDiff, Nat.reduceMul, Nat.reduceSub, Int.reduceToNat, Int.reduceLT, Int.reduceLE, load_w, load_a, store_b, idxS_b, set_blk, new_blk, set_next, new_next, len_s, ldW_c, ldA_c, stB_c, toArr_one, size_one, toList_toArr, size_toArr, List.length_cons, List.length_nil, List.getElem?_cons_zero, List.getElem?_cons_succ, Nat.zero_add, Nat.add_zero, e1]
    refine WL.mono (shift1_loop (n := n + rowN x y i) (c := i) g1 (by omega) (hx.keep hx1) (hy.keep hx1) (px.keep hx1) (py.keep hx1) lx ly) ?_
    rintro _ _ m2 ⟨hx2, rfl, rs, rfl⟩
    try simp only [go_sem, Int.reduceBEq, Int.reduceBNe, Int.reduceNeg, reduceCtorEq, Nat.reduceEqDiff, Nat.reduceAdd, Nat.reduceLeDiff, Nat.reduceMul, Nat.reduceSub, Int.reduceToNat, Int.reduceLT, Int.reduceLE, load_w, load_a, store_b, idxS_b, set_blk, new_blk, set_next, new_next, len_s, ldW_c, ldA_c, stB_c, toArr_one, size_one, toList_toArr, size_toArr, List.length_cons, List.length_nil, List.getElem?_cons_zero, List.getElem?_cons_succ, Nat.zero_add, Nat.add_zero, s1]
    refine ⟨16 - (i + 1), by omega, i + 1, by omega, rfl, hx1.trans hx2, ?_⟩
    rw [rowN_succ, Nat.add_assoc]
  · have e1 : decide ((i : Int) < 16) = false := decide_eq_false (by omega)
    have hi64 : i = 16 := by omega
    subst hi64
    try simp only [go_sem, Int.reduceBEq, Int.reduceBNe, Int.reduceNeg, reduceCtorEq, Nat.reduceEqDiff, Nat.reduceAdd, Nat.reduceLeDiff, Nat.reduceMul, Nat.reduceSub, Int.reduceToNat, Int.reduceLT, Int.reduceLE, load_w, load_a, store_b, idxS_b, set_blk, new_blk, set_next, new_next, len_s, ldW_c, ldA_c, stB_c, toArr_one, size_one, toList_toArr, size_toArr, List.length_cons, List.length_nil, List.getElem?_cons_zero, List.getElem?_cons_succ, Nat.zero_add, Nat.add_zero, e1]
    exact ⟨hx1, _, rfl⟩

noncomputable def shSum (a b : List Pl) (U : List Int) : Nat := (U.map fun u => rowN (findP a u) (findP b u) 16).sum
theorem shSum_le {a b : List Pl} : ∀ {U : List Int}, shSum a b U ≤ 1024 * U.length
  | [] => Nat.le_refl _
  | u :: U => by
    have := shSum_le (a := a) (b := b) (U := U)
    have h := rowN_le (x := findP a u) (y := findP b u) 16
    show rowN _ _ 16 + shSum a b U ≤ _
    rw [List.length_cons]; omega
theorem shSum_take {a b : List Pl} {U : List Int} {i : Nat} (h : i < U.length) : shSum a b (U.take (i + 1)) = shSum a b (U.take i) + rowN (findP a U[i]) (findP b U[i]) 16 := by
  unfold shSum
  rw [List.take_succ_eq_append_getElem h, List.map_append, List.sum_append]; simp

set_option maxHeartbeats 4000000 in
theorem refShift_spec {p q : PlanD} {v w : Value} (hv : PlanV m p v) (hw : PlanV m q w) (hl : PlanL p) (hk : PlanL q) (ha : Asc p.places) (hb : Asc q.places) :
    WC R F.ref22_Shift [v, w] m fun r m' => r = .int .i64 ((shSum p.places q.places (unitsL p.places q.places 1040) : Nat) : Int) ∧ Ext m m' := by
  refine WC.of R.ref22_Shift rfl ?_
  obtain ⟨pv, rfl, hp⟩ := hv
  obtain ⟨qv, rfl, hq⟩ := hw
  simp only [RC.ref22_Shift, planV, go_sem, Int.reduceBEq, Int.reduceBNe, Int.reduceNeg, reduceCtorEq, Nat.reduceEqDiff, Nat.reduceAdd, Nat.reduceLeDiff, Nat.reduceMul, Nat.reduceSub, Int.reduceToNat, Int.reduceLT, Int.reduceLE, hp.one, hq.one]
  have hx1 : Ext m (m.new (.cells [.int .i64 p.frame, u32 p.cores, pv] (some 3))) := Ext.new
  have hb1 : Bk (m.new (.cells [.int .i64 p.frame, u32 p.cores, pv] (some 3))) m.next [.int .i64 p.frame, u32 p.cores, pv] 3 := Bk.new
  generalize m.new (.cells [.int .i64 p.frame, u32 p.cores, pv] (some 3)) = m1 at hx1 hb1 ⊢
  have hx2 : Ext m1 (m1.new (.cells [.int .i64 q.frame, u32 q.cores, qv] (some 3))) := Ext.new
  have hb2 : Bk (m1.new (.cells [.int .i64 q.frame, u32 q.cores, qv] (some 3))) m1.next [.int .i64 q.frame, u32 q.cores, qv] 3 := Bk.new
  generalize m1.new (.cells [.int .i64 q.frame, u32 q.cores, qv] (some 3)) = m3 at hx2 hb2 ⊢
  have hb12 := hb1.keep hx2
  have hX := hx1.trans hx2
  have hp2 := hp.keep hX
  have hq2 := hq.keep hX
  try simp only [go_sem, Int.reduceBEq, Int.reduceBNe, Int.reduceNeg, reduceCtorEq, Nat.reduceEqDiff, Nat.reduceAdd, Nat.reduceLeDiff, Nat.reduceMul, Nat.reduceSub, Int.reduceToNat, Int.reduceLT, Int.reduceLE, load_w, load_a, store_b, idxS_b, set_blk, new_blk, set_next, new_next, len_s, ldW_c, ldA_c, stB_c, toArr_one, size_one, toList_toArr, size_toArr, List.length_cons, List.length_nil, List.getElem?_cons_zero, List.getElem?_cons_succ, Nat.zero_add, Nat.add_zero, hb12.at_, hb2.at_]
  refine gC.of (Units_spec (p := p) (q := q) ⟨pv, rfl, hp2⟩ ⟨qv, rfl, hq2⟩ hl hk ha hb) ?_
  rintro uw m4 ⟨hou, hx4⟩
  have hul := unitsL_len (a := p.places) (b := q.places) 1040
  generalize unitsL p.places q.places 1040 = U at *
  have hsU := hou.sl
  have hltU := hou.lt
  have hb14 := hb12.keep hx4
  have hb24 := hb2.keep hx4
  have hp4 := hp2.keep hx4
  have hq4 := hq2.keep hx4
  try simp only [go_sem, Int.reduceBEq, Int.reduceBNe, Int.reduceNeg, reduceCtorEq, Nat.reduceEqDiff, Nat.reduceAdd, Nat.reduceLeDiff, Nat.reduceMul, Nat.reduceSub, Int.reduceToNat, Int.reduceLT, Int.reduceLE, load_w, load_a, store_b, idxS_b, set_blk, new_blk, set_next, new_next, len_s, ldW_c, ldA_c, stB_c, toArr_one, size_one, toList_toArr, size_toArr, List.length_cons, List.length_nil, List.getElem?_cons_zero, List.getElem?_cons_succ, Nat.zero_add, Nat.add_zero]
  refine WL.of (fun n e m' => ∃ i : Nat, i ≤ U.length ∧ n = U.length - i ∧ e = [(2, pt m.next), (3, pt m1.next), (5, .int .i64 ((shSum p.places q.places (U.take i) : Nat) : Int)), (6, uw), (7, .int .i64 i)] ∧ Ext m4 m') U.length
    ⟨0, by omega, by omega, by simp only [go_sem, Int.reduceBEq, Int.reduceBNe, Int.reduceNeg, reduceCtorEq, Nat.reduceEqDiff, Nat.reduceAdd, Nat.reduceLeDiff, Nat.reduceMul, Nat.reduceSub, Int.reduceToNat, Int.reduceLT, Int.reduceLE] <;> rfl, Ext.refl _⟩ ?_
  rintro _ _ m5 ⟨i, hi, rfl, rfl, hx5⟩
  have hbx := hb14.keep hx5
  have hby := hb24.keep hx5
  have hs5 := hsU.keep hltU hx5
  have hlt5 := hltU.keep hx5
  simp only [RB.ref22_Shift_3, pt, go_sem, Int.reduceBEq, Int.reduceBNe, Int.reduceNeg, reduceCtorEq, Nat.reduceEqDiff, Nat.reduceAdd, Nat.reduceLeDiff, Nat.reduceMul, Nat.reduceSub, Int.reduceToNat, Int.reduceLT, Int.reduceLE, load_w, load_a, store_b, idxS_b, set_blk, new_blk, set_next, new_next, len_s, ldW_c, ldA_c, stB_c, toArr_one, size_one, toList_toArr, size_toArr, List.length_cons, List.length_nil, List.getElem?_cons_zero, List.getElem?_cons_succ, Nat.zero_add, Nat.add_zero, hs5.len]
  have s1 := step1 (show i < 1000000 by omega)
  by_cases g1 : i < U.length
  · have e1 : decide ((i : Int) < (U.length : Int)) = true := decide_eq_true (by omega)
    obtain ⟨bb, oo, a1, a2⟩ := hs5.geti g1
    try simp only [go_sem, Int.reduceBEq, Int.reduceBNe, Int.reduceNeg, reduceCtorEq, Nat.reduceEqDiff, Nat.reduceAdd, Nat.reduceLeDiff, Nat.reduceMul, Nat.reduceSub, Int.reduceToNat, Int.reduceLT, Int.reduceLE, load_w, load_a, store_b, idxS_b, set_blk, new_blk, set_next, new_next, len_s, ldW_c, ldA_c, stB_c, toArr_one, size_one, toList_toArr, size_toArr, List.length_cons, List.length_nil, List.getElem?_cons_zero, List.getElem?_cons_succ, Nat.zero_add, Nat.add_zero, e1, hbx.at_, a1, a2]
    have hbu : Ext m5 (m5.bump 12) := Ext.bump
    refine gC.of (refFindO_spec (p := p) (u := U[i]) ⟨pv, rfl, hp4⟩ (hx5.trans hbu) hl ha) ?_
    rintro _ m6 ⟨xv, rfl, hxv, hx6⟩
    have hn6 : m5.next + 12 ≤ m6.next := hx6.next
    have hx56 := hbu.trans hx6
    have hone := hxv.one
    have hlx : (findP p.places U[i]).pieces.length < 1000000 := findP_pcs hl
    have hly : (findP q.places U[i]).pieces.length < 1000000 := findP_pcs hk
    have hset : ∀ (M : Mem) (k : Nat) (a b : Option AObj), (M.set k a).set k b = M.set k b := fun M k a b => by
      unfold Mem.set; congr 1; funext q; simp only []; split <;> rfl
    simp only [plV]
    try simp only [go_sem, Int.reduceBEq, Int.reduceBNe, Int.reduceNeg, reduceCtorEq, Nat.reduceEqDiff, Nat.reduceAdd, Nat.reduceLeDiff, Nat.reduceMul, Nat.reduceSub, Int.reduceToNat, Int.reduceLT, Int.reduceLE, load_w, load_a, store_b, idxS_b, set_blk, new_blk, set_next, new_next, len_s, ldW_c, ldA_c, stB_c, toArr_one, size_one, toList_toArr, size_toArr, List.length_cons, List.length_nil, List.getElem?_cons_zero, List.getElem?_cons_succ, Nat.zero_add, Nat.add_zero, aExt0, aExt1, hone, hset]
    have hU7 : Upd m6 (m6.set (m5.next + 9) (some (.cells [.int .i64 (findP p.places U[i]).unit, .int .i64 (findP p.places U[i]).share, .int .i64 (findP p.places U[i]).core, xv] (some 4)))) [m5.next + 9] := Upd.set (by simp)
    have hc7 : Bk (m6.set (m5.next + 9) (some (.cells [.int .i64 (findP p.places U[i]).unit, .int .i64 (findP p.places U[i]).share, .int .i64 (findP p.places U[i]).core, xv] (some 4)))) (m5.next + 9) [.int .i64 (findP p.places U[i]).unit, .int .i64 (findP p.places U[i]).share, .int .i64 (findP p.places U[i]).core, xv] 4 := ⟨by simp [Mem.set], by simp [Mem.set]; omega⟩
    have hm7n : (m6.set (m5.next + 9) (some (.cells [.int .i64 (findP p.places U[i]).unit, .int .i64 (findP p.places U[i]).share, .int .i64 (findP p.places U[i]).core, xv] (some 4)))).next = m6.next := rfl
    generalize m6.set (m5.next + 9) (some (.cells [.int .i64 (findP p.places U[i]).unit, .int .i64 (findP p.places U[i]).share, .int .i64 (findP p.places U[i]).core, xv] (some 4))) = m7 at hU7 hc7 hm7n ⊢
    have hx57 : Ext m5 m7 := hU7.ext_of hx56 (by simp)
    have hby7 := hby.keep hx57
    have hs7 := hs5.keep hlt5 hx57
    obtain ⟨b2, o2, c1, c2⟩ := hs7.geti g1
    rw [a1] at c1
    cases c1
    have hbu7 : Ext m7 (m7.bump 12) := Ext.bump
    try simp only [go_sem, Int.reduceBEq, Int.reduceBNe, Int.reduceNeg, reduceCtorEq, Nat.reduceEqDiff, Nat.reduceAdd, Nat.reduceLeDiff, Nat.reduceMul, Nat.reduceSub, Int.reduceToNat, Int.reduceLT, Int.reduceLE, load_w, load_a, store_b, idxS_b, set_blk, new_blk, set_next, new_next, len_s, ldW_c, ldA_c, stB_c, toArr_one, size_one, toList_toArr, size_toArr, List.length_cons, List.length_nil, List.getElem?_cons_zero, List.getElem?_cons_succ, Nat.zero_add, Nat.add_zero, a1, c2, hby7.at_]
    refine gC.of (refFindO_spec (p := q) (u := U[i]) ⟨qv, rfl, hq4⟩ ((hx5.trans hx57).trans hbu7) hk hb) ?_
    rintro _ m8 ⟨yv, rfl, hyv, hx8⟩
    have hn78 : m7.next + 12 ≤ m8.next := hx8.next
    have hn67 := hU7.next
    have hx78 := hbu7.trans hx8
    have hone2 := hyv.one
    have hc8 := hc7.keep hx78
    simp only [plV]
    try simp only [go_sem, Int.reduceBEq, Int.reduceBNe, Int.reduceNeg, reduceCtorEq, Nat.reduceEqDiff, Nat.reduceAdd, Nat.reduceLeDiff, Nat.reduceMul, Nat.reduceSub, Int.reduceToNat, Int.reduceLT, Int.reduceLE, load_w, load_a, store_b, idxS_b, set_blk, new_blk, set_next, new_next, len_s, ldW_c, ldA_c, stB_c, toArr_one, size_one, toList_toArr, size_toArr, List.length_cons, List.length_nil, List.getElem?_cons_zero, List.getElem?_cons_succ, Nat.zero_add, Nat.add_zero, aExt0, aExt1, hone2, hset]
    have hU9 : Upd m8 (m8.set (m6.next + 9) (some (.cells [.int .i64 (findP q.places U[i]).unit, .int .i64 (findP q.places U[i]).share, .int .i64 (findP q.places U[i]).core, yv] (some 4)))) [m6.next + 9] := Upd.set (by simp)
    have hcy9 : Bk (m8.set (m6.next + 9) (some (.cells [.int .i64 (findP q.places U[i]).unit, .int .i64 (findP q.places U[i]).share, .int .i64 (findP q.places U[i]).core, yv] (some 4)))) (m6.next + 9) [.int .i64 (findP q.places U[i]).unit, .int .i64 (findP q.places U[i]).share, .int .i64 (findP q.places U[i]).core, yv] 4 := ⟨by simp [Mem.set], by simp [Mem.set]; omega⟩
    generalize m8.set (m6.next + 9) (some (.cells [.int .i64 (findP q.places U[i]).unit, .int .i64 (findP q.places U[i]).share, .int .i64 (findP q.places U[i]).core, yv] (some 4))) = m9 at hU9 hcy9 ⊢
    have hcx9 := hc8.upd hU9 (by simp; omega)
    have hx59 : Ext m5 m9 := hU9.ext_of (hx57.trans hx78) (by simp; omega)
    have hyv9 : PcV m9 (findP q.places U[i]).pieces yv := hyv.keep (hx5.trans hx59)
    have hxv9 : PcV m9 (findP p.places U[i]).pieces xv := hxv.keep (hx5.trans hx59)
    have hsl := shSum_le (a := p.places) (b := q.places) (U := U.take i)
    rw [List.length_take] at hsl
    have hst := shSum_take (a := p.places) (b := q.places) g1
    refine WL.mono (shift2_loop (n := shSum p.places q.places (U.take i)) (x := findP p.places U[i]) (y := findP q.places U[i]) (by omega) hcx9 hcy9 hxv9 hyv9 hlx hly) ?_
    rintro _ _ m10 ⟨hx10, rfl, rs, rfl⟩
    try simp only [go_sem, Int.reduceBEq, Int.reduceBNe, Int.reduceNeg, reduceCtorEq, Nat.reduceEqDiff, Nat.reduceAdd, Nat.reduceLeDiff, Nat.reduceMul, Nat.reduceSub, Int.reduceToNat, Int.reduceLT, Int.reduceLE, load_w, load_a, store_b, idxS_b, set_blk, new_blk, set_next, new_next, len_s, ldW_c, ldA_c, stB_c, toArr_one, size_one, toList_toArr, size_toArr, List.length_cons, List.length_nil, List.getElem?_cons_zero, List.getElem?_cons_succ, Nat.zero_add, Nat.add_zero, s1]
    exact ⟨U.length - (i + 1), by omega, i + 1, by omega, rfl, by rw [hst], (hx5.trans hx59).trans hx10⟩
  · have e1 : decide ((i : Int) < (U.length : Int)) = false := decide_eq_false (by omega)
    have hi2 : i = U.length := by omega
    subst hi2
    rw [List.take_length]
    try simp only [go_sem, Int.reduceBEq, Int.reduceBNe, Int.reduceNeg, reduceCtorEq, Nat.reduceEqDiff, Nat.reduceAdd, Nat.reduceLeDiff, Nat.reduceMul, Nat.reduceSub, Int.reduceToNat, Int.reduceLT, Int.reduceLE, load_w, load_a, store_b, idxS_b, set_blk, new_blk, set_next, new_next, len_s, ldW_c, ldA_c, stB_c, toArr_one, size_one, toList_toArr, size_toArr, List.length_cons, List.length_nil, List.getElem?_cons_zero, List.getElem?_cons_succ, Nat.zero_add, Nat.add_zero, e1]
    first | exact (hX.trans hx4).trans hx5 | exact ⟨rfl, (hX.trans hx4).trans hx5⟩
end Go.Am


/- The i-th number of a word. -/
set_option linter.unusedVariables false
set_option linter.unusedSimpArgs false
namespace Go.Am

variable {m : Mem}

/-- How many numbers of a word are below j. -/
def rank (x : BitVec 64) (j : Nat) : Nat := (tks x j).length

theorem rank_succ {x : BitVec 64} {j : Nat} : rank x (j + 1) = rank x j + (if x.getLsbD j then 1 else 0) := by
  unfold rank
  rw [tks_succ]
  split <;> simp

theorem rank_mono {x : BitVec 64} {i j : Nat} (h : i ≤ j) : rank x i ≤ rank x j := by
  induction j with
  | zero => have : i = 0 := by omega
            subst this; exact Nat.le_refl _
  | succ j ih =>
    by_cases e : i = j + 1
    · subst e; exact Nat.le_refl _
    · have := ih (by omega); rw [rank_succ]; omega

theorem rank_lt {x : BitVec 64} {i j : Nat} (h : i < j) (hb : x.getLsbD i = true) : rank x i < rank x j := by
  have h1 := rank_mono (x := x) (i := i + 1) (j := j) h
  rw [rank_succ, if_pos hb] at h1
  omega

theorem tks_get {x : BitVec 64} : ∀ {n i : Nat} (h : i < (tks x n).length), (tks x n)[i] < n ∧ x.getLsbD (tks x n)[i] = true ∧ rank x (tks x n)[i] = i := by
  intro n
  induction n with
  | zero => intro i h; simp [tks] at h
  | succ n ih =>
    intro i h
    by_cases hb : x.getLsbD n = true
    · have e : tks x (n + 1) = tks x n ++ [n] := by rw [tks_succ, if_pos hb]
      by_cases hi : i < (tks x n).length
      · obtain ⟨h1, h2, h3⟩ := ih hi
        have e2 : (tks x (n + 1))[i] = (tks x n)[i] := by simp only [e]; rw [List.getElem_append_left hi]
        rw [e2]; exact ⟨by omega, h2, h3⟩
      · have hil : i = (tks x n).length := by rw [e] at h; simp at h; omega
        have e2 : (tks x (n + 1))[i] = n := by simp only [e]; rw [List.getElem_append_right (by omega)]; simp
        rw [e2]; exact ⟨by omega, hb, by unfold rank; exact hil.symm⟩
    · have e : tks x (n + 1) = tks x n := by rw [tks_succ, if_neg hb]; simp
      have hi : i < (tks x n).length := by rw [e] at h; exact h
      obtain ⟨h1, h2, h3⟩ := ih hi
      have e2 : (tks x (n + 1))[i] = (tks x n)[i] := by simp only [e]
      rw [e2]; exact ⟨by omega, h2, h3⟩

theorem rank_inj {x : BitVec 64} {i j : Nat} (hi : x.getLsbD i = true) (hj : x.getLsbD j = true) (h : rank x i = rank x j) : i = j := by
  rcases Nat.lt_trichotomy i j with h1 | h1 | h1
  · have := rank_lt h1 hi; omega
  · exact h1
  · have := rank_lt h1 hj; omega

theorem tks_at {x : BitVec 64} {n i j : Nat} (h : i < (tks x n).length) (hj : x.getLsbD j = true) (hr : rank x j = i) : (tks x n)[i] = j := by
  obtain ⟨_, h2, h3⟩ := tks_get h
  exact rank_inj h2 hj (by omega)

/-- The lowest k numbers: by their ranks. -/
def isLow (x w : BitVec 64) (k : Int) : Prop := ∀ j, j < 64 → w.getLsbD j = (x.getLsbD j && decide ((rank x j : Int) < k))

theorem isLow_uniq {x w w' : BitVec 64} {k : Int} (h : isLow x w k) (h' : isLow x w' k) : w = w' := word_ext fun j hj => by rw [h j hj, h' j hj]

theorem low_step {x w : BitVec 64} {i : Nat} (h : i < (tks x 64).length) (hw : isLow x w i) : isLow x (withB w ((tks x 64)[i] : Nat)) (i + 1 : Nat) := by
  obtain ⟨h1, h2, h3⟩ := tks_get h
  intro j hj
  rw [withB_bit hj, hw j hj, Bool.eq_iff_iff]
  simp only [Bool.or_eq_true, Bool.and_eq_true, decide_eq_true_eq]
  constructor
  · rintro (⟨g1, g2⟩ | g)
    · exact ⟨g1, by omega⟩
    · have : j = (tks x 64)[i] := by omega
      subst this; exact ⟨h2, by omega⟩
  · rintro ⟨g1, g2⟩
    by_cases g3 : rank x j = i
    · right; rw [tks_at h g1 g3]
    · left; exact ⟨g1, by omega⟩

/-- How many bits there are. -/
theorem popN_rank : ∀ (n : Nat) (x : BitVec 64), n ≤ 64 → popN n x.toNat = rank x n := by
  intro n
  induction n with
  | zero => intro x _; rfl
  | succ n ih =>
    intro x hn
    rw [popN_add n 1, ih x (by omega), rank_succ]
    have : x.getLsbD n = x.toNat.testBit n := rfl
    rw [this, Nat.testBit_eq_decide_div_mod_eq]
    simp only [popN, Nat.add_zero, decide_eq_true_eq]
    split <;> omega

theorem pop_rank (x : BitVec 64) : pop x = rank x 64 := popN_rank 64 x (Nat.le_refl _)
theorem rank_le (x : BitVec 64) (n : Nat) : rank x n ≤ n := tks_len
end Go.Am


/- Diff: Shift. -/
set_option linter.unusedVariables false
set_option linter.unusedSimpArgs false
namespace Go.Am
open Classical
variable {m : Mem}

theorem pop_le64 (w : BitVec 64) : pop w ≤ 64 := popN_le 64 _
def chN (x y : Pl) (j : Nat) : Nat := ((List.range j).map fun c : Nat => pop (wnP x.pieces c ^^^ wnP y.pieces c)).sum
theorem chN_succ {x y : Pl} {j : Nat} : chN x y (j + 1) = chN x y j + pop (wnP x.pieces j ^^^ wnP y.pieces j) := by
  unfold chN; rw [List.range_succ, List.map_append, List.sum_append]; simp
theorem chN_le {x y : Pl} : ∀ j, chN x y j ≤ 64 * j
  | 0 => Nat.le_refl _
  | j + 1 => by rw [chN_succ]; have := chN_le (x := x) (y := y) j; have := pop_le64 (wnP x.pieces j ^^^ wnP y.pieces j); omega

theorem pshift1_loop {c : CH} {b n : Nat} {v11 v12 v13 : Value} (hn : n < 10000000) (hb : Bk m b (chV c) 9) (px : PcV m c.was.pl.pieces c.was.pv) (py : PcV m c.now.pl.pieces c.now.pv) (lx : c.was.pl.pieces.length < 1000000) (ly : c.now.pl.pieces.length < 1000000) :
    WL R [5, 7, 11, 12, 13, 17] RB.diff_Shift_1 [(5, .int .i64 n), (7, pt b), (11, v11), (12, v12), (13, v13), (17, .int .i64 0)] m fun z e m' => Ext m m' ∧ z = .exit 2 ∧
      ∃ rs, e = (5, .int .i64 ((n + chN c.was.pl c.now.pl 16 : Nat) : Int)) :: (7, pt b) :: (11, v11) :: (12, v12) :: (13, v13) :: rs := by
  refine WL.of (fun k e m' => ∃ i : Nat, i ≤ 16 ∧ k = 16 - i ∧ Ext m m' ∧ e = [(5, .int .i64 ((n + chN c.was.pl c.now.pl i : Nat) : Int)), (7, pt b), (11, v11), (12, v12), (13, v13), (17, .int .i64 i)]) 16
    ⟨0, by omega, by omega, Ext.refl _, by simp only [go_sem, Int.reduceBEq, Int.reduceBNe, Int.reduceNeg, reduceCtorEq, Nat.reduceEqDiff, Nat.reduceAdd, Nat.reduceLeDiff, Nat.reduceMul, Nat.reduceSub, Int.reduceToNat, Int.reduceLT, Int.reduceLE]; simp [chN]⟩ ?_
  rintro _ _ m1 ⟨i, hi, rfl, hx1, rfl⟩
  have hbb := hb.keep hx1
  simp only [chV, peV, plV, List.cons_append, List.nil_append] at hbb
  have px1 := px.keep hx1
  have py1 := py.keep hx1
  have o1 := c.was.one
  have o2 := c.now.one
  have hle := chN_le (x := c.was.pl) (y := c.now.pl) i
  simp only [RB.diff_Shift_1, pt, go_sem, Int.reduceBEq, Int.reduceBNe, Int.reduceNeg, reduceCtorEq, Nat.reduceEqDiff, Nat.reduceAdd, Nat.reduceLeDiff, Nat.reduceMul, Nat.reduceSub, Int.reduceToNat, Int.reduceLT, Int.reduceLE, load_w, load_a, store_b, idxS_b, set_blk, new_blk, set_next, new_next, len_s, ldW_c, ldA_c, stB_c, toArr_one, size_one, toList_toArr, size_toArr, List.length_cons, List.length_nil, List.getElem?_cons_zero, List.getElem?_cons_succ, Nat.zero_add, Nat.add_zero]
  have s1 := step1 (show i < 1000000 by omega)
  by_cases g1 : i < 16
  · have e1 : decide ((i : Int) < 16) = true := decide_eq_true (by omega)
    try simp only [go_sem, Int.reduceBEq, Int.reduceBNe, Int.reduceNeg, reduceCtorEq, Nat.reduceEqDiff, Nat.reduceAdd, Nat.reduceLeDiff, Nat.reduceMul, Nat.reduceSub, Int.reduceToNat, Int.reduceLT, Int.reduceLE, load_w, load_a, store_b, idxS_b, set_blk, new_blk, set_next, new_next, len_s, ldW_c, ldA_c, stB_c, toArr_one, size_one, toList_toArr, size_toArr, List.length_cons, List.length_nil, List.getElem?_cons_zero, List.getElem?_cons_succ, Nat.zero_add, Nat.add_zero, e1, hbb.at_, List.drop_succ_cons, List.drop_zero, List.take_succ_cons, List.take_zero]
    refine gC.of (window_spec (e := c.was) (c := (i : Int)) px1 lx) ?_
    rintro _ m2 ⟨rfl, hx2⟩
    have hk2 : m2.blk b = m1.blk b := hx2.same b hbb.lt
    try simp only [go_sem, Int.reduceBEq, Int.reduceBNe, Int.reduceNeg, reduceCtorEq, Nat.reduceEqDiff, Nat.reduceAdd, Nat.reduceLeDiff, Nat.reduceMul, Nat.reduceSub, Int.reduceToNat, Int.reduceLT, Int.reduceLE, load_w, load_a, store_b, idxS_b, set_blk, new_blk, set_next, new_next, len_s, ldW_c, ldA_c, stB_c, toArr_one, size_one, toList_toArr, size_toArr, List.length_cons, List.length_nil, List.getElem?_cons_zero, List.getElem?_cons_succ, Nat.zero_add, Nat.add_zero, watchOk_cons, watchOk_nil, blkOf_ptr, hk2]
    refine gC.of (window_spec (e := c.now) (c := (i : Int)) (py1.keep hx2) ly) ?_
    rintro _ m3 ⟨rfl, hx3⟩
    try simp only [go_sem, Int.reduceBEq, Int.reduceBNe, Int.reduceNeg, reduceCtorEq, Nat.reduceEqDiff, Nat.reduceAdd, Nat.reduceLeDiff, Nat.reduceMul, Nat.reduceSub, Int.reduceToNat, Int.reduceLT, Int.reduceLE, load_w, load_a, store_b, idxS_b, set_blk, new_blk, set_next, new_next, len_s, ldW_c, ldA_c, stB_c, toArr_one, size_one, toList_toArr, size_toArr, List.length_cons, List.length_nil, List.getElem?_cons_zero, List.getElem?_cons_succ, Nat.zero_add, Nat.add_zero]
    refine gC.of mask_Count_spec ?_
    rintro _ m_ ⟨rfl, hm_⟩
    replace hm_ := hm_.symm
    subst hm_
    simp only [go_sem, Int.reduceBEq, Int.reduceBNe, Int.reduceNeg, reduceCtorEq, Nat.reduceEqDiff, Nat.reduceAdd, Nat.reduceLeDiff, Nat.reduceMul, Nat.reduceSub, Int.reduceToNat, Int.reduceLT, Int.reduceLE]
    have hp := pop_le64 (wnP c.was.pl.pieces i ^^^ wnP c.now.pl.pieces i)
    have s2 : IntKind.wrap .i64 (((n + chN c.was.pl c.now.pl i : Nat) : Int) + ((pop (wnP c.was.pl.pieces i ^^^ wnP c.now.pl.pieces i) : Nat) : Int)) = ((n + chN c.was.pl c.now.pl (i + 1) : Nat) : Int) := by
      rw [chN_succ, wrap_i64 (by omega) (by omega)]; omega
    try simp only [go_sem, Int.reduceBEq, Int.reduceBNe, Int.reduceNeg, reduceCtorEq, Nat.reduceEqDiff, Nat.reduceAdd, Nat.reduceLeDiff, Nat.reduceMul, Nat.reduceSub, Int.reduceToNat, Int.reduceLT, Int.reduceLE, load_w, load_a, store_b, idxS_b, set_blk, new_blk, set_next, new_next, len_s, ldW_c, ldA_c, stB_c, toArr_one, size_one, toList_toArr, size_toArr, List.length_cons, List.length_nil, List.getElem?_cons_zero, List.getElem?_cons_succ, Nat.zero_add, Nat.add_zero, s1, s2]
    exact ⟨16 - (i + 1), by omega, i + 1, by omega, rfl, (hx1.trans hx2).trans hx3, rfl⟩
  · have e1 : decide ((i : Int) < 16) = false := decide_eq_false (by omega)
    have hi64 : i = 16 := by omega
    subst hi64
    try simp only [go_sem, Int.reduceBEq, Int.reduceBNe, Int.reduceNeg, reduceCtorEq, Nat.reduceEqDiff, Nat.reduceAdd, Nat.reduceLeDiff, Nat.reduceMul, Nat.reduceSub, Int.reduceToNat, Int.reduceLT, Int.reduceLE, load_w, load_a, store_b, idxS_b, set_blk, new_blk, set_next, new_next, len_s, ldW_c, ldA_c, stB_c, toArr_one, size_one, toList_toArr, size_toArr, List.length_cons, List.length_nil, List.getElem?_cons_zero, List.getElem?_cons_succ, Nat.zero_add, Nat.add_zero, e1]
    exact ⟨hx1, _, rfl⟩

def chSum (l : List CH) : Nat := (l.map fun c => chN c.was.pl c.now.pl 16).sum
theorem chSum_le : ∀ {l : List CH}, chSum l ≤ 1024 * l.length
  | [] => Nat.le_refl _
  | c :: l => by
    have := chSum_le (l := l)
    have h := chN_le (x := c.was.pl) (y := c.now.pl) 16
    show chN _ _ 16 + chSum l ≤ _
    rw [List.length_cons]; omega
theorem chSum_take {l : List CH} {i : Nat} (h : i < l.length) : chSum (l.take (i + 1)) = chSum (l.take i) + chN l[i].was.pl l[i].now.pl 16 := by
  unfold chSum
  rw [List.take_succ_eq_append_getElem h, List.map_append, List.sum_append]; simp

set_option maxHeartbeats 4000000 in
theorem Shift_spec {l k : List PE} {f g : Int} {c d : BitVec 32} {pv kv : Value} (hs : RowS m l pv) (hk : RowS m k kv) (ol : OkE l) (ok : OkE k)
    (pl : ∀ e ∈ l, PcV m e.pl.pieces e.pv ∧ e.pl.pieces.length < 1000000) (pk : ∀ e ∈ k, PcV m e.pl.pieces e.pv ∧ e.pl.pieces.length < 1000000) :
    WC R F.diff_Shift [.agg #[.int .i64 f, u32 c, pv], .agg #[.int .i64 g, u32 d, kv]] m fun r m' => r = .int .i64 ((((someL l k ChaP).map fun u => chN (lkE l u).pl (lkE k u).pl 16).sum : Nat) : Int) ∧ Ext m m' := by
  refine WC.of R.diff_Shift rfl ?_
  simp only [RC.diff_Shift, go_sem, Int.reduceBEq, Int.reduceBNe, Int.reduceNeg, reduceCtorEq, Nat.reduceEqDiff, Nat.reduceAdd, Nat.reduceLeDiff, Nat.reduceMul, Nat.reduceSub, Int.reduceToNat, Int.reduceLT, Int.reduceLE, hs.sl.one, hk.sl.one]
  have hx1 : Ext m (m.new (.cells [.int .i64 f, u32 c, pv] (some 3))) := Ext.new
  have hb1 : Bk (m.new (.cells [.int .i64 f, u32 c, pv] (some 3))) m.next [.int .i64 f, u32 c, pv] 3 := Bk.new
  generalize m.new (.cells [.int .i64 f, u32 c, pv] (some 3)) = m1 at hx1 hb1 ⊢
  have hx2 : Ext m1 (m1.new (.cells [.int .i64 g, u32 d, kv] (some 3))) := Ext.new
  have hb2 : Bk (m1.new (.cells [.int .i64 g, u32 d, kv] (some 3))) m1.next [.int .i64 g, u32 d, kv] 3 := Bk.new
  generalize m1.new (.cells [.int .i64 g, u32 d, kv] (some 3)) = m2 at hx2 hb2 ⊢
  have hb12 := hb1.keep hx2
  have hX := hx1.trans hx2
  try simp only [go_sem, Int.reduceBEq, Int.reduceBNe, Int.reduceNeg, reduceCtorEq, Nat.reduceEqDiff, Nat.reduceAdd, Nat.reduceLeDiff, Nat.reduceMul, Nat.reduceSub, Int.reduceToNat, Int.reduceLT, Int.reduceLE, load_w, load_a, store_b, idxS_b, set_blk, new_blk, set_next, new_next, len_s, ldW_c, ldA_c, stB_c, toArr_one, size_one, toList_toArr, size_toArr, List.length_cons, List.length_nil, List.getElem?_cons_zero, List.getElem?_cons_succ, Nat.zero_add, Nat.add_zero, hb12.at_, hb2.at_]
  have len1 : ∀ u, (lkE l u).pl.pieces.length < 1000000 := fun u => (pcs_of pl (Ext.refl _) lkE_mem).2
  have len2 : ∀ u, (lkE k u).pl.pieces.length < 1000000 := fun u => (pcs_of pk (Ext.refl _) lkE_mem).2
  refine gC.of (Changes_spec (hs.keep hX) (hk.keep hX) ol ok (fun e he => ⟨(pl e he).1.keep hX, (pl e he).2⟩) (fun e he => ⟨(pk e he).1.keep hX, (pk e he).2⟩)) ?_
  rintro w m3 ⟨cs, hO, hmap, hcs⟩
  have hul := someL_len (P := ChaP) ol ok
  rw [← hmap, List.length_map] at hul
  have hsum : ((someL l k ChaP).map fun u => chN (lkE l u).pl (lkE k u).pl 16) = cs.map fun c => chN c.was.pl c.now.pl 16 := by
    rw [← hmap, List.map_map]
    refine List.map_congr_left fun c hc => ?_
    rw [(hcs c hc).1, (hcs c hc).2]; rfl
  rw [hsum]
  have hs3 := hO.own.sl
  try simp only [go_sem, Int.reduceBEq, Int.reduceBNe, Int.reduceNeg, reduceCtorEq, Nat.reduceEqDiff, Nat.reduceAdd, Nat.reduceLeDiff, Nat.reduceMul, Nat.reduceSub, Int.reduceToNat, Int.reduceLT, Int.reduceLE, load_w, load_a, store_b, idxS_b, set_blk, new_blk, set_next, new_next, len_s, ldW_c, ldA_c, stB_c, toArr_one, size_one, toList_toArr, size_toArr, List.length_cons, List.length_nil, List.getElem?_cons_zero, List.getElem?_cons_succ, Nat.zero_add, Nat.add_zero, hs3.len]
  refine WL.of (fun n e m' => ∃ i : Nat, i ≤ cs.length ∧ n = cs.length - i ∧ e = [(5, .int .i64 ((chSum (cs.take i) : Nat) : Int)), (11, w), (12, .int .i64 cs.length), (13, .int .i64 i)] ∧ Ext m3 m') cs.length
    ⟨0, by omega, by omega, by simp only [go_sem, Int.reduceBEq, Int.reduceBNe, Int.reduceNeg, reduceCtorEq, Nat.reduceEqDiff, Nat.reduceAdd, Nat.reduceLeDiff, Nat.reduceMul, Nat.reduceSub, Int.reduceToNat, Int.reduceLT, Int.reduceLE] <;> rfl, Ext.refl _⟩ ?_
  rintro _ _ m5 ⟨i, hi, rfl, rfl, hx5⟩
  have hO5 := hO.keep hx5
  simp only [RB.diff_Shift_2, pt, go_sem, Int.reduceBEq, Int.reduceBNe, Int.reduceNeg, reduceCtorEq, Nat.reduceEqDiff, Nat.reduceAdd, Nat.reduceLeDiff, Nat.reduceMul, Nat.reduceSub, Int.reduceToNat, Int.reduceLT, Int.reduceLE, load_w, load_a, store_b, idxS_b, set_blk, new_blk, set_next, new_next, len_s, ldW_c, ldA_c, stB_c, toArr_one, size_one, toList_toArr, size_toArr, List.length_cons, List.length_nil, List.getElem?_cons_zero, List.getElem?_cons_succ, Nat.zero_add, Nat.add_zero]
  have s1 := step1 (show i < 1000000 by omega)
  by_cases g1 : i < cs.length
  · have e1 : decide ((i : Int) < (cs.length : Int)) = true := decide_eq_true (by omega)
    obtain ⟨bb, oo, a1, a2, a3, a4⟩ := hO5.own.sl.elem chV_len (k := .i64) g1
    have hmem := List.getElem_mem g1
    obtain ⟨⟨p1, -⟩, p2, -⟩ := hO5.el _ hmem
    have l1 := len1 cs[i].u
    have l2 := len2 cs[i].u
    rw [← (hcs _ hmem).1] at l1
    rw [← (hcs _ hmem).2] at l2
    have hst := chSum_take g1
    have hsl := chSum_le (l := cs.take i)
    rw [List.length_take] at hsl
    generalize cs[i] = x at *
    have o1 := x.was.one
    have o2 := x.now.one
    simp only [chV, peV, plV, List.cons_append, List.nil_append] at a2
    try simp only [go_sem, Int.reduceBEq, Int.reduceBNe, Int.reduceNeg, reduceCtorEq, Nat.reduceEqDiff, Nat.reduceAdd, Nat.reduceLeDiff, Nat.reduceMul, Nat.reduceSub, Int.reduceToNat, Int.reduceLT, Int.reduceLE, load_w, load_a, store_b, idxS_b, set_blk, new_blk, set_next, new_next, len_s, ldW_c, ldA_c, stB_c, toArr_one, size_one, toList_toArr, size_toArr, List.length_cons, List.length_nil, List.getElem?_cons_zero, List.getElem?_cons_succ, Nat.zero_add, Nat.add_zero, e1, a1, a2, o1, o2]
    have hx6 : Ext m5 (m5.new (.cells (chV x) (some 9))) := Ext.new
    have hb6 : Bk (m5.new (.cells (chV x) (some 9))) m5.next (chV x) 9 := Bk.new
    simp only [chV, peV, plV, List.cons_append, List.nil_append] at hx6 hb6
    generalize m5.new (.cells [.int .i64 x.u, .int .i64 x.was.pl.unit, .int .i64 x.was.pl.share, .int .i64 x.was.pl.core, x.was.pv, .int .i64 x.now.pl.unit, .int .i64 x.now.pl.share, .int .i64 x.now.pl.core, x.now.pv] (some 9)) = m6 at hx6 hb6 ⊢
    refine WL.mono (pshift1_loop (n := chSum (cs.take i)) (c := x) (by omega) hb6 (p1.keep hx6) (p2.keep hx6) l1 l2) ?_
    rintro _ _ m7 ⟨hx7, rfl, rs, rfl⟩
    try simp only [go_sem, Int.reduceBEq, Int.reduceBNe, Int.reduceNeg, reduceCtorEq, Nat.reduceEqDiff, Nat.reduceAdd, Nat.reduceLeDiff, Nat.reduceMul, Nat.reduceSub, Int.reduceToNat, Int.reduceLT, Int.reduceLE, load_w, load_a, store_b, idxS_b, set_blk, new_blk, set_next, new_next, len_s, ldW_c, ldA_c, stB_c, toArr_one, size_one, toList_toArr, size_toArr, List.length_cons, List.length_nil, List.getElem?_cons_zero, List.getElem?_cons_succ, Nat.zero_add, Nat.add_zero, s1]
    exact ⟨cs.length - (i + 1), by omega, i + 1, by omega, rfl, by rw [hst], (hx5.trans hx6).trans hx7⟩
  · have e1 : decide ((i : Int) < (cs.length : Int)) = false := decide_eq_false (by omega)
    have hi2 : i = cs.length := by omega
    subst hi2
    rw [List.take_length]
    try simp only [go_sem, Int.reduceBEq, Int.reduceBNe, Int.reduceNeg, reduceCtorEq, Nat.reduceEqDiff, Nat.reduceAdd, Nat.reduceLeDiff, Nat.reduceMul, Nat.reduceSub, Int.reduceToNat, Int.reduceLT, Int.reduceLE, load_w, load_a, store_b, idxS_b, set_blk, new_blk, set_next, new_next, len_s, ldW_c, ldA_c, stB_c, toArr_one, size_one, toList_toArr, size_toArr, List.length_cons, List.length_nil, List.getElem?_cons_zero, List.getElem?_cons_succ, Nat.zero_add, Nat.add_zero, e1]
    have hX5 := (hX.trans hO.ext).trans hx5
    first | exact hX5 | exact ⟨rfl, hX5⟩

/-! ### the two ways to count are one -/

theorem wnP_at {ps : List Pc} (h : PcsR ps) {c : Nat} {t : Nat} (ht : t < 64) : ps.countP (atB c t) = if (wnP ps c).getLsbD t then 1 else 0 := by
  unfold wnP
  cases hf : ps.find? fun q => q.1 == (c : Int) with
  | none =>
    rw [List.find?_eq_none] at hf
    rw [count_none (by omega) fun q hq e => hf q hq (by simpa using e)]
    simp
  | some q =>
    have hq := List.mem_of_find?_eq_some hf
    have hqc := List.find?_some hf
    simp only [beq_iff_eq] at hqc
    have := count_mem h.asc (fun q hq => (h.core q hq).1) hq ht
    rw [hqc] at this
    exact this
theorem rank_count (w : BitVec 64) (n : Nat) : rank w n = (List.range n).countP fun t => w.getLsbD t := by
  unfold rank tks; rw [List.countP_eq_length_filter]
theorem cell_pop {x y : Pl} (hx : PcsR x.pieces) (hy : PcsR y.pieces) {c : Nat} : cellN x y c 64 = pop (wnP x.pieces c ^^^ wnP y.pieces c) := by
  rw [pop_rank, rank_count]
  unfold cellN
  refine List.countP_congr fun t ht => ?_
  have ht := List.mem_range.1 ht
  rw [wnP_at hx ht, wnP_at hy ht, BitVec.getLsbD_xor]
  cases (wnP x.pieces c).getLsbD t <;> cases (wnP y.pieces c).getLsbD t <;> simp
theorem row_ch {x y : Pl} (hx : PcsR x.pieces) (hy : PcsR y.pieces) (j : Nat) : rowN x y j = chN x y j := by
  unfold rowN chN
  have e : (fun c : Nat => cellN x y c 64) = fun c : Nat => pop (wnP x.pieces c ^^^ wnP y.pieces c) := by
    funext c
    exact cell_pop hx hy
  rw [e]
theorem cell_self {x : Pl} {c : Int} : cellN x x c 64 = 0 := by
  unfold cellN
  rw [List.countP_eq_zero]
  intro t _ h
  simp only [ne_eq, not_true_eq_false, decide_false] at h
  cases h
theorem row_self {x : Pl} : ∀ j, rowN x x j = 0
  | 0 => rfl
  | j + 1 => by rw [rowN_succ, row_self j, cell_self]

theorem sum_filter {α : Type} {f : α → Nat} {p : α → Bool} : ∀ {l : List α}, (∀ x ∈ l, p x = false → f x = 0) → ((l.filter p).map f).sum = (l.map f).sum
  | [], _ => rfl
  | a :: l, h => by
    have ih := sum_filter (f := f) (p := p) (l := l) fun x hx => h x (by simp [hx])
    cases hp : p a with
    | true => rw [List.filter_cons_of_pos hp, List.map_cons, List.sum_cons, List.map_cons, List.sum_cons, ih]
    | false => rw [List.filter_cons_of_neg (by simp [hp]), List.map_cons, List.sum_cons, ih, h a (by simp) hp, Nat.zero_add]

theorem findP_pcsR {p : PlanD} (h : RightP p) {u : Int} : PcsR (findP p.places u).pieces := by
  unfold findP
  split
  · exact h.pcsR (List.getElem_mem _)
  · exact ⟨by simp [find0], by simp [find0], by simp [find0]⟩

theorem changes_eq {l k : List PE} {a b : List Pl} (hl : l.map PE.pl = a) (hk : k.map PE.pl = b) (aa : Asc a) (ab : Asc b) (ha : ∀ x ∈ a, 1 ≤ x.unit ∧ x.unit ≤ 1040) (hb : ∀ x ∈ b, 1 ≤ x.unit ∧ x.unit ≤ 1040) :
    someL l k ChaP = listL (isU4 a b) a b := by
  unfold someL listL
  rw [all_units hl hk ha hb]
  refine List.filter_congr fun u hu => ?_
  unfold ChaP isU4
  rw [lkE_eq hl aa, lkE_eq hk ab]
  by_cases h : findP a u = findP b u <;> simp [h]

theorem shift_eq {l k : List PE} {a b : PlanD} (hl : l.map PE.pl = a.places) (hk : k.map PE.pl = b.places) (ra : RightP a) (rb : RightP b) :
    ((someL l k ChaP).map fun u => chN (lkE l u).pl (lkE k u).pl 16).sum = shSum a.places b.places (unitsL a.places b.places 1040) := by
  rw [changes_eq hl hk ra.ascD rb.ascD ra.units rb.units]
  have e : (fun u => chN (lkE l u).pl (lkE k u).pl 16) = fun u => rowN (findP a.places u) (findP b.places u) 16 := by
    funext u
    rw [lkE_eq hl ra.ascD, lkE_eq hk rb.ascD, row_ch (findP_pcsR ra) (findP_pcsR rb) 16]
  rw [e]
  unfold listL shSum
  refine sum_filter fun u hu h => ?_
  unfold isU4 at h
  have h : findP a.places u = findP b.places u := by simpa using h
  rw [h]; exact row_self 16
end Go.Am
