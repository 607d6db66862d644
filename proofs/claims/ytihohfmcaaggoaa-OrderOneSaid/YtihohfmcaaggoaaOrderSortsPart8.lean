/- Parts of the proofs of the statements of this seat: OrderX2, WOrderSorts, WOrderOne. No conditions. -/
import Derived.Test.YtihohfmcaaggoaaOrderSortsPart7
set_option linter.unusedVariables false
set_option linter.unusedSimpArgs false

/- OrderSorts and OrderOne. -/
set_option linter.unusedVariables false
set_option linter.unusedSimpArgs false
namespace Go.Am
variable {m : Mem}

theorem refSort {l : List Sp} {v : Value} (hs : Sl m 2 l.length (l.flatMap spV) v) (hb : SlLt m v) (hl : l.length < 10000) :
    WC R F.ref08_Sort [v] m fun r m' => Own m m' 2 (sortO l).length ((sortO l).flatMap spV) r ∧ Ext m m' := by
  refine WC.of R.ref08_Sort rfl ?_
  simp only [RC.ref08_Sort, go_sem, Int.reduceBEq, Int.reduceBNe, Int.reduceNeg, reduceCtorEq, Nat.reduceEqDiff, Nat.reduceAdd, Nat.reduceLeDiff, Nat.reduceMul, Nat.reduceSub, Int.reduceToNat, Int.reduceLT, Int.reduceLE]
  have hx1 : Ext m (m.new (.cells [] (some 2))) := Ext.new
  have ho : Own m (m.new (.cells [] (some 2))) 2 (sortO (l.take 0)).length ((sortO (l.take 0)).flatMap spV) (.slice (some ⟨m.next, 0, none⟩) 0 0) :=
    .at (all := []) (Nat.le_refl _) (by simp [Mem.new]) (Nat.le_refl _) (by simp [Mem.new]) (by simp) (by simp [sortO]) rfl
  generalize m.new (.cells [] (some 2)) = m1 at hx1 ho ⊢
  refine WL.of (fun n e m' => ∃ (i : Nat) (rv : Value), i ≤ l.length ∧ n = l.length - i ∧ e = [(0, v), (3, rv), (4, .int .i64 i)] ∧ Own m m' 2 (sortO (l.take i)).length ((sortO (l.take i)).flatMap spV) rv ∧ Ext m m') l.length
    ⟨0, _, by omega, by omega, by simp only [go_sem, Int.reduceBEq, Int.reduceBNe, Int.reduceNeg, reduceCtorEq, Nat.reduceEqDiff, Nat.reduceAdd, Nat.reduceLeDiff, Nat.reduceMul, Nat.reduceSub, Int.reduceToNat, Int.reduceLT, Int.reduceLE] <;> rfl, ho, hx1⟩ ?_
  rintro _ _ m2 ⟨i, rv, hi, rfl, rfl, hO, hx⟩
  have hs2 := hs.keep hb hx
  simp only [RB.ref08_Sort_1, go_sem, Int.reduceBEq, Int.reduceBNe, Int.reduceNeg, reduceCtorEq, Nat.reduceEqDiff, Nat.reduceAdd, Nat.reduceLeDiff, Nat.reduceMul, Nat.reduceSub, Int.reduceToNat, Int.reduceLT, Int.reduceLE, hs2.len]
  by_cases g1 : i < l.length
  · have e1 : decide ((i : Int) < (l.length : Int)) = true := decide_eq_true (by omega)
    have s1 := step1 (show i < 1000000 by omega)
    obtain ⟨bw, ow, q1, q2, -, -⟩ := hs2.elem spV_len (k := .i64) (i := i) g1
    simp only [go_sem, Int.reduceBEq, Int.reduceBNe, Int.reduceNeg, reduceCtorEq, Nat.reduceEqDiff, Nat.reduceAdd, Nat.reduceLeDiff, Nat.reduceMul, Nat.reduceSub, Int.reduceToNat, Int.reduceLT, Int.reduceLE, e1, q1, q2]
    refine gC.of (refPut hO.sl hO.lt hO.cut (by rw [sortO_len, List.length_take]; omega)) ?_
    rintro rv' m3 ⟨hO3, hx3⟩
    simp only [go_sem, Int.reduceBEq, Int.reduceBNe, Int.reduceNeg, reduceCtorEq, Nat.reduceEqDiff, Nat.reduceAdd, Nat.reduceLeDiff, Nat.reduceMul, Nat.reduceSub, Int.reduceToNat, Int.reduceLT, Int.reduceLE, s1]
    refine ⟨l.length - (i + 1), by omega, i + 1, rv', by omega, rfl, rfl, ?_, hx.trans hx3⟩
    rw [List.take_succ_eq_append_getElem g1, sortO_snoc]
    exact hO3.weak hx
  · have : i = l.length := by omega
    subst this
    have e1 : decide ((l.length : Int) < (l.length : Int)) = false := decide_eq_false (by omega)
    rw [List.take_length] at hO
    simp only [go_sem, Int.reduceBEq, Int.reduceBNe, Int.reduceNeg, reduceCtorEq, Nat.reduceEqDiff, Nat.reduceAdd, Nat.reduceLeDiff, Nat.reduceMul, Nat.reduceSub, Int.reduceToNat, Int.reduceLT, Int.reduceLE, e1]
    exact ⟨hO, hx⟩

def woO (x : Int) (l : List Sp) : List Sp := l.filter fun w => !(w.1 == x)
theorem woO_snoc {x : Int} {l : List Sp} {w : Sp} : woO x (l ++ [w]) = if w.1 = x then woO x l else woO x l ++ [w] := by
  unfold woO
  rw [List.filter_append]
  by_cases h : w.1 = x
  · rw [if_pos h]; simp [h]
  · rw [if_neg h]; simp [h]

theorem refWithout {l : List Sp} {v : Value} {x : Int} (hs : Sl m 2 l.length (l.flatMap spV) v) (hb : SlLt m v) (hl : l.length < 10000) :
    WC R F.ref08_Without [v, .int .i64 x] m fun r m' => Own m m' 2 (woO x l).length ((woO x l).flatMap spV) r ∧ Ext m m' := by
  refine WC.of R.ref08_Without rfl ?_
  simp only [RC.ref08_Without, go_sem, Int.reduceBEq, Int.reduceBNe, Int.reduceNeg, reduceCtorEq, Nat.reduceEqDiff, Nat.reduceAdd, Nat.reduceLeDiff, Nat.reduceMul, Nat.reduceSub, Int.reduceToNat, Int.reduceLT, Int.reduceLE]
  have hx1 : Ext m (m.new (.cells [] (some 2))) := Ext.new
  have ho : Own m (m.new (.cells [] (some 2))) 2 (woO x (l.take 0)).length ((woO x (l.take 0)).flatMap spV) (.slice (some ⟨m.next, 0, none⟩) 0 0) :=
    .at (all := []) (Nat.le_refl _) (by simp [Mem.new]) (Nat.le_refl _) (by simp [Mem.new]) (by simp) (by simp [woO]) rfl
  generalize m.new (.cells [] (some 2)) = m1 at hx1 ho ⊢
  refine WL.of (fun n e m' => ∃ (i : Nat) (rv : Value), i ≤ l.length ∧ n = l.length - i ∧ e = [(0, v), (1, .int .i64 x), (5, rv), (6, .int .i64 i)] ∧ Own m m' 2 (woO x (l.take i)).length ((woO x (l.take i)).flatMap spV) rv ∧ Ext m m') l.length
    ⟨0, _, by omega, by omega, by simp only [go_sem, Int.reduceBEq, Int.reduceBNe, Int.reduceNeg, reduceCtorEq, Nat.reduceEqDiff, Nat.reduceAdd, Nat.reduceLeDiff, Nat.reduceMul, Nat.reduceSub, Int.reduceToNat, Int.reduceLT, Int.reduceLE] <;> rfl, ho, hx1⟩ ?_
  rintro _ _ m2 ⟨i, rv, hi, rfl, rfl, hO, hx⟩
  have hs2 := hs.keep hb hx
  simp only [RB.ref08_Without_1, go_sem, Int.reduceBEq, Int.reduceBNe, Int.reduceNeg, reduceCtorEq, Nat.reduceEqDiff, Nat.reduceAdd, Nat.reduceLeDiff, Nat.reduceMul, Nat.reduceSub, Int.reduceToNat, Int.reduceLT, Int.reduceLE, hs2.len]
  by_cases g1 : i < l.length
  · have e1 : decide ((i : Int) < (l.length : Int)) = true := decide_eq_true (by omega)
    have s1 := step1 (show i < 1000000 by omega)
    obtain ⟨bw, ow, q1, q2, q3, -⟩ := hs2.elem spV_len (k := .i64) (i := i) g1
    have ru : aLoad false 1 m2 (.pointer (some ⟨bw, ow + 0, none⟩)) = some (.int .i64 l[i].1) := q3 0 (by omega)
    have htk : l.take (i + 1) = l.take i ++ [l[i]] := List.take_succ_eq_append_getElem g1
    have hwl : (woO x (l.take i)).length ≤ i := by
      have := List.length_filter_le (fun w : Sp => !(w.1 == x)) (l.take i)
      rw [List.length_take] at this
      unfold woO; omega
    simp only [go_sem, Int.reduceBEq, Int.reduceBNe, Int.reduceNeg, reduceCtorEq, Nat.reduceEqDiff, Nat.reduceAdd, Nat.reduceLeDiff, Nat.reduceMul, Nat.reduceSub, Int.reduceToNat, Int.reduceLT, Int.reduceLE, e1, q1, ru]
    by_cases g2 : l[i].1 = x
    · have e2 : (l[i].1 != x) = false := by rw [g2]; exact bne_self_eq_false _
      simp only [go_sem, Int.reduceBEq, Int.reduceBNe, Int.reduceNeg, reduceCtorEq, Nat.reduceEqDiff, Nat.reduceAdd, Nat.reduceLeDiff, Nat.reduceMul, Nat.reduceSub, Int.reduceToNat, Int.reduceLT, Int.reduceLE, e2, s1]
      exact ⟨l.length - (i + 1), by omega, i + 1, rv, by omega, rfl, rfl, by rw [htk, woO_snoc, if_pos g2]; exact hO, hx⟩
    · have e2 : (l[i].1 != x) = true := by rw [bne_iff_ne]; exact g2
      obtain ⟨v', m3, f1, f2, f3⟩ := hO.app (by_ := 16) (es := spV l[i]) hx (by omega) rfl rfl (by omega) (by omega)
      have pad : spV l[i] ++ List.drop (spV l[i]).length [Value.int IntKind.i64 0, Value.int IntKind.i64 0] = spV l[i] := rfl
      simp only [go_sem, Int.reduceBEq, Int.reduceBNe, Int.reduceNeg, reduceCtorEq, Nat.reduceEqDiff, Nat.reduceAdd, Nat.reduceLeDiff, Nat.reduceMul, Nat.reduceSub, Int.reduceToNat, Int.reduceLT, Int.reduceLE, e2, q1, q2]
      refine ⟨rfl, rfl, ?_⟩
      rw [pad, f1]
      simp only [go_sem, Int.reduceBEq, Int.reduceBNe, Int.reduceNeg, reduceCtorEq, Nat.reduceEqDiff, Nat.reduceAdd, Nat.reduceLeDiff, Nat.reduceMul, Nat.reduceSub, Int.reduceToNat, Int.reduceLT, Int.reduceLE, s1]
      refine ⟨l.length - (i + 1), by omega, i + 1, v', by omega, rfl, rfl, ?_, f3⟩
      rw [htk, woO_snoc, if_neg g2, List.length_append, List.flatMap_append]
      simpa using f2
  · have : i = l.length := by omega
    subst this
    have e1 : decide ((l.length : Int) < (l.length : Int)) = false := decide_eq_false (by omega)
    rw [List.take_length] at hO
    simp only [go_sem, Int.reduceBEq, Int.reduceBNe, Int.reduceNeg, reduceCtorEq, Nat.reduceEqDiff, Nat.reduceAdd, Nat.reduceLeDiff, Nat.reduceMul, Nat.reduceSub, Int.reduceToNat, Int.reduceLT, Int.reduceLE, e1]
    exact ⟨hO, hx⟩
theorem refSame8 {l k : List Sp} {v w : Value} (hs : Sl m 2 l.length (l.flatMap spV) v) (ht : Sl m 2 k.length (k.flatMap spV) w) (hl : l.length < 1000000) (hk : k.length < 1000000) :
    WC R F.ref08_Same [v, w] m fun r m' => r = .bool (decide (l = k)) ∧ m' = m := by
  refine WC.of R.ref08_Same rfl ?_
  simp only [RC.ref08_Same, go_sem, Int.reduceBEq, Int.reduceBNe, Int.reduceNeg, reduceCtorEq, Nat.reduceEqDiff, Nat.reduceAdd, Nat.reduceLeDiff, Nat.reduceMul, Nat.reduceSub, Int.reduceToNat, Int.reduceLT, Int.reduceLE, hs.len, ht.len]
  refine gT.of (fun h => ?_) (fun h => ?_)
  · simp only [bne_iff_ne] at h
    have : l ≠ k := by rintro rfl; exact h rfl
    try simp only [go_sem, Int.reduceBEq, Int.reduceBNe, Int.reduceNeg, reduceCtorEq, Nat.reduceEqDiff, Nat.reduceAdd, Nat.reduceLeDiff, Nat.reduceMul, Nat.reduceSub, Int.reduceToNat, Int.reduceLT, Int.reduceLE, load_w, load_a, store_b, idxS_b, set_blk, new_blk, set_next, new_next, len_s, ldW_c, ldA_c, stB_c, toArr_one, size_one, toList_toArr, size_toArr, List.length_cons, List.length_nil, List.getElem?_cons_zero, List.getElem?_cons_succ, Nat.zero_add, Nat.add_zero]
    simp [this]
  · have hlk' : (l.length : Int) = k.length := by simpa using h
    have hlk : l.length = k.length := by omega
    try simp only [go_sem, Int.reduceBEq, Int.reduceBNe, Int.reduceNeg, reduceCtorEq, Nat.reduceEqDiff, Nat.reduceAdd, Nat.reduceLeDiff, Nat.reduceMul, Nat.reduceSub, Int.reduceToNat, Int.reduceLT, Int.reduceLE, load_w, load_a, store_b, idxS_b, set_blk, new_blk, set_next, new_next, len_s, ldW_c, ldA_c, stB_c, toArr_one, size_one, toList_toArr, size_toArr, List.length_cons, List.length_nil, List.getElem?_cons_zero, List.getElem?_cons_succ, Nat.zero_add, Nat.add_zero, h]
    refine WL.of (fun n e m' => ∃ i : Nat, i ≤ l.length ∧ n = l.length - i ∧ e = [(0, v), (1, w), (5, .int .i64 i)] ∧ (∀ j (h1 : j < l.length) (h2 : j < k.length), j < i → l[j] = k[j]) ∧ m' = m) l.length
      ⟨0, by omega, by omega, by simp only [go_sem, Int.reduceBEq, Int.reduceBNe, Int.reduceNeg, reduceCtorEq, Nat.reduceEqDiff, Nat.reduceAdd, Nat.reduceLeDiff, Nat.reduceMul, Nat.reduceSub, Int.reduceToNat, Int.reduceLT, Int.reduceLE] <;> rfl, fun _ _ _ h => by omega, rfl⟩ ?_
    rintro _ _ _ ⟨i, hi, rfl, rfl, hj, rfl⟩
    simp only [RB.ref08_Same_1, go_sem, Int.reduceBEq, Int.reduceBNe, Int.reduceNeg, reduceCtorEq, Nat.reduceEqDiff, Nat.reduceAdd, Nat.reduceLeDiff, Nat.reduceMul, Nat.reduceSub, Int.reduceToNat, Int.reduceLT, Int.reduceLE, hs.len]
    refine gT.of (fun h2 => ?_) (fun h2 => ?_)
    · simp only [decide_eq_true_eq] at h2
      have hil : i < l.length := by omega
      have hik : i < k.length := by omega
      obtain ⟨b, o, a1, a2, a3, a4⟩ := hs.elem spV_len (k := .i64) hil
      obtain ⟨b', o', c1, c2, c3, c4⟩ := ht.elem spV_len (k := .i64) hik
      simp only [spV] at a2 c2
      try simp only [go_sem, Int.reduceBEq, Int.reduceBNe, Int.reduceNeg, reduceCtorEq, Nat.reduceEqDiff, Nat.reduceAdd, Nat.reduceLeDiff, Nat.reduceMul, Nat.reduceSub, Int.reduceToNat, Int.reduceLT, Int.reduceLE, load_w, load_a, store_b, idxS_b, set_blk, new_blk, set_next, new_next, len_s, ldW_c, ldA_c, stB_c, toArr_one, size_one, toList_toArr, size_toArr, List.length_cons, List.length_nil, List.getElem?_cons_zero, List.getElem?_cons_succ, Nat.zero_add, Nat.add_zero, a1, a2, c1, c2]
      refine gT.of (fun h3 => ?_) (fun h3 => ?_)
      · have : l ≠ k := by rintro rfl; simp at h3
        try simp only [go_sem, Int.reduceBEq, Int.reduceBNe, Int.reduceNeg, reduceCtorEq, Nat.reduceEqDiff, Nat.reduceAdd, Nat.reduceLeDiff, Nat.reduceMul, Nat.reduceSub, Int.reduceToNat, Int.reduceLT, Int.reduceLE, load_w, load_a, store_b, idxS_b, set_blk, new_blk, set_next, new_next, len_s, ldW_c, ldA_c, stB_c, toArr_one, size_one, toList_toArr, size_toArr, List.length_cons, List.length_nil, List.getElem?_cons_zero, List.getElem?_cons_succ, Nat.zero_add, Nat.add_zero]
        simp [this]
      · have h4 : l[i] = k[i] := by
          apply Prod.ext <;> simp at h3 <;> omega
        try simp only [go_sem, Int.reduceBEq, Int.reduceBNe, Int.reduceNeg, reduceCtorEq, Nat.reduceEqDiff, Nat.reduceAdd, Nat.reduceLeDiff, Nat.reduceMul, Nat.reduceSub, Int.reduceToNat, Int.reduceLT, Int.reduceLE, load_w, load_a, store_b, idxS_b, set_blk, new_blk, set_next, new_next, len_s, ldW_c, ldA_c, stB_c, toArr_one, size_one, toList_toArr, size_toArr, List.length_cons, List.length_nil, List.getElem?_cons_zero, List.getElem?_cons_succ, Nat.zero_add, Nat.add_zero, h3, step1 (show i < 1000000 by omega)]
        refine ⟨l.length - (i + 1), by omega, i + 1, by omega, rfl, rfl, ?_⟩
        intro j g1 g2 g3
        by_cases e : j = i
        · subst e; exact h4
        · exact hj j g1 g2 (by omega)
    · simp only [decide_eq_false_iff_not] at h2
      have : l = k := List.ext_getElem hlk fun j g1 g2 => hj j g1 g2 (by omega)
      try simp only [go_sem, Int.reduceBEq, Int.reduceBNe, Int.reduceNeg, reduceCtorEq, Nat.reduceEqDiff, Nat.reduceAdd, Nat.reduceLeDiff, Nat.reduceMul, Nat.reduceSub, Int.reduceToNat, Int.reduceLT, Int.reduceLE, load_w, load_a, store_b, idxS_b, set_blk, new_blk, set_next, new_next, len_s, ldW_c, ldA_c, stB_c, toArr_one, size_one, toList_toArr, size_toArr, List.length_cons, List.length_nil, List.getElem?_cons_zero, List.getElem?_cons_succ, Nat.zero_add, Nat.add_zero]
      simp [this]


theorem cutTo' {l : List Sp} {v : Value} {N : Nat} (hs : Sl m 2 l.length (l.flatMap spV) v) (hb : SlLt m v) (hc : Cut 2 m v) :
    ∃ v', aSub 2 m v none (some (.int .i64 ((min l.length N : Nat) : Int))) none = some v' ∧ Sl m 2 (l.take N).length ((l.take N).flatMap spV) v' ∧ SlLt m v' ∧ (l.take N).length ≤ N ∧ Cut 2 m v' := by
  obtain ⟨v', a1, a2, a3, a4⟩ := hs.to hc (k := .i64) (i := min l.length N) (by omega)
  have h : (l.take N).length = min l.length N := by rw [List.length_take]; omega
  have h2 : (l.flatMap spV).take (min l.length N * 2) = (l.take N).flatMap spV := by
    have e : l.flatMap spV = (l.take N).flatMap spV ++ (l.drop N).flatMap spV := by rw [← List.flatMap_append, List.take_append_drop]
    rw [e, List.take_left' (by rw [flat_len spV_len, h])]
  rw [h2, ← h] at a2
  exact ⟨v', a1, a2, a3 hb, by rw [h]; omega, a4⟩

set_option maxHeartbeats 2000000 in
theorem OrderSorts_spec {l : List Sp} {v : Value} {w : Sp} {x : Int} (hs : Sl m 2 l.length (l.flatMap spV) v) (hb : SlLt m v) (hc : Cut 2 m v) :
    WC R F.law08_OrderSorts [v, .agg (spV w).toArray, .int .i64 x] m fun r _ => r = .bool true := by
  refine WC.of R.law08_OrderSorts rfl ?_
  simp only [RC.law08_OrderSorts, spV, go_sem, Int.reduceBEq, Int.reduceBNe, Int.reduceNeg, reduceCtorEq, Nat.reduceEqDiff, Nat.reduceAdd, Nat.reduceLeDiff, Nat.reduceMul, Nat.reduceSub, Int.reduceToNat, Int.reduceLT, Int.reduceLE]
  have hx1 : Ext m (m.new (.cells [.int .i64 w.1, .int .i64 w.2] (some 2))) := Ext.new
  have hb1 : Bk (m.new (.cells [.int .i64 w.1, .int .i64 w.2] (some 2))) m.next [.int .i64 w.1, .int .i64 w.2] 2 := Bk.new
  generalize m.new (.cells [.int .i64 w.1, .int .i64 w.2] (some 2)) = m1 at hx1 hb1 ⊢
  have e : (if (60 : Int) < l.length then (60 : Int) else l.length) = ((min l.length 60 : Nat) : Int) := by
    split <;> omega
  have hs1 := hs.keep hb hx1
  obtain ⟨v', a1, hs', hb', hL, -⟩ := cutTo' (N := 60) hs1 (hb.keep hx1) (hc.keep hb hx1)
  generalize l.take 60 = l' at hs' hL
  simp only [go_sem, Int.reduceBEq, Int.reduceBNe, Int.reduceNeg, reduceCtorEq, Nat.reduceEqDiff, Nat.reduceAdd, Nat.reduceLeDiff, Nat.reduceMul, Nat.reduceSub, Int.reduceToNat, Int.reduceLT, Int.reduceLE, hs1.len, e, a1]
  refine gC.of (refSort hs' hb' (by omega)) ?_
  rintro sv m2 ⟨hS, hx2⟩
  have hsl := sortO_len (l := l')
  have hs2 := hs'.keep hb' hx2
  have hl2 := hb'.keep hx2
  have hb2 := hb1.keep hx2
  simp only [go_sem, Int.reduceBEq, Int.reduceBNe, Int.reduceNeg, reduceCtorEq, Nat.reduceEqDiff, Nat.reduceAdd, Nat.reduceLeDiff, Nat.reduceMul, Nat.reduceSub, Int.reduceToNat, Int.reduceLT, Int.reduceLE]
  refine gC.of (orSort hs2 hl2 (by omega)) ?_
  rintro v1 m3 ⟨hO3, hx3⟩
  have hS3 := hS.keep hx3
  simp only [go_sem, Int.reduceBEq, Int.reduceBNe, Int.reduceNeg, reduceCtorEq, Nat.reduceEqDiff, Nat.reduceAdd, Nat.reduceLeDiff, Nat.reduceMul, Nat.reduceSub, Int.reduceToNat, Int.reduceLT, Int.reduceLE]
  refine gC.of (refSame8 hO3.sl hS3.sl (by omega) (by omega)) ?_
  rintro _ m' ⟨rfl, hm⟩
  replace hm := hm.symm
  subst hm
  have e1 : decide (sortO l' = sortO l') = true := decide_eq_true rfl
  have hb3 := hb2.keep hx3
  simp only [go_sem, Int.reduceBEq, Int.reduceBNe, Int.reduceNeg, reduceCtorEq, Nat.reduceEqDiff, Nat.reduceAdd, Nat.reduceLeDiff, Nat.reduceMul, Nat.reduceSub, Int.reduceToNat, Int.reduceLT, Int.reduceLE, e1, st2 hb3]
  refine gC.of (orPut (w := w) hS3.sl hS3.lt (by omega)) ?_
  rintro v2 m4 ⟨hO4, hx4⟩
  have hk4 := hx4.same m.next hb3.lt
  have hS4 := hS3.keep hx4
  simp only [go_sem, Int.reduceBEq, Int.reduceBNe, Int.reduceNeg, reduceCtorEq, Nat.reduceEqDiff, Nat.reduceAdd, Nat.reduceLeDiff, Nat.reduceMul, Nat.reduceSub, Int.reduceToNat, Int.reduceLT, Int.reduceLE, watchOk_cons, watchOk_nil, blkOf_ptr, hk4]
  refine gC.of (refPut (w := w) hS4.sl hS4.lt hS4.cut (by omega)) ?_
  rintro v3 m5 ⟨hO5, hx5⟩
  have hp := putO_len (L := sortO l') (w := w)
  simp only [go_sem, Int.reduceBEq, Int.reduceBNe, Int.reduceNeg, reduceCtorEq, Nat.reduceEqDiff, Nat.reduceAdd, Nat.reduceLeDiff, Nat.reduceMul, Nat.reduceSub, Int.reduceToNat, Int.reduceLT, Int.reduceLE]
  refine gC.of (refSame8 (hO4.keep hx5).sl hO5.sl (by omega) (by omega)) ?_
  rintro _ m' ⟨rfl, hm⟩
  replace hm := hm.symm
  subst hm
  have e2 : decide (putO (sortO l') w = putO (sortO l') w) = true := decide_eq_true rfl
  have hx25 := (hx3.trans hx4).trans hx5
  have hwl := List.length_filter_le (fun w : Sp => !(w.1 == x)) l'
  simp only [go_sem, Int.reduceBEq, Int.reduceBNe, Int.reduceNeg, reduceCtorEq, Nat.reduceEqDiff, Nat.reduceAdd, Nat.reduceLeDiff, Nat.reduceMul, Nat.reduceSub, Int.reduceToNat, Int.reduceLT, Int.reduceLE, e2]
  refine gC.of (orWithout (x := x) (hs2.keep hl2 hx25) (hl2.keep hx25) (by omega)) ?_
  rintro v4 m6 ⟨hO6, hx6⟩
  simp only [go_sem, Int.reduceBEq, Int.reduceBNe, Int.reduceNeg, reduceCtorEq, Nat.reduceEqDiff, Nat.reduceAdd, Nat.reduceLeDiff, Nat.reduceMul, Nat.reduceSub, Int.reduceToNat, Int.reduceLT, Int.reduceLE]
  refine gC.of (refWithout (x := x) (hs2.keep hl2 (hx25.trans hx6)) (hl2.keep (hx25.trans hx6)) (by omega)) ?_
  rintro v5 m7 ⟨hO7, hx7⟩
  simp only [go_sem, Int.reduceBEq, Int.reduceBNe, Int.reduceNeg, reduceCtorEq, Nat.reduceEqDiff, Nat.reduceAdd, Nat.reduceLeDiff, Nat.reduceMul, Nat.reduceSub, Int.reduceToNat, Int.reduceLT, Int.reduceLE]
  refine gC.of (refSame8 (hO6.keep hx7).sl hO7.sl (by omega) (by unfold woO; omega)) ?_
  rintro _ m' ⟨rfl, hm⟩
  replace hm := hm.symm
  subst hm
  have e3 : decide ((l'.filter fun w => !(w.1 == x)) = woO x l') = true := decide_eq_true rfl
  simp only [go_sem, Int.reduceBEq, Int.reduceBNe, Int.reduceNeg, reduceCtorEq, Nat.reduceEqDiff, Nat.reduceAdd, Nat.reduceLeDiff, Nat.reduceMul, Nat.reduceSub, Int.reduceToNat, Int.reduceLT, Int.reduceLE, e3]
  refine gC.of (ok_spec R.law08_awake) ?_
  rintro _ m_ ⟨rfl, hm_⟩
  replace hm_ := hm_.symm
  subst hm_
  simp only [go_sem, Int.reduceBEq, Int.reduceBNe, Int.reduceNeg, reduceCtorEq, Nat.reduceEqDiff, Nat.reduceAdd, Nat.reduceLeDiff, Nat.reduceMul, Nat.reduceSub, Int.reduceToNat, Int.reduceLT, Int.reduceLE]

theorem gp_mono {R : Nat → Option FEnt} {a : RCode} {e : Env} {Q Q' : Ex → Env → Mem → Prop} (h1 : gp R a e m Q') (h2 : ∀ x e' m', Q' x e' m' → Q x e' m') : gp R a e m Q := wp.mono (c := a) h2 h1
def sqA : RCode → RCode | .seq a _ => a | c => c
def sqB : RCode → RCode | .seq _ b => b | c => c
def oBox : RCode := sqA RC.law08_OrderOne.body
def oD : RCode := sqA (sqA (sqB RC.law08_OrderOne.body))
def oC : RCode := sqB (sqA (sqB RC.law08_OrderOne.body))
def oRest : RCode := sqB (sqB RC.law08_OrderOne.body)
theorem one_eq : RC.law08_OrderOne = ⟨4, [.slot 8], .seq oBox (.seq (.seq oD oC) oRest)⟩ := rfl

set_option maxHeartbeats 4000000 in
theorem OrderOne_cmp {a b c : Sp} {v : Value} {b1 b2 b3 : Nat} (hb1 : Bk m b1 [.int .i64 a.1, .int .i64 a.2] 2) (hb2 : Bk m b2 [.int .i64 b.1, .int .i64 b.2] 2) (hb3 : Bk m b3 [.int .i64 c.1, .int .i64 c.2] 2) :
    gp R oD [(3, v), (4, .pointer (some ⟨b1, 0, none⟩)), (5, .pointer (some ⟨b2, 0, none⟩)), (6, .pointer (some ⟨b3, 0, none⟩))] m fun x e' m' => x = .normal ∧ e' = [(3, v), (52, .bool false)] ∧ Ext m m' := by
  simp only [oD, sqA, sqB, RC.law08_OrderOne]
  simp only [go_sem, Int.reduceBEq, Int.reduceBNe, Int.reduceNeg, reduceCtorEq, Nat.reduceEqDiff, Nat.reduceAdd, Nat.reduceLeDiff, Nat.reduceMul, Nat.reduceSub, Int.reduceToNat, Int.reduceLT, Int.reduceLE, st2 hb1, st2 hb2]
  refine gC.of (orAhead m a b) ?_
  rintro _ m4 ⟨rfl, hx4⟩
  have hkA := hx4.same b1 hb1.lt
  have hkB := hx4.same b2 hb2.lt
  have hb14 := hb1.keep hx4
  have hb24 := hb2.keep hx4
  have hb34 := hb3.keep hx4
  simp only [go_sem, Int.reduceBEq, Int.reduceBNe, Int.reduceNeg, reduceCtorEq, Nat.reduceEqDiff, Nat.reduceAdd, Nat.reduceLeDiff, Nat.reduceMul, Nat.reduceSub, Int.reduceToNat, Int.reduceLT, Int.reduceLE, watchOk_cons, watchOk_nil, blkOf_ptr, hkA, hkB]
  refine gC.of (refAhead m4 a b) ?_
  rintro _ m5 ⟨rfl, hx5⟩
  have e1 : aEq .bool (.bool (decide (ahdO a b))) (.bool (decide (ahdO a b))) = some true := by rw [eq_bool]; simp
  have hb15 := hb14.keep hx5
  have hb25 := hb24.keep hx5
  have hb35 := hb34.keep hx5
  simp only [go_sem, Int.reduceBEq, Int.reduceBNe, Int.reduceNeg, reduceCtorEq, Nat.reduceEqDiff, Nat.reduceAdd, Nat.reduceLeDiff, Nat.reduceMul, Nat.reduceSub, Int.reduceToNat, Int.reduceLT, Int.reduceLE, e1, st2 hb15]
  refine gC.of (orAhead m5 a a) ?_
  rintro _ m6 ⟨rfl, hx6⟩
  have e2 : decide (ahdO a a) = false := decide_eq_false (by simp [ahdO])
  have hb16 := hb15.keep hx6
  have hb26 := hb25.keep hx6
  have hb36 := hb35.keep hx6
  have hx06 := (hx4.trans hx5).trans hx6
  by_cases hab : a = b
  · have h1 : (a.1 == b.1) = true := by rw [hab]; simp
    have h2 : (a.2 == b.2) = true := by rw [hab]; simp
    simp only [go_sem, Int.reduceBEq, Int.reduceBNe, Int.reduceNeg, reduceCtorEq, Nat.reduceEqDiff, Nat.reduceAdd, Nat.reduceLeDiff, Nat.reduceMul, Nat.reduceSub, Int.reduceToNat, Int.reduceLT, Int.reduceLE, e2, st2 hb16, st2 hb26, h1, h2, Bool.and_self]
    refine gC.of (orAhead m6 a b) ?_
    rintro _ m7 ⟨rfl, hx7⟩
    have e3 : decide (ahdO a b) = false := by rw [← hab]; exact e2
    simp only [go_sem, Int.reduceBEq, Int.reduceBNe, Int.reduceNeg, reduceCtorEq, Nat.reduceEqDiff, Nat.reduceAdd, Nat.reduceLeDiff, Nat.reduceMul, Nat.reduceSub, Int.reduceToNat, Int.reduceLT, Int.reduceLE, e3]
    exact hx06.trans hx7
  · have h12 : (a.1 == b.1 && a.2 == b.2) = false := by
      rw [Bool.and_eq_false_iff, beq_eq_false_iff_ne, beq_eq_false_iff_ne]
      apply Classical.byContradiction
      intro h
      exact hab (Prod.ext (by omega) (by omega))
    simp only [go_sem, Int.reduceBEq, Int.reduceBNe, Int.reduceNeg, reduceCtorEq, Nat.reduceEqDiff, Nat.reduceAdd, Nat.reduceLeDiff, Nat.reduceMul, Nat.reduceSub, Int.reduceToNat, Int.reduceLT, Int.reduceLE, e2, st2 hb16, st2 hb26, h12]
    refine gC.of (orAhead m6 a b) ?_
    rintro _ m7 ⟨rfl, hx7⟩
    have hkA7 := hx7.same b1 hb16.lt
    have hkB7 := hx7.same b2 hb26.lt
    have hb17 := hb16.keep hx7
    have hb27 := hb26.keep hx7
    have hb37 := hb36.keep hx7
    simp only [go_sem, Int.reduceBEq, Int.reduceBNe, Int.reduceNeg, reduceCtorEq, Nat.reduceEqDiff, Nat.reduceAdd, Nat.reduceLeDiff, Nat.reduceMul, Nat.reduceSub, Int.reduceToNat, Int.reduceLT, Int.reduceLE, watchOk_cons, watchOk_nil, blkOf_ptr, hkA7, hkB7]
    refine gC.of (orAhead m7 b a) ?_
    rintro _ m8 ⟨rfl, hx8⟩
    have hb18 := hb17.keep hx8
    have hb28 := hb27.keep hx8
    have hb38 := hb37.keep hx8
    have hx08 := (hx06.trans hx7).trans hx8
    have e4 : aEq .bool (.bool (decide (ahdO a b))) (.bool (decide (ahdO b a))) = some false := by
      rw [eq_bool]
      congr 1
      rw [beq_eq_false_iff_ne]
      intro h
      rw [decide_eq_decide] at h
      unfold ahdO at h
      exact hab (Prod.ext (by omega) (by omega))
    simp only [go_sem, Int.reduceBEq, Int.reduceBNe, Int.reduceNeg, reduceCtorEq, Nat.reduceEqDiff, Nat.reduceAdd, Nat.reduceLeDiff, Nat.reduceMul, Nat.reduceSub, Int.reduceToNat, Int.reduceLT, Int.reduceLE, e4, st2 hb18, st2 hb28]
    refine gC.of (orAhead m8 a b) ?_
    rintro _ m9 ⟨rfl, hx9⟩
    have hb19 := hb18.keep hx9
    have hb29 := hb28.keep hx9
    have hb39 := hb38.keep hx9
    by_cases g1 : ahdO a b
    · simp only [go_sem, Int.reduceBEq, Int.reduceBNe, Int.reduceNeg, reduceCtorEq, Nat.reduceEqDiff, Nat.reduceAdd, Nat.reduceLeDiff, Nat.reduceMul, Nat.reduceSub, Int.reduceToNat, Int.reduceLT, Int.reduceLE, decide_eq_true g1, st2 hb29, st2 hb39]
      refine gC.of (orAhead m9 b c) ?_
      rintro _ m10 ⟨rfl, hx10⟩
      have hb1a := hb19.keep hx10
      have hb3a := hb39.keep hx10
      by_cases g2 : ahdO b c
      · simp only [go_sem, Int.reduceBEq, Int.reduceBNe, Int.reduceNeg, reduceCtorEq, Nat.reduceEqDiff, Nat.reduceAdd, Nat.reduceLeDiff, Nat.reduceMul, Nat.reduceSub, Int.reduceToNat, Int.reduceLT, Int.reduceLE, decide_eq_true g2, st2 hb1a, st2 hb3a]
        refine gC.of (orAhead m10 a c) ?_
        rintro _ m11 ⟨rfl, hx11⟩
        have g3 : ahdO a c := by unfold ahdO at *; omega
        simp only [go_sem, Int.reduceBEq, Int.reduceBNe, Int.reduceNeg, reduceCtorEq, Nat.reduceEqDiff, Nat.reduceAdd, Nat.reduceLeDiff, Nat.reduceMul, Nat.reduceSub, Int.reduceToNat, Int.reduceLT, Int.reduceLE, decide_eq_true g3]
        exact ((hx08.trans hx9).trans hx10).trans hx11
      · simp only [go_sem, Int.reduceBEq, Int.reduceBNe, Int.reduceNeg, reduceCtorEq, Nat.reduceEqDiff, Nat.reduceAdd, Nat.reduceLeDiff, Nat.reduceMul, Nat.reduceSub, Int.reduceToNat, Int.reduceLT, Int.reduceLE, decide_eq_false g2]
        exact (hx08.trans hx9).trans hx10
    · simp only [go_sem, Int.reduceBEq, Int.reduceBNe, Int.reduceNeg, reduceCtorEq, Nat.reduceEqDiff, Nat.reduceAdd, Nat.reduceLeDiff, Nat.reduceMul, Nat.reduceSub, Int.reduceToNat, Int.reduceLT, Int.reduceLE, decide_eq_false g1]
      exact hx08.trans hx9

set_option maxHeartbeats 4000000 in
theorem OrderOne_spec {a b c : Sp} {l : List Sp} {v : Value} (hs : Sl m 2 l.length (l.flatMap spV) v) (hb : SlLt m v) (hc : Cut 2 m v) :
    WC R F.law08_OrderOne [.agg (spV a).toArray, .agg (spV b).toArray, .agg (spV c).toArray, v] m fun r _ => r = .bool true := by
  refine WC.of R.law08_OrderOne rfl ?_
  rw [one_eq]
  simp only [oBox, sqA, RC.law08_OrderOne]
  simp only [spV, go_sem, Int.reduceBEq, Int.reduceBNe, Int.reduceNeg, reduceCtorEq, Nat.reduceEqDiff, Nat.reduceAdd, Nat.reduceLeDiff, Nat.reduceMul, Nat.reduceSub, Int.reduceToNat, Int.reduceLT, Int.reduceLE]
  have hx1 : Ext m (m.new (.cells [.int .i64 a.1, .int .i64 a.2] (some 2))) := Ext.new
  have hb1 : Bk (m.new (.cells [.int .i64 a.1, .int .i64 a.2] (some 2))) m.next [.int .i64 a.1, .int .i64 a.2] 2 := Bk.new
  generalize m.new (.cells [.int .i64 a.1, .int .i64 a.2] (some 2)) = m1 at hx1 hb1 ⊢
  have hx2 : Ext m1 (m1.new (.cells [.int .i64 b.1, .int .i64 b.2] (some 2))) := Ext.new
  have hb2 : Bk (m1.new (.cells [.int .i64 b.1, .int .i64 b.2] (some 2))) m1.next [.int .i64 b.1, .int .i64 b.2] 2 := Bk.new
  have hb12 := hb1.keep hx2
  generalize m1.new (.cells [.int .i64 b.1, .int .i64 b.2] (some 2)) = m2 at hx2 hb2 hb12 ⊢
  have hx3 : Ext m2 (m2.new (.cells [.int .i64 c.1, .int .i64 c.2] (some 2))) := Ext.new
  have hb3 : Bk (m2.new (.cells [.int .i64 c.1, .int .i64 c.2] (some 2))) m2.next [.int .i64 c.1, .int .i64 c.2] 2 := Bk.new
  have hb13 := hb12.keep hx3
  have hb23 := hb2.keep hx3
  generalize m2.new (.cells [.int .i64 c.1, .int .i64 c.2] (some 2)) = m3 at hx3 hb3 hb13 hb23 ⊢
  have hx03 := (hx1.trans hx2).trans hx3
  refine gp_mono (OrderOne_cmp (v := v) hb13 hb23 hb3) ?_
  rintro _ _ m4 ⟨rfl, rfl, hx4⟩
  have hx04 := hx03.trans hx4
  simp only [oC, oRest, sqA, sqB, RC.law08_OrderOne]
  simp only [go_sem, Int.reduceBEq, Int.reduceBNe, Int.reduceNeg, reduceCtorEq, Nat.reduceEqDiff, Nat.reduceAdd, Nat.reduceLeDiff, Nat.reduceMul, Nat.reduceSub, Int.reduceToNat, Int.reduceLT, Int.reduceLE]
  have e : (if (60 : Int) < l.length then (60 : Int) else l.length) = ((min l.length 60 : Nat) : Int) := by
    split <;> omega
  refine WL.of (fun n e m' => ∃ (i : Nat) (ov : Value), i ≤ l.length ∧ i ≤ 60 ∧ n = 60 - i ∧ e = [(3, v), (9, ov), (10, .int .i64 i)] ∧ Own m4 m' 2 (sortO (l.take i)).length ((sortO (l.take i)).flatMap spV) ov ∧ Ext m4 m') 60
    ⟨0, .slice none 0 0, by omega, by omega, by omega, by simp only [go_sem, Int.reduceBEq, Int.reduceBNe, Int.reduceNeg, reduceCtorEq, Nat.reduceEqDiff, Nat.reduceAdd, Nat.reduceLeDiff, Nat.reduceMul, Nat.reduceSub, Int.reduceToNat, Int.reduceLT, Int.reduceLE] <;> rfl, .nil rfl rfl, Ext.refl _⟩ ?_
  rintro _ _ m5 ⟨i, ov, hi, hi6, rfl, rfl, hO, hx5⟩
  have hx05 := hx04.trans hx5
  have hs5 := hs.keep hb hx05
  have fin : ∀ {m6 : Mem} {ov : Value}, i = min l.length 60 → Own m4 m6 2 (sortO (l.take i)).length ((sortO (l.take i)).flatMap spV) ov → Ext m4 m6 → ∃ v', aSub 2 m6 v none (some (.int .i64 ((min l.length 60 : Nat) : Int))) none = some v' ∧ Sl m6 2 (l.take i).length ((l.take i).flatMap spV) v' ∧ SlLt m6 v' ∧ (l.take i).length ≤ 60 := by
    intro m6 ov hi hO hx6
    have hx06 := hx04.trans hx6
    obtain ⟨v', a1, a2, a3, a4, -⟩ := cutTo' (N := 60) (hs.keep hb hx06) (hb.keep hx06) (hc.keep hb hx06)
    have : l.take 60 = l.take i := by rw [hi]; simp; exact Nat.min_comm _ _
    rw [this] at a2 a4
    exact ⟨v', a1, a2, a3, a4⟩
  have done : i = min l.length 60 → ∀ {m6 : Mem} {ov : Value}, Own m4 m6 2 (sortO (l.take i)).length ((sortO (l.take i)).flatMap spV) ov → Ext m4 m6 → ∀ {v' : Value}, Sl m6 2 (l.take i).length ((l.take i).flatMap spV) v' → SlLt m6 v' → (l.take i).length ≤ 60 →
      WC R F.order_Sort [v'] m6 fun r m7 => Ext m6 m7 ∧ WC R F.ref08_Same [ov, r] m7 fun r' m8 => r' = .bool true := by
    intro hi m6 ov hO hx6 v' hs' hb' hL
    refine WC.mono (orSort hs' hb' (by omega)) ?_
    rintro r m7 ⟨hO7, hx7⟩
    refine ⟨hx7, WC.mono (refSame8 (hO.keep hx7).sl hO7.sl (by rw [sortO_len]; omega) (by rw [sortO_len]; omega)) ?_⟩
    rintro _ m8 ⟨rfl, -⟩
    rw [decide_eq_true rfl]
  simp only [RB.law08_OrderOne_1, go_sem, Int.reduceBEq, Int.reduceBNe, Int.reduceNeg, reduceCtorEq, Nat.reduceEqDiff, Nat.reduceAdd, Nat.reduceLeDiff, Nat.reduceMul, Nat.reduceSub, Int.reduceToNat, Int.reduceLT, Int.reduceLE, hs5.len]
  by_cases g1 : i < l.length
  · have e1 : decide ((i : Int) < (l.length : Int)) = true := decide_eq_true (by omega)
    by_cases g2 : i < 60
    · have e2 : decide ((i : Int) < 60) = true := decide_eq_true (by omega)
      have s1 := step1 (show i < 1000000 by omega)
      obtain ⟨bw, ow, q1, q2, -, -⟩ := hs5.elem spV_len (k := .i64) (i := i) g1
      simp only [go_sem, Int.reduceBEq, Int.reduceBNe, Int.reduceNeg, reduceCtorEq, Nat.reduceEqDiff, Nat.reduceAdd, Nat.reduceLeDiff, Nat.reduceMul, Nat.reduceSub, Int.reduceToNat, Int.reduceLT, Int.reduceLE, e1, e2, q1, q2]
      refine gC.of (orPut hO.sl hO.lt (by rw [sortO_len, List.length_take]; omega)) ?_
      rintro ov' m6 ⟨hO6, hx6⟩
      simp only [go_sem, Int.reduceBEq, Int.reduceBNe, Int.reduceNeg, reduceCtorEq, Nat.reduceEqDiff, Nat.reduceAdd, Nat.reduceLeDiff, Nat.reduceMul, Nat.reduceSub, Int.reduceToNat, Int.reduceLT, Int.reduceLE, s1]
      refine ⟨60 - (i + 1), by omega, i + 1, ov', by omega, by omega, rfl, rfl, ?_, hx5.trans hx6⟩
      rw [List.take_succ_eq_append_getElem g1, sortO_snoc]
      exact hO6.weak hx5
    · have e2 : decide ((i : Int) < 60) = false := decide_eq_false (by omega)
      have him : i = min l.length 60 := by omega
      obtain ⟨v', a1, a2, a3, a4⟩ := fin him hO hx5
      simp only [go_sem, Int.reduceBEq, Int.reduceBNe, Int.reduceNeg, reduceCtorEq, Nat.reduceEqDiff, Nat.reduceAdd, Nat.reduceLeDiff, Nat.reduceMul, Nat.reduceSub, Int.reduceToNat, Int.reduceLT, Int.reduceLE, e1, e2, hs5.len, e, a1]
      refine gC.of (done him hO hx5 a2 a3 a4) ?_
      rintro r m7 ⟨hx7, hW⟩
      simp only [go_sem, Int.reduceBEq, Int.reduceBNe, Int.reduceNeg, reduceCtorEq, Nat.reduceEqDiff, Nat.reduceAdd, Nat.reduceLeDiff, Nat.reduceMul, Nat.reduceSub, Int.reduceToNat, Int.reduceLT, Int.reduceLE]
      refine gC.of hW ?_
      rintro _ m8 rfl
      simp only [go_sem, Int.reduceBEq, Int.reduceBNe, Int.reduceNeg, reduceCtorEq, Nat.reduceEqDiff, Nat.reduceAdd, Nat.reduceLeDiff, Nat.reduceMul, Nat.reduceSub, Int.reduceToNat, Int.reduceLT, Int.reduceLE]
      refine gC.of (ok_spec R.law08_awake) ?_
      rintro _ m_ ⟨rfl, hm_⟩
      replace hm_ := hm_.symm
      subst hm_
      simp only [go_sem, Int.reduceBEq, Int.reduceBNe, Int.reduceNeg, reduceCtorEq, Nat.reduceEqDiff, Nat.reduceAdd, Nat.reduceLeDiff, Nat.reduceMul, Nat.reduceSub, Int.reduceToNat, Int.reduceLT, Int.reduceLE]
  · have e1 : decide ((i : Int) < (l.length : Int)) = false := decide_eq_false (by omega)
    have him : i = min l.length 60 := by omega
    obtain ⟨v', a1, a2, a3, a4⟩ := fin him hO hx5
    simp only [go_sem, Int.reduceBEq, Int.reduceBNe, Int.reduceNeg, reduceCtorEq, Nat.reduceEqDiff, Nat.reduceAdd, Nat.reduceLeDiff, Nat.reduceMul, Nat.reduceSub, Int.reduceToNat, Int.reduceLT, Int.reduceLE, e1, hs5.len, e, a1]
    refine gC.of (done him hO hx5 a2 a3 a4) ?_
    rintro r m7 ⟨hx7, hW⟩
    simp only [go_sem, Int.reduceBEq, Int.reduceBNe, Int.reduceNeg, reduceCtorEq, Nat.reduceEqDiff, Nat.reduceAdd, Nat.reduceLeDiff, Nat.reduceMul, Nat.reduceSub, Int.reduceToNat, Int.reduceLT, Int.reduceLE]
    refine gC.of hW ?_
    rintro _ m8 rfl
    simp only [go_sem, Int.reduceBEq, Int.reduceBNe, Int.reduceNeg, reduceCtorEq, Nat.reduceEqDiff, Nat.reduceAdd, Nat.reduceLeDiff, Nat.reduceMul, Nat.reduceSub, Int.reduceToNat, Int.reduceLT, Int.reduceLE]
    refine gC.of (ok_spec R.law08_awake) ?_
    rintro _ m_ ⟨rfl, hm_⟩
    replace hm_ := hm_.symm
    subst hm_
    simp only [go_sem, Int.reduceBEq, Int.reduceBNe, Int.reduceNeg, reduceCtorEq, Nat.reduceEqDiff, Nat.reduceAdd, Nat.reduceLeDiff, Nat.reduceMul, Nat.reduceSub, Int.reduceToNat, Int.reduceLT, Int.reduceLE]
end Go.Am


/- OrderSorts, of arguments as they are read. -/
set_option linter.unusedVariables false
namespace Go.Am
theorem one_want {m : Mem} {v : Value} (h : RdA m (true, [.int .i64, .int .i64]) v) : ∃ w : Sp, v = .agg (spV w).toArray := by
  obtain ⟨cs, rfl, g⟩ := h.agg
  obtain ⟨_, _, rfl, h1, g2⟩ := g.one; obtain ⟨_, _, rfl, h2, g3⟩ := g2.one; cases g3.none
  obtain ⟨a, rfl, -⟩ := h1.i64; obtain ⟨b, rfl, -⟩ := h2.i64
  exact ⟨(a, b), rfl⟩
theorem law08_OrderSorts_walk (m : Mem) (us : List Value) (h : RdAs m [(false, [.sl [.int .i64, .int .i64]]), (true, [.int .i64, .int .i64]), (false, [.int .i64])] us) : WC R F.law08_OrderSorts us m fun v _ => v = .bool true := by
  obtain ⟨_, _, rfl, h1, h⟩ := h.one; obtain ⟨_, _, rfl, h2, h⟩ := h.one; obtain ⟨_, _, rfl, h3, h⟩ := h.one; cases h.none
  obtain ⟨l, hs, hb, hc, hr⟩ := w_read h1.rd
  obtain ⟨w, rfl⟩ := one_want h2
  obtain ⟨x, rfl, -⟩ := h3.rd.i64
  exact OrderSorts_spec hs hb hc
end Go.Am


/- OrderOne, of arguments as they are read. -/
set_option linter.unusedVariables false
namespace Go.Am
theorem law08_OrderOne_walk (m : Mem) (us : List Value) (h : RdAs m [(true, [.int .i64, .int .i64]), (true, [.int .i64, .int .i64]), (true, [.int .i64, .int .i64]), (false, [.sl [.int .i64, .int .i64]])] us) : WC R F.law08_OrderOne us m fun v _ => v = .bool true := by
  obtain ⟨_, _, rfl, h1, h⟩ := h.one; obtain ⟨_, _, rfl, h2, h⟩ := h.one; obtain ⟨_, _, rfl, h3, h⟩ := h.one; obtain ⟨_, _, rfl, h4, h⟩ := h.one; cases h.none
  obtain ⟨l, hs, hb, hc, hr⟩ := w_read h4.rd
  obtain ⟨a, rfl⟩ := one_want h1
  obtain ⟨b, rfl⟩ := one_want h2
  obtain ⟨c, rfl⟩ := one_want h3
  exact OrderOne_spec hs hb hc
end Go.Am
