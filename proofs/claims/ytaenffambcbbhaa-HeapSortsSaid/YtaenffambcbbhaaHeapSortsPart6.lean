/- Parts of the proofs of the statements of this seat: HeapX3, WHeapPlays, WHeapSorts. No conditions. -/
import Derived.Test.YtaenffambcbbhaaHeapSortsPart5
set_option linter.unusedVariables false
set_option linter.unusedSimpArgs false

/- The law HeapSorts. -/
set_option linter.unusedVariables false
set_option linter.unusedSimpArgs false
namespace Go.Am
open Classical
variable {m : Mem}

/-- A heap of 64 alone. -/
structure HJ (m0 m : Mem) (b : Nat) (s : HpS) (fp : List Nat) : Prop where
  hp : HpV m b s fp
  heap : s.Heap
  sz : s.keys.length = 64
  ge : ∀ x ∈ fp, m0.next ≤ x
  ext : Ext m0 m
theorem HJ.keep {m0 m m' : Mem} {b : Nat} {s : HpS} {fp : List Nat} (h : HJ m0 m b s fp) (hx : Ext m m') : HJ m0 m' b s fp := ⟨h.hp.keep hx, h.heap, h.sz, h.ge, h.ext.trans hx⟩
theorem HJ.step {m0 m m2 : Mem} {b : Nat} {s t : HpS} {fp : List Nat} (h : HJ m0 m b s fp) (A : After m m2 b s t fp) (ht : t.keys.length = 64) : ∃ fq, HJ m0 m2 b t fq ∧ (∀ x ∈ fq, x ∈ fp ∨ m.next ≤ x) ∧ Upd m m2 fp := by
  obtain ⟨⟨fq, a1, a2⟩, a3, a4⟩ := A
  have hn := h.ext.next
  exact ⟨fq, ⟨a1, a3, ht, fun x hx' => by
    rcases a2 x hx' with h1 | h1
    · exact h.ge x h1
    · omega, a4.ext_of h.ext h.ge⟩, a2, a4⟩

set_option maxHeartbeats 4000000 in
theorem HeapSorts_fill {m0 : Mem} {l : List HAct} {lv : Value} {b : Nat} (hs : Sl m0 4 l.length (l.flatMap haV) lv) (hb : SlLt m0 lv) {s0 : HpS} {fp0 : List Nat} (h0 : HJ m0 m b s0 fp0) :
    WL R [0, 3, 5] RB.law06_HeapSorts_2 [(0, lv), (3, pt b), (5, .int .i64 0)] m fun y e m' => y = .exit 0 ∧ ∃ s fp rs, e = (0, lv) :: (3, pt b) :: rs ∧ HJ m0 m' b s fp := by
  refine WL.of (fun k e m' => ∃ (i : Nat) (s : HpS) (fp : List Nat), i ≤ l.length ∧ i ≤ 200 ∧ k = l.length - i ∧ e = [(0, lv), (3, pt b), (5, .int .i64 ((i : Nat) : Int))] ∧ HJ m0 m' b s fp) l.length
    ⟨0, s0, fp0, by omega, by omega, by omega, by simp only [go_sem, Int.reduceBEq, Int.reduceBNe, Int.reduceNeg, reduceCtorEq, Nat.reduceEqDiff, Nat.reduceAdd, Nat.reduceLeDiff, Nat.reduceMul, Nat.reduceSub, Int.reduceToNat, Int.reduceLT, Int.reduceLE] <;> rfl, h0⟩ ?_
  rintro _ _ m1 ⟨i, s, fp, hi, hi60, rfl, rfl, h⟩
  have hs1 := hs.keep hb h.ext
  simp only [RB.law06_HeapSorts_2, pt, go_sem, Int.reduceBEq, Int.reduceBNe, Int.reduceNeg, reduceCtorEq, Nat.reduceEqDiff, Nat.reduceAdd, Nat.reduceLeDiff, Nat.reduceMul, Nat.reduceSub, Int.reduceToNat, Int.reduceLT, Int.reduceLE, load_w, load_a, store_b, idxS_b, set_blk, new_blk, set_next, new_next, len_s, ldW_c, ldA_c, stB_c, toArr_one, size_one, toList_toArr, size_toArr, List.length_cons, List.length_nil, List.getElem?_cons_zero, List.getElem?_cons_succ, Nat.zero_add, Nat.add_zero, hs1.len]
  have s1 := st1 (show i < 1000000 by omega)
  by_cases g1 : i < l.length
  · have e1 : decide (((i : Nat) : Int) < ((l.length : Nat) : Int)) = true := decide_eq_true (by omega)
    by_cases g2 : i < 200
    · have e2 : decide (((i : Nat) : Int) < 200) = true := decide_eq_true (by omega)
      obtain ⟨bb, oo, a1, a2, a3, -⟩ := hs1.elem haV_len (k := .i64) g1
      have a31 := a3 1 (by omega)
      have a32 := a3 2 (by omega)
      have a33 := a3 3 (by omega)
      simp only [haV, List.getElem?_cons_zero, List.getElem?_cons_succ] at a31 a32 a33
      try simp only [go_sem, Int.reduceBEq, Int.reduceBNe, Int.reduceNeg, reduceCtorEq, Nat.reduceEqDiff, Nat.reduceAdd, Nat.reduceLeDiff, Nat.reduceMul, Nat.reduceSub, Int.reduceToNat, Int.reduceLT, Int.reduceLE, load_w, load_a, store_b, idxS_b, set_blk, new_blk, set_next, new_next, len_s, ldW_c, ldA_c, stB_c, toArr_one, size_one, toList_toArr, size_toArr, List.length_cons, List.length_nil, List.getElem?_cons_zero, List.getElem?_cons_succ, Nat.zero_add, Nat.add_zero, e1, e2, a1, a31, a32, a33]
      refine gC.of (Put_spec (id := l[i].id) (num := l[i].num) (den := l[i].den) h.hp h.heap) ?_
      rintro r m2 (⟨-, rfl, hm⟩ | ⟨-, rfl, t, hA, hk1, -⟩)
      · replace hm := hm.symm
        subst hm
        try simp only [go_sem, Int.reduceBEq, Int.reduceBNe, Int.reduceNeg, reduceCtorEq, Nat.reduceEqDiff, Nat.reduceAdd, Nat.reduceLeDiff, Nat.reduceMul, Nat.reduceSub, Int.reduceToNat, Int.reduceLT, Int.reduceLE, load_w, load_a, store_b, idxS_b, set_blk, new_blk, set_next, new_next, len_s, ldW_c, ldA_c, stB_c, toArr_one, size_one, toList_toArr, size_toArr, List.length_cons, List.length_nil, List.getElem?_cons_zero, List.getElem?_cons_succ, Nat.zero_add, Nat.add_zero, s1]
        exact ⟨l.length - (i + 1), by omega, i + 1, s, fp, by omega, by omega, rfl, rfl, h⟩
      · obtain ⟨fq, hJ, -⟩ := h.step hA (by rw [hk1, h.sz])
        try simp only [go_sem, Int.reduceBEq, Int.reduceBNe, Int.reduceNeg, reduceCtorEq, Nat.reduceEqDiff, Nat.reduceAdd, Nat.reduceLeDiff, Nat.reduceMul, Nat.reduceSub, Int.reduceToNat, Int.reduceLT, Int.reduceLE, load_w, load_a, store_b, idxS_b, set_blk, new_blk, set_next, new_next, len_s, ldW_c, ldA_c, stB_c, toArr_one, size_one, toList_toArr, size_toArr, List.length_cons, List.length_nil, List.getElem?_cons_zero, List.getElem?_cons_succ, Nat.zero_add, Nat.add_zero, s1]
        exact ⟨l.length - (i + 1), by omega, i + 1, t, fq, by omega, by omega, rfl, rfl, hJ⟩
    · have e2 : decide (((i : Nat) : Int) < 200) = false := decide_eq_false (by omega)
      try simp only [go_sem, Int.reduceBEq, Int.reduceBNe, Int.reduceNeg, reduceCtorEq, Nat.reduceEqDiff, Nat.reduceAdd, Nat.reduceLeDiff, Nat.reduceMul, Nat.reduceSub, Int.reduceToNat, Int.reduceLT, Int.reduceLE, load_w, load_a, store_b, idxS_b, set_blk, new_blk, set_next, new_next, len_s, ldW_c, ldA_c, stB_c, toArr_one, size_one, toList_toArr, size_toArr, List.length_cons, List.length_nil, List.getElem?_cons_zero, List.getElem?_cons_succ, Nat.zero_add, Nat.add_zero, e1, e2]
      exact ⟨s, fp, _, rfl, h⟩
  · have e1 : decide (((i : Nat) : Int) < ((l.length : Nat) : Int)) = false := decide_eq_false (by omega)
    try simp only [go_sem, Int.reduceBEq, Int.reduceBNe, Int.reduceNeg, reduceCtorEq, Nat.reduceEqDiff, Nat.reduceAdd, Nat.reduceLeDiff, Nat.reduceMul, Nat.reduceSub, Int.reduceToNat, Int.reduceLT, Int.reduceLE, load_w, load_a, store_b, idxS_b, set_blk, new_blk, set_next, new_next, len_s, ldW_c, ldA_c, stB_c, toArr_one, size_one, toList_toArr, size_toArr, List.length_cons, List.length_nil, List.getElem?_cons_zero, List.getElem?_cons_succ, Nat.zero_add, Nat.add_zero, e1]
    exact ⟨s, fp, _, rfl, h⟩

/-- All that is left is behind who went last. -/
def Past (s : HpS) (i : Nat) (last : Int) (num den : BitVec 64) : Prop := i = 0 ∨ ∃ x : Nat, last = (x : Int) ∧ ∀ y ∈ s.ids, ltK (num, den) (s.key y) x y

set_option maxHeartbeats 8000000 in
theorem HeapSorts_loop {m0 : Mem} {b q n : Nat} {s0 : HpS} {fp0 : List Nat} (h0 : HJ m0 m b s0 fp0) (hq : Mp m q Value.bool []) (hq0 : m0.next ≤ q) (hqf : q ∉ fp0) (hn : s0.ids.length = n) (hn2 : n ≤ 64) :
    WL R [3, 6, 7, 8, 9, 10, 11] RB.law06_HeapSorts_1 [(3, pt b), (6, .int .i64 ((n : Nat) : Int)), (7, .map (some q)), (8, .int .i64 0), (9, u64 0#64), (10, u64 1#64), (11, .int .i64 0)] m fun y e m' => y = .exit 2 ∧ ∃ s fp rs, e = (3, pt b) :: rs ∧ HJ m0 m' b s fp ∧ s.ids.length = 0 := by
  refine WL.of (fun k e m' => ∃ (i : Nat) (s : HpS) (fp : List Nat) (L : List (Int × Bool)) (last : Int) (num den : BitVec 64), k = n - i ∧ e = [(3, pt b), (6, .int .i64 ((n : Nat) : Int)), (7, .map (some q)), (8, .int .i64 last), (9, u64 num), (10, u64 den), (11, .int .i64 ((i : Nat) : Int))] ∧ HJ m0 m' b s fp ∧ s.ids.length + i = n ∧ Mp m' q Value.bool L ∧ q ∉ fp ∧ (∀ x ∈ s.ids, lkp L ((x : Nat) : Int) = none) ∧ Past s i last num den) n
    ⟨0, s0, fp0, [], 0, 0#64, 1#64, by omega, by simp only [go_sem, Int.reduceBEq, Int.reduceBNe, Int.reduceNeg, reduceCtorEq, Nat.reduceEqDiff, Nat.reduceAdd, Nat.reduceLeDiff, Nat.reduceMul, Nat.reduceSub, Int.reduceToNat, Int.reduceLT, Int.reduceLE] <;> rfl, h0, by omega, hq, hqf, fun x _ => rfl, .inl rfl⟩ ?_
  rintro _ _ m1 ⟨i, s, fp, L, last, num, den, rfl, rfl, h, hlen, hM, hqf, hno, hpast⟩
  simp only [RB.law06_HeapSorts_1, pt, go_sem, Int.reduceBEq, Int.reduceBNe, Int.reduceNeg, reduceCtorEq, Nat.reduceEqDiff, Nat.reduceAdd, Nat.reduceLeDiff, Nat.reduceMul, Nat.reduceSub, Int.reduceToNat, Int.reduceLT, Int.reduceLE, load_w, load_a, store_b, idxS_b, set_blk, new_blk, set_next, new_next, len_s, ldW_c, ldA_c, stB_c, toArr_one, size_one, toList_toArr, size_toArr, List.length_cons, List.length_nil, List.getElem?_cons_zero, List.getElem?_cons_succ, Nat.zero_add, Nat.add_zero]
  have s1 := st1 (show i < 1000000 by omega)
  by_cases g1 : i < n
  · have e1 : decide (((i : Nat) : Int) < ((n : Nat) : Int)) = true := decide_eq_true (by omega)
    have hpos : 0 < s.ids.length := by omega
    have hx := HpS.at_mem hpos
    have hhas : hasId s ((s.at_ 0 : Nat) : Int) := ⟨by omega, by rw [Int.toNat_natCast]; exact hx⟩
    try simp only [go_sem, Int.reduceBEq, Int.reduceBNe, Int.reduceNeg, reduceCtorEq, Nat.reduceEqDiff, Nat.reduceAdd, Nat.reduceLeDiff, Nat.reduceMul, Nat.reduceSub, Int.reduceToNat, Int.reduceLT, Int.reduceLE, load_w, load_a, store_b, idxS_b, set_blk, new_blk, set_next, new_next, len_s, ldW_c, ldA_c, stB_c, toArr_one, size_one, toList_toArr, size_toArr, List.length_cons, List.length_nil, List.getElem?_cons_zero, List.getElem?_cons_succ, Nat.zero_add, Nat.add_zero, e1]
    refine gC.of (Min_spec h.hp) ?_
    rintro _ _ ⟨rfl, hm⟩
    replace hm := hm.symm
    subst hm
    rw [if_neg (by omega : ¬ s.ids.length = 0)]
    try simp only [go_sem, Int.reduceBEq, Int.reduceBNe, Int.reduceNeg, reduceCtorEq, Nat.reduceEqDiff, Nat.reduceAdd, Nat.reduceLeDiff, Nat.reduceMul, Nat.reduceSub, Int.reduceToNat, Int.reduceLT, Int.reduceLE, load_w, load_a, store_b, idxS_b, set_blk, new_blk, set_next, new_next, len_s, ldW_c, ldA_c, stB_c, toArr_one, size_one, toList_toArr, size_toArr, List.length_cons, List.length_nil, List.getElem?_cons_zero, List.getElem?_cons_succ, Nat.zero_add, Nat.add_zero, aExt0, aExt1]
    refine gC.of (Key_spec (id := ((s.at_ 0 : Nat) : Int)) h.hp) ?_
    rintro _ _ ⟨rfl, hm⟩
    replace hm := hm.symm
    subst hm
    rw [if_pos hhas, Int.toNat_natCast]
    try simp only [go_sem, Int.reduceBEq, Int.reduceBNe, Int.reduceNeg, reduceCtorEq, Nat.reduceEqDiff, Nat.reduceAdd, Nat.reduceLeDiff, Nat.reduceMul, Nat.reduceSub, Int.reduceToNat, Int.reduceLT, Int.reduceLE, load_w, load_a, store_b, idxS_b, set_blk, new_blk, set_next, new_next, len_s, ldW_c, ldA_c, stB_c, toArr_one, size_one, toList_toArr, size_toArr, List.length_cons, List.length_nil, List.getElem?_cons_zero, List.getElem?_cons_succ, Nat.zero_add, Nat.add_zero, aExt0, aExt1, aExt2]
    refine gC.of (Pop_spec h.hp h.heap) ?_
    rintro r m2 (⟨hz, -⟩ | ⟨-, rfl, t, hA, hk1, hk2⟩)
    · omega
    obtain ⟨fq, hJ, hfq, hU⟩ := h.step hA (by rw [hk1, h.sz])
    have hM2 := hM.upd hU hqf
    have hqq : q ∉ fq := fun hm => by
      rcases hfq q hm with h1 | h1
      · exact hqf h1
      · have := hM.lt; omega
    have e2 : (((s.at_ 0 : Nat) : Int) != ((s.at_ 0 : Nat) : Int)) = false := by rw [bne_eq_false_iff_eq]
    have lk : aLook .int (.bool false) false m2 (.map (some q)) (.int .i64 ((s.at_ 0 : Nat) : Int)) = some (.bool false) := by
      have := hM2.look (x := ((s.at_ 0 : Nat) : Int)) (z := false)
      rw [hno _ hx] at this; exact this
    try simp only [go_sem, Int.reduceBEq, Int.reduceBNe, Int.reduceNeg, reduceCtorEq, Nat.reduceEqDiff, Nat.reduceAdd, Nat.reduceLeDiff, Nat.reduceMul, Nat.reduceSub, Int.reduceToNat, Int.reduceLT, Int.reduceLE, load_w, load_a, store_b, idxS_b, set_blk, new_blk, set_next, new_next, len_s, ldW_c, ldA_c, stB_c, toArr_one, size_one, toList_toArr, size_toArr, List.length_cons, List.length_nil, List.getElem?_cons_zero, List.getElem?_cons_succ, Nat.zero_add, Nat.add_zero, aExt0, aExt1, e2, lk]
    refine gC.of (refCompare_spec (p := (num, den)) (q := s.key (s.at_ 0))) ?_
    rintro _ m3 ⟨rfl, hx3⟩
    have hJ3 := hJ.keep hx3
    have hM3 := hM2.keep hx3
    have hput := hM3.put (x := ((s.at_ 0 : Nat) : Int)) (a := true)
    have hUq : Upd m3 (m3.set q (some (.map (mpL Value.bool (updL L ((s.at_ 0 : Nat) : Int) true))))) [q] := Upd.set (by simp)
    have hM4 : Mp (m3.set q (some (.map (mpL Value.bool (updL L ((s.at_ 0 : Nat) : Int) true))))) q Value.bool (updL L ((s.at_ 0 : Nat) : Int) true) := hM3.self
    have hJ4 : HJ m0 (m3.set q (some (.map (mpL Value.bool (updL L ((s.at_ 0 : Nat) : Int) true))))) b t fq := ⟨hJ3.hp.upd hUq (fun x hx hm => hqq (by rw [← List.mem_singleton.1 hm]; exact hx)), hJ3.heap, hJ3.sz, hJ3.ge, hUq.ext_of hJ3.ext (by simpa using hq0)⟩
    generalize m3.set q (some (.map (mpL Value.bool (updL L ((s.at_ 0 : Nat) : Int) true)))) = m4 at hUq hM4 hJ4 hput
    have hcard : t.ids.length + 1 = s.ids.length := by
      have hp : (s.at_ 0 :: t.ids).Perm s.ids := by
        refine (List.perm_ext_iff_of_nodup ?_ h.hp.wf.nodup).2 fun y => ?_
        · rw [List.nodup_cons]
          exact ⟨fun hm => ((hk2 _).1 hm).2 rfl, hJ.hp.wf.nodup⟩
        · rw [List.mem_cons, hk2]
          constructor
          · rintro (rfl | h)
            · exact hx
            · exact h.1
          · intro hy
            by_cases e : y = s.at_ 0
            · exact .inl e
            · exact .inr ⟨hy, e⟩
      have := hp.length_eq
      simpa using this
    have hpast' : Past t (i + 1) ((s.at_ 0 : Nat) : Int) (s.key (s.at_ 0)).1 (s.key (s.at_ 0)).2 := .inr ⟨s.at_ 0, rfl, fun y hy => by
      obtain ⟨hy1, hy2⟩ := (hk2 y).1 hy
      have hkey : t.key y = s.key y := by unfold HpS.key; rw [hk1]
      rw [hkey]
      exact (h.heap.first h.hp.wf hy1).resolve_right fun e => hy2 e.symm⟩
    have hno' : ∀ y ∈ t.ids, lkp (updL L ((s.at_ 0 : Nat) : Int) true) ((y : Nat) : Int) = none := fun y hy => by
      obtain ⟨hy1, hy2⟩ := (hk2 y).1 hy
      rw [lkp_upd, if_neg (by omega)]
      exact hno y hy1
    have fin : ∃ n', n' < n - i ∧ ∃ (i' : Nat) (s' : HpS) (fp' : List Nat) (L' : List (Int × Bool)) (last' : Int) (num' den' : BitVec 64), n' = n - i' ∧ [(3, pt b), (6, Value.int .i64 ((n : Nat) : Int)), (7, .map (some q)), (8, .int .i64 ((s.at_ 0 : Nat) : Int)), (9, u64 (s.key (s.at_ 0)).1), (10, u64 (s.key (s.at_ 0)).2), (11, .int .i64 ((i + 1 : Nat) : Int))] = [(3, pt b), (6, .int .i64 ((n : Nat) : Int)), (7, .map (some q)), (8, .int .i64 last'), (9, u64 num'), (10, u64 den'), (11, .int .i64 ((i' : Nat) : Int))] ∧ HJ m0 m4 b s' fp' ∧ s'.ids.length + i' = n ∧ Mp m4 q Value.bool L' ∧ q ∉ fp' ∧ (∀ x ∈ s'.ids, lkp L' ((x : Nat) : Int) = none) ∧ Past s' i' last' num' den' :=
      ⟨n - (i + 1), by omega, i + 1, t, fq, _, _, _, _, rfl, rfl, hJ4, by omega, hM4, hqq, hno', hpast'⟩
    by_cases g0 : i = 0
    · have e3 : decide (0 < ((i : Nat) : Int)) = false := decide_eq_false (by omega)
      try simp only [go_sem, Int.reduceBEq, Int.reduceBNe, Int.reduceNeg, reduceCtorEq, Nat.reduceEqDiff, Nat.reduceAdd, Nat.reduceLeDiff, Nat.reduceMul, Nat.reduceSub, Int.reduceToNat, Int.reduceLT, Int.reduceLE, load_w, load_a, store_b, idxS_b, set_blk, new_blk, set_next, new_next, len_s, ldW_c, ldA_c, stB_c, toArr_one, size_one, toList_toArr, size_toArr, List.length_cons, List.length_nil, List.getElem?_cons_zero, List.getElem?_cons_succ, Nat.zero_add, Nat.add_zero, e3, hput, s1]
      exact fin
    · have e3 : decide (0 < ((i : Nat) : Int)) = true := decide_eq_true (by omega)
      obtain ⟨x, rfl, hall⟩ := hpast.resolve_left g0
      have hl := hall _ hx
      rcases hl with hl | ⟨hl, hl2⟩
      · have e4 : decide (0 < cmpK (num, den) (s.key (s.at_ 0))) = false := decide_eq_false (by have := cmpK_lt.2 hl; omega)
        have e5 : (cmpK (num, den) (s.key (s.at_ 0)) == 0) = false := by rw [beq_eq_false_iff_ne]; have := cmpK_lt.2 hl; omega
        try simp only [go_sem, Int.reduceBEq, Int.reduceBNe, Int.reduceNeg, reduceCtorEq, Nat.reduceEqDiff, Nat.reduceAdd, Nat.reduceLeDiff, Nat.reduceMul, Nat.reduceSub, Int.reduceToNat, Int.reduceLT, Int.reduceLE, load_w, load_a, store_b, idxS_b, set_blk, new_blk, set_next, new_next, len_s, ldW_c, ldA_c, stB_c, toArr_one, size_one, toList_toArr, size_toArr, List.length_cons, List.length_nil, List.getElem?_cons_zero, List.getElem?_cons_succ, Nat.zero_add, Nat.add_zero, e3, e4, e5, hput, s1]
        exact fin
      · have hc := cmpK_eq.2 hl
        have e4 : decide (0 < cmpK (num, den) (s.key (s.at_ 0))) = false := decide_eq_false (by omega)
        have e5 : (cmpK (num, den) (s.key (s.at_ 0)) == 0) = true := by rw [beq_iff_eq]; exact hc
        have e6 : decide (((s.at_ 0 : Nat) : Int) ≤ ((x : Nat) : Int)) = false := decide_eq_false (by omega)
        try simp only [go_sem, Int.reduceBEq, Int.reduceBNe, Int.reduceNeg, reduceCtorEq, Nat.reduceEqDiff, Nat.reduceAdd, Nat.reduceLeDiff, Nat.reduceMul, Nat.reduceSub, Int.reduceToNat, Int.reduceLT, Int.reduceLE, load_w, load_a, store_b, idxS_b, set_blk, new_blk, set_next, new_next, len_s, ldW_c, ldA_c, stB_c, toArr_one, size_one, toList_toArr, size_toArr, List.length_cons, List.length_nil, List.getElem?_cons_zero, List.getElem?_cons_succ, Nat.zero_add, Nat.add_zero, e3, e4, e5, e6, hput, s1]
        exact fin
  · have e1 : decide (((i : Nat) : Int) < ((n : Nat) : Int)) = false := decide_eq_false (by omega)
    try simp only [go_sem, Int.reduceBEq, Int.reduceBNe, Int.reduceNeg, reduceCtorEq, Nat.reduceEqDiff, Nat.reduceAdd, Nat.reduceLeDiff, Nat.reduceMul, Nat.reduceSub, Int.reduceToNat, Int.reduceLT, Int.reduceLE, load_w, load_a, store_b, idxS_b, set_blk, new_blk, set_next, new_next, len_s, ldW_c, ldA_c, stB_c, toArr_one, size_one, toList_toArr, size_toArr, List.length_cons, List.length_nil, List.getElem?_cons_zero, List.getElem?_cons_succ, Nat.zero_add, Nat.add_zero, e1]
    exact ⟨s, fp, _, rfl, h, by omega⟩

theorem HeapSorts_spec {l : List HAct} {lv : Value} (hs : Sl m 4 l.length (l.flatMap haV) lv) (hb : SlLt m lv) : WC R F.law06_HeapSorts [lv] m fun r m' => r = .bool true := by
  refine WC.of R.law06_HeapSorts rfl ?_
  simp only [RC.law06_HeapSorts, go_sem, Int.reduceBEq, Int.reduceBNe, Int.reduceNeg, reduceCtorEq, Nat.reduceEqDiff, Nat.reduceAdd, Nat.reduceLeDiff, Nat.reduceMul, Nat.reduceSub, Int.reduceToNat, Int.reduceLT, Int.reduceLE]
  refine gC.of (New_spec (n := 64)) ?_
  rintro _ m1 (⟨hn, -⟩ | ⟨n1, n2, b, fp, rfl, hV, hge, hx1⟩)
  · omega
  have h0 : HJ m m1 b (empS (64 : Int).toNat) fp := ⟨hV, empS_heap, by simp [empS], hge, hx1⟩
  simp only [pt]
  try simp only [go_sem, Int.reduceBEq, Int.reduceBNe, Int.reduceNeg, reduceCtorEq, Nat.reduceEqDiff, Nat.reduceAdd, Nat.reduceLeDiff, Nat.reduceMul, Nat.reduceSub, Int.reduceToNat, Int.reduceLT, Int.reduceLE, load_w, load_a, store_b, idxS_b, set_blk, new_blk, set_next, new_next, len_s, ldW_c, ldA_c, stB_c, toArr_one, size_one, toList_toArr, size_toArr, List.length_cons, List.length_nil, List.getElem?_cons_zero, List.getElem?_cons_succ, Nat.zero_add, Nat.add_zero, aExt0, aExt1]
  refine WL.mono (HeapSorts_fill hs hb h0) ?_
  rintro _ _ m2 ⟨rfl, s, fq, rs, rfl, h⟩
  have hcard := h.hp.wf.card
  rw [h.sz] at hcard
  simp only [pt]
  try simp only [go_sem, Int.reduceBEq, Int.reduceBNe, Int.reduceNeg, reduceCtorEq, Nat.reduceEqDiff, Nat.reduceAdd, Nat.reduceLeDiff, Nat.reduceMul, Nat.reduceSub, Int.reduceToNat, Int.reduceLT, Int.reduceLE, load_w, load_a, store_b, idxS_b, set_blk, new_blk, set_next, new_next, len_s, ldW_c, ldA_c, stB_c, toArr_one, size_one, toList_toArr, size_toArr, List.length_cons, List.length_nil, List.getElem?_cons_zero, List.getElem?_cons_succ, Nat.zero_add, Nat.add_zero]
  refine gC.of (Len_spec h.hp) ?_
  rintro _ _ ⟨rfl, hm⟩
  replace hm := hm.symm
  subst hm
  try simp only [go_sem, Int.reduceBEq, Int.reduceBNe, Int.reduceNeg, reduceCtorEq, Nat.reduceEqDiff, Nat.reduceAdd, Nat.reduceLeDiff, Nat.reduceMul, Nat.reduceSub, Int.reduceToNat, Int.reduceLT, Int.reduceLE, load_w, load_a, store_b, idxS_b, set_blk, new_blk, set_next, new_next, len_s, ldW_c, ldA_c, stB_c, toArr_one, size_one, toList_toArr, size_toArr, List.length_cons, List.length_nil, List.getElem?_cons_zero, List.getElem?_cons_succ, Nat.zero_add, Nat.add_zero]
  have hM : Mp (m2.new (.map [])) m2.next Value.bool [] := Mp.new
  have hx3 : Ext m2 (m2.new (.map [])) := Ext.new
  have hqf : m2.next ∉ fq := fun hm => by have := h.hp.lt _ hm; omega
  generalize m2.new (.map []) = m3 at hM hx3 ⊢
  refine WL.mono (HeapSorts_loop (h.keep hx3) hM h.ext.next hqf rfl hcard) ?_
  rintro _ _ m4 ⟨rfl, t, fr, rs', rfl, h4, hz⟩
  simp only [pt]
  try simp only [go_sem, Int.reduceBEq, Int.reduceBNe, Int.reduceNeg, reduceCtorEq, Nat.reduceEqDiff, Nat.reduceAdd, Nat.reduceLeDiff, Nat.reduceMul, Nat.reduceSub, Int.reduceToNat, Int.reduceLT, Int.reduceLE, load_w, load_a, store_b, idxS_b, set_blk, new_blk, set_next, new_next, len_s, ldW_c, ldA_c, stB_c, toArr_one, size_one, toList_toArr, size_toArr, List.length_cons, List.length_nil, List.getElem?_cons_zero, List.getElem?_cons_succ, Nat.zero_add, Nat.add_zero]
  refine gC.of (Pop_spec h4.hp h4.heap) ?_
  rintro r m5 (⟨-, rfl, hm⟩ | ⟨hz2, -⟩)
  · replace hm := hm.symm
    subst hm
    try simp only [go_sem, Int.reduceBEq, Int.reduceBNe, Int.reduceNeg, reduceCtorEq, Nat.reduceEqDiff, Nat.reduceAdd, Nat.reduceLeDiff, Nat.reduceMul, Nat.reduceSub, Int.reduceToNat, Int.reduceLT, Int.reduceLE, load_w, load_a, store_b, idxS_b, set_blk, new_blk, set_next, new_next, len_s, ldW_c, ldA_c, stB_c, toArr_one, size_one, toList_toArr, size_toArr, List.length_cons, List.length_nil, List.getElem?_cons_zero, List.getElem?_cons_succ, Nat.zero_add, Nat.add_zero, aExt0, aExt1]
    refine gC.of (Len_spec h4.hp) ?_
    rintro _ _ ⟨rfl, hm⟩
    replace hm := hm.symm
    subst hm
    have e1 : (((t.ids.length : Nat) : Int) == 0) = true := by rw [beq_iff_eq]; omega
    try simp only [go_sem, Int.reduceBEq, Int.reduceBNe, Int.reduceNeg, reduceCtorEq, Nat.reduceEqDiff, Nat.reduceAdd, Nat.reduceLeDiff, Nat.reduceMul, Nat.reduceSub, Int.reduceToNat, Int.reduceLT, Int.reduceLE, load_w, load_a, store_b, idxS_b, set_blk, new_blk, set_next, new_next, len_s, ldW_c, ldA_c, stB_c, toArr_one, size_one, toList_toArr, size_toArr, List.length_cons, List.length_nil, List.getElem?_cons_zero, List.getElem?_cons_succ, Nat.zero_add, Nat.add_zero, e1]
    refine gC.of (ok_spec R.law06_awake) ?_
    rintro _ m_ ⟨rfl, hm_⟩
    replace hm_ := hm_.symm
    subst hm_
    simp only [go_sem, Int.reduceBEq, Int.reduceBNe, Int.reduceNeg, reduceCtorEq, Nat.reduceEqDiff, Nat.reduceAdd, Nat.reduceLeDiff, Nat.reduceMul, Nat.reduceSub, Int.reduceToNat, Int.reduceLT, Int.reduceLE]
    try simp only [go_sem, Int.reduceBEq, Int.reduceBNe, Int.reduceNeg, reduceCtorEq, Nat.reduceEqDiff, Nat.reduceAdd, Nat.reduceLeDiff, Nat.reduceMul, Nat.reduceSub, Int.reduceToNat, Int.reduceLT, Int.reduceLE, load_w, load_a, store_b, idxS_b, set_blk, new_blk, set_next, new_next, len_s, ldW_c, ldA_c, stB_c, toArr_one, size_one, toList_toArr, size_toArr, List.length_cons, List.length_nil, List.getElem?_cons_zero, List.getElem?_cons_succ, Nat.zero_add, Nat.add_zero]
  · omega
end Go.Am


/- HeapPlays, of arguments as they are read. -/
set_option linter.unusedVariables false
namespace Go.Am
theorem hacts_read {m : Mem} {v : Value} (h : Rd m (.sl [.int .i64, .int .i64, .int .u64, .int .u64]) v) : ∃ l : List HAct, Sl m 4 l.length (l.flatMap haV) v ∧ SlLt m v := by
  obtain ⟨l, h1, h2, -⟩ := Rd.slice (f := haV) (fun cs hc => by
    obtain ⟨a, r, rfl, h1, k1⟩ := hc.one
    obtain ⟨b, r, rfl, h2, k2⟩ := k1.one
    obtain ⟨c, r, rfl, h3, k3⟩ := k2.one
    obtain ⟨d, r, rfl, h4, k4⟩ := k3.one
    cases k4.none
    obtain ⟨x, rfl, -⟩ := h1.i64
    obtain ⟨y, rfl, -⟩ := h2.i64
    obtain ⟨z, rfl⟩ := h3.u64
    obtain ⟨t, rfl⟩ := h4.u64
    exact ⟨⟨x, y, z, t⟩, rfl⟩) h
  exact ⟨l, h1, h2⟩
theorem law06_HeapPlays_walk (m : Mem) (us : List Value) (h : RdAs m [(false, [.int .i64]), (false, [.sl [.int .i64, .int .i64, .int .u64, .int .u64]]), (false, [.int .i64])] us) : WC R F.law06_HeapPlays us m fun v _ => v = .bool true := by
  obtain ⟨_, _, rfl, h1, h⟩ := h.one; obtain ⟨_, _, rfl, h2, h⟩ := h.one; obtain ⟨_, _, rfl, h3, h⟩ := h.one; cases h.none
  obtain ⟨n, rfl, -⟩ := h1.rd.i64; obtain ⟨l, hl, hb⟩ := hacts_read h2.rd; obtain ⟨ask, rfl, -⟩ := h3.rd.i64
  exact HeapPlays_spec hl hb
end Go.Am


/- HeapSorts, of arguments as they are read. -/
set_option linter.unusedVariables false
namespace Go.Am
theorem law06_HeapSorts_walk (m : Mem) (us : List Value) (h : RdAs m [(false, [.sl [.int .i64, .int .i64, .int .u64, .int .u64]])] us) : WC R F.law06_HeapSorts us m fun v _ => v = .bool true := by
  obtain ⟨_, _, rfl, h2, h⟩ := h.one; cases h.none
  obtain ⟨l, hl, hb⟩ := hacts_read h2.rd
  exact HeapSorts_spec hl hb
end Go.Am
