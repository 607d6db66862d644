/- Parts of the proofs of the statements of this seat: HeapW2, HeapW3, HeapW4, HeapW5, HeapW6, HeapR1, HeapR2, HeapX1, HeapX2. No conditions. -/
import Derived.Test.YtaenffambcbbhaaHeapSortsPart4
set_option linter.unusedVariables false
set_option linter.unusedSimpArgs false

/- Heaps: who is ahead; two change places. -/
set_option linter.unusedVariables false
set_option linter.unusedSimpArgs false
namespace Go.Am
open Classical
variable {m : Mem}

abbrev pt (b : Nat) : Value := .pointer (some ⟨b, 0, none⟩)
theorem idx_vb {u c o : Nat} {v k : Value} (h : aIdxS u v k = some (.pointer (some ⟨c, o, none⟩))) : c ∈ vb v := by
  unfold aIdxS at h
  split at h
  · split at h
    · cases h; simp [vb]
    · cases h
  · cases h
theorem inN {x n : Nat} (h : x < n) : (0 ≤ ((x : Nat) : Int) ∧ ((x : Nat) : Int) < ((n : Nat) : Int)) = True := eq_true ⟨by omega, by omega⟩
theorem key0 {s : HpS} {x : Nat} (hx : x < s.keys.length) : (s.keys.flatMap kyV)[x * 2]? = some (u64 (s.key x).1) := keys_get (j := 0) hx (by omega)
theorem key1 {s : HpS} {x : Nat} (hx : x < s.keys.length) : (s.keys.flatMap kyV)[x * 2 + 1]? = some (u64 (s.key x).2) := keys_get (j := 1) hx (by omega)

theorem cmpK_lt {p q : Ky} : cmpK p q < 0 ↔ crs p q < crs q p := by unfold cmpK; split <;> (try split) <;> simp_all
theorem cmpK_eq {p q : Ky} : cmpK p q = 0 ↔ crs p q = crs q p := by
  unfold cmpK
  split
  · rename_i h; simp; omega
  · split <;> simp_all

set_option maxHeartbeats 1000000 in
theorem ahead_spec {b kb pb : Nat} {iv : Value} {s : HpS} (h : HpL m b kb pb iv s) {i j : Nat} (hi : i < s.ids.length) (hj : j < s.ids.length) :
    WC R F.heap_Heap_ahead [pt b, .int .i64 i, .int .i64 j] m fun r m' => r = .bool (decide (s.lt (s.at_ i) (s.at_ j))) ∧ m' = m := by
  refine WC.of R.heap_Heap_ahead rfl ?_
  obtain ⟨c, a1, a2⟩ := h.id hi
  obtain ⟨c', a3, a4⟩ := h.id hj
  have nx := h.wf.lt_n (HpS.at_mem hi)
  have ny := h.wf.lt_n (HpS.at_mem hj)
  have dx := h.wf.den _ (HpS.at_mem hi)
  have dy := h.wf.den _ (HpS.at_mem hj)
  have x0 := key0 nx
  have x1 := key1 nx
  have y0 := key0 ny
  have y1 := key1 ny
  have ix := inN nx
  have iy := inN ny
  have hlt : s.lt (s.at_ i) (s.at_ j) ↔ (crs (s.key (s.at_ i)) (s.key (s.at_ j)) < crs (s.key (s.at_ j)) (s.key (s.at_ i)) ∨ crs (s.key (s.at_ i)) (s.key (s.at_ j)) = crs (s.key (s.at_ j)) (s.key (s.at_ i)) ∧ s.at_ i < s.at_ j) := Iff.rfl
  generalize hL : s.lt (s.at_ i) (s.at_ j) = LT at *
  generalize hX : s.at_ i = X at *
  generalize hY : s.at_ j = Y at *
  generalize hp : s.key X = p at *
  generalize hq : s.key Y = q at *
  simp only [RC.heap_Heap_ahead, pt, go_sem, Int.reduceBEq, Int.reduceBNe, Int.reduceNeg, reduceCtorEq, Nat.reduceEqDiff, Nat.reduceAdd, Nat.reduceLeDiff, Nat.reduceMul, Nat.reduceSub, Int.reduceToNat, Int.reduceLT, Int.reduceLE, load_w, load_a, store_b, idxS_b, set_blk, new_blk, set_next, new_next, len_s, ldW_c, ldA_c, stB_c, toArr_one, size_one, toList_toArr, size_toArr, List.length_cons, List.length_nil, List.getElem?_cons_zero, List.getElem?_cons_succ, Nat.zero_add, Nat.add_zero, h.bk.at_, a1, a2, a3, a4, ix, iy, h.kk.at_, x0, x1, y0, y1, Int.toNat_natCast]
  refine gC.of (Compare_spec dx dy) ?_
  rintro _ _ ⟨rfl, hm⟩
  replace hm := hm.symm
  subst hm
  by_cases g1 : crs p q < crs q p
  · have e1 : decide (cmpK p q < 0) = true := decide_eq_true (cmpK_lt.2 g1)
    have e2 : decide LT = true := decide_eq_true (hlt.2 (.inl g1))
    simp only [go_sem, Int.reduceBEq, Int.reduceBNe, Int.reduceNeg, reduceCtorEq, Nat.reduceEqDiff, Nat.reduceAdd, Nat.reduceLeDiff, Nat.reduceMul, Nat.reduceSub, Int.reduceToNat, Int.reduceLT, Int.reduceLE, aExt0, e1, e2]
  · have e1 : decide (cmpK p q < 0) = false := decide_eq_false (fun h => g1 (cmpK_lt.1 h))
    by_cases g2 : crs p q = crs q p
    · have e2 : (cmpK p q == 0) = true := by rw [beq_iff_eq]; exact cmpK_eq.2 g2
      by_cases g3 : X < Y
      · have e3 : decide LT = true := decide_eq_true (hlt.2 (.inr ⟨g2, g3⟩))
        have e4 : decide (((X : Nat) : Int) < ((Y : Nat) : Int)) = true := decide_eq_true (by omega)
        simp only [go_sem, Int.reduceBEq, Int.reduceBNe, Int.reduceNeg, reduceCtorEq, Nat.reduceEqDiff, Nat.reduceAdd, Nat.reduceLeDiff, Nat.reduceMul, Nat.reduceSub, Int.reduceToNat, Int.reduceLT, Int.reduceLE, aExt0, e1, e2, e3, e4]
      · have e3 : decide LT = false := decide_eq_false (fun h => by rcases hlt.1 h with h | h; omega; exact g3 h.2)
        have e4 : decide (((X : Nat) : Int) < ((Y : Nat) : Int)) = false := decide_eq_false (by omega)
        simp only [go_sem, Int.reduceBEq, Int.reduceBNe, Int.reduceNeg, reduceCtorEq, Nat.reduceEqDiff, Nat.reduceAdd, Nat.reduceLeDiff, Nat.reduceMul, Nat.reduceSub, Int.reduceToNat, Int.reduceLT, Int.reduceLE, aExt0, e1, e2, e3, e4]
    · have e2 : (cmpK p q == 0) = false := by rw [beq_eq_false_iff_ne]; exact fun h => g2 (cmpK_eq.1 h)
      have e3 : decide LT = false := decide_eq_false (fun h => by rcases hlt.1 h with h | h; omega; exact g2 h.1)
      simp only [go_sem, Int.reduceBEq, Int.reduceBNe, Int.reduceNeg, reduceCtorEq, Nat.reduceEqDiff, Nat.reduceAdd, Nat.reduceLeDiff, Nat.reduceMul, Nat.reduceSub, Int.reduceToNat, Int.reduceLT, Int.reduceLE, aExt0, e1, e2, e3]

theorem st1 {i : Nat} (h : i < 1000000) : IntKind.wrap .i64 (((i : Nat) : Int) + 1) = ((i + 1 : Nat) : Int) := by rw [wrap_i64 (by omega) (by omega)]; rfl
theorem ext0 {m : Mem} : Ext mem0 m := ⟨Nat.zero_le _, fun b hb => absurd hb (by simp [mem0])⟩

/-- Reading one of the ids. -/
theorem Own.getN {l : List Nat} {iv : Value} (h : Own mem0 m 1 l.length (natsZ l) iv) {i : Nat} (hi : i < l.length) :
    ∃ c, aIdxS 1 iv (.int .i64 i) = some (.pointer (some ⟨c, i, none⟩)) ∧ aLoad false 1 m (.pointer (some ⟨c, i, none⟩)) = some (.int .i64 ((l.getD i 0 : Nat) : Int)) := by
  generalize hn : l.length = n at h hi
  generalize hz : natsZ l = z at h
  cases h with
  | nil h hc => omega
  | @«at» c k all hb hb2 hnk hm hl hcs h1 =>
    refine ⟨c, ?_, ?_⟩
    · simp only [aIdxS]; rw [if_pos (by omega), Int.toNat_natCast, Nat.mul_one, Nat.zero_add]
    · rw [load_w, hm, ldW_c]
      have : z[i]? = all[i]? := by rw [← hcs, List.getElem?_take, if_pos (by omega)]
      rw [← this, ← hz, natsZ_get]
      have hi' : i < l.length := by omega
      rw [List.getD_eq_getElem?_getD, List.getElem?_eq_getElem hi']; rfl
/-- Writing one of the ids. -/
theorem Own.putN {l : List Nat} {iv : Value} (h : Own mem0 m 1 l.length (natsZ l) iv) {i : Nat} (hi : i < l.length) {x : Nat} :
    ∃ c m', c ∈ vb iv ∧ aIdxS 1 iv (.int .i64 i) = some (.pointer (some ⟨c, i, none⟩)) ∧ aStore 1 m (.pointer (some ⟨c, i, none⟩)) (.int .i64 ((x : Nat) : Int)) = some m' ∧
      Own mem0 m' 1 (l.set i x).length (natsZ (l.set i x)) iv ∧ Upd m m' [c] ∧ m'.next = m.next := by
  obtain ⟨c, m', e1, e2, e3, e4⟩ := h.put (w := .int .i64 ((x : Nat) : Int)) (k := .i64) (i := i) (o := 0) ext0 hi (by omega) rfl rfl
  rw [Nat.mul_one, Nat.add_zero] at e2
  rw [Nat.mul_one] at e1
  rw [Nat.mul_one, Nat.add_zero, natsZ_set] at e3
  refine ⟨c, m', idx_vb e1, e1, e2, by rw [List.length_set]; exact e3, ?_, ?_⟩
  · simp only [aStore] at e2
    split at e2
    · exact (aWrite_upd e2).1
    · cases e2
  · simp only [aStore] at e2
    split at e2
    · exact (aWrite_upd e2).2
    · cases e2
/-- Writing where one stands. -/
theorem Bk.putN {l : List Nat} {pb : Nat} (h : Bk m pb (natsZ l) 1) {x k : Nat} (hx : x < l.length) :
    aStore 1 m (.pointer (some ⟨pb, x, none⟩)) (.int .i64 ((k : Nat) : Int)) = some (m.set pb (some (.cells (natsZ (l.set x k)) (some 1)))) ∧ Bk (m.set pb (some (.cells (natsZ (l.set x k)) (some 1)))) pb (natsZ (l.set x k)) 1 := by
  have hc : (Value.int .i64 ((k : Nat) : Int)).cells = #[.int .i64 ((k : Nat) : Int)] := rfl
  refine ⟨?_, by simp [Mem.set], h.lt⟩
  rw [store_b, hc, size_one, toArr_one, h.at_, stB_c, if_pos rfl, if_pos ⟨by rw [natsZ_len]; simp; omega, rfl⟩, writeL_one (by rw [natsZ_len]; omega), natsZ_set]

def hpF (b kb pb : Nat) (iv : Value) : List Nat := b :: kb :: pb :: vb iv

set_option maxHeartbeats 1000000 in
theorem swap_spec {b kb pb : Nat} {iv : Value} {s : HpS} (h : HpL m b kb pb iv s) {i j : Nat} (hi : i < s.ids.length) (hj : j < s.ids.length) :
    WC R F.heap_Heap_swap [pt b, .int .i64 i, .int .i64 j] m fun r m' => HpL m' b kb pb iv (s.swap i j) ∧ Upd m m' (hpF b kb pb iv) := by
  refine WC.of R.heap_Heap_swap rfl ?_
  have hcard := h.wf.card
  have hsz := h.sz.2
  obtain ⟨c, a1, a2⟩ := h.id hi
  obtain ⟨c', a3, a4⟩ := h.id hj
  obtain ⟨c1, m1, v1, b1, b2, b3, b4, b5⟩ := h.ii.putN hi (x := s.at_ j)
  rw [a1] at b1; cases b1
  have ln1 : (s.ids.set i (s.at_ j)).length = s.ids.length := List.length_set
  obtain ⟨c2, m2, v2, d1, d2, d3, d4, d5⟩ := b3.putN (i := j) (x := s.at_ i) (by omega)
  rw [a3] at d1; cases d1
  have n2 := h.n2
  have nn1 := h.n1
  have nb1 : b ∉ [c] := fun hm => n2.1 (by rw [List.mem_singleton.1 hm]; exact v1)
  have nb2 : b ∉ [c'] := fun hm => n2.1 (by rw [List.mem_singleton.1 hm]; exact v2)
  have nk1 : kb ∉ [c] := fun hm => n2.2.1 (by rw [List.mem_singleton.1 hm]; exact v1)
  have nk2 : kb ∉ [c'] := fun hm => n2.2.1 (by rw [List.mem_singleton.1 hm]; exact v2)
  have np1 : pb ∉ [c] := fun hm => n2.2.2 (by rw [List.mem_singleton.1 hm]; exact v1)
  have np2 : pb ∉ [c'] := fun hm => n2.2.2 (by rw [List.mem_singleton.1 hm]; exact v2)
  have hb1 := h.bk.upd b4 nb1
  have hb2 := hb1.upd d4 nb2
  have hk2 := (h.kk.upd b4 nk1).upd d4 nk2
  have hp2 := (h.pp.upd b4 np1).upd d4 np2
  have ln2 : ((s.ids.set i (s.at_ j)).set j (s.at_ i)).length = s.ids.length := by rw [List.length_set, List.length_set]
  obtain ⟨f1, f2, f3⟩ := d3.getN (i := i) (by omega)
  rw [a1] at f2; cases f2
  obtain ⟨g1, g2, g3⟩ := d3.getN (i := j) (by omega)
  rw [a3] at g2; cases g2
  have hai : ((s.ids.set i (s.at_ j)).set j (s.at_ i)).getD i 0 = s.at_ j := by
    have := HpS.swap_at (s := s) (k := i) hi hj
    change ((s.ids.set i (s.at_ j)).set j (s.at_ i)).getD i 0 = _ at this
    rw [this]
    by_cases e : i = j
    · rw [if_pos e, e]
    · rw [if_neg e, if_pos rfl]
  have haj : ((s.ids.set i (s.at_ j)).set j (s.at_ i)).getD j 0 = s.at_ i := by
    have := HpS.swap_at (s := s) (k := j) hi hj
    change ((s.ids.set i (s.at_ j)).set j (s.at_ i)).getD j 0 = _ at this
    rw [this, if_pos rfl]
  rw [hai] at f3
  rw [haj] at g3
  have nx := h.wf.lt_n (HpS.at_mem hi)
  have ny := h.wf.lt_n (HpS.at_mem hj)
  have ix := inN nx
  have iy := inN ny
  have hpl := h.pl_len
  obtain ⟨p1, p2⟩ := hp2.putN (x := s.at_ j) (k := i + 1) (by omega)
  obtain ⟨p3, p4⟩ := p2.putN (x := s.at_ i) (k := j + 1) (by rw [List.length_set]; omega)
  have s1 := st1 (show i < 1000000 by omega)
  have s2 := st1 (show j < 1000000 by omega)
  have rd : ∀ {x : Nat}, 0 + ((x : Nat) : Int).toNat * 1 = x := fun {x} => by simp
  simp only [RC.heap_Heap_swap, pt, go_sem, Int.reduceBEq, Int.reduceBNe, Int.reduceNeg, reduceCtorEq, Nat.reduceEqDiff, Nat.reduceAdd, Nat.reduceLeDiff, Nat.reduceMul, Nat.reduceSub, Int.reduceToNat, Int.reduceLT, Int.reduceLE]
  simp only [go_sem, Int.reduceBEq, Int.reduceBNe, Int.reduceNeg, reduceCtorEq, Nat.reduceEqDiff, Nat.reduceAdd, Nat.reduceLeDiff, Nat.reduceMul, Nat.reduceSub, Int.reduceToNat, Int.reduceLT, Int.reduceLE, load_w, idxS_b, set_blk, ldW_c, List.getElem?_cons_zero, List.getElem?_cons_succ, Nat.zero_add, Nat.add_zero, h.bk.at_, a1, a2, a3, a4, b2, d2]
  simp only [go_sem, Int.reduceBEq, Int.reduceBNe, Int.reduceNeg, reduceCtorEq, Nat.reduceEqDiff, Nat.reduceAdd, Nat.reduceLeDiff, Nat.reduceMul, Nat.reduceSub, Int.reduceToNat, Int.reduceLT, Int.reduceLE, load_w, idxS_b, set_blk, ldW_c, List.getElem?_cons_zero, List.getElem?_cons_succ, Nat.zero_add, Nat.add_zero, hb2.at_, a1, a3, f3, g3, ix, iy, Int.toNat_natCast, Nat.mul_one, s1, s2, p1, p3]
  have hUp : Upd m2 ((m2.set pb (some (.cells (natsZ (s.pl.set (s.at_ j) (i + 1))) (some 1)))).set pb (some (.cells (natsZ ((s.pl.set (s.at_ j) (i + 1)).set (s.at_ i) (j + 1))) (some 1)))) [pb] :=
    (Upd.set (by simp)).trans (Upd.set (by simp)) (fp := [pb]) (fun _ h => h) (fun _ h => .inl h)
  have hX : Upd m ((m2.set pb (some (.cells (natsZ (s.pl.set (s.at_ j) (i + 1))) (some 1)))).set pb (some (.cells (natsZ ((s.pl.set (s.at_ j) (i + 1)).set (s.at_ i) (j + 1))) (some 1)))) (hpF b kb pb iv) := by
    refine ((b4.trans d4 (fr := hpF b kb pb iv) ?_ ?_).trans hUp (fr := hpF b kb pb iv) (fun _ h => h) ?_)
    · intro x hx; rw [List.mem_singleton.1 hx]; simp [hpF, v1]
    · intro x hx; rw [List.mem_singleton.1 hx]; exact .inl (by simp [hpF, v2])
    · intro x hx; rw [List.mem_singleton.1 hx]; exact .inl (by simp [hpF])
  refine ⟨⟨hb2.upd hUp (by simp [nn1.2.1]), hk2.upd hUp (by simp [nn1.2.2]), p4, ?_, nn1, n2, h.wf.swap hi hj, h.sz⟩, hX⟩
  exact d3.updq hUp (fun x hx hm => n2.2.2 (by rw [← List.mem_singleton.1 hm]; exact hx))
end Go.Am


/- Heaps: one goes up, one goes down. -/
set_option linter.unusedVariables false
set_option linter.unusedSimpArgs false
namespace Go.Am
open Classical
variable {m : Mem}

theorem Upd.sameF {a b c : Mem} {fp : List Nat} (h : Upd a b fp) (k : Upd b c fp) : Upd a c fp := h.trans k (fun _ h => h) (fun _ h => .inl h)

set_option maxHeartbeats 1000000 in
theorem up_spec {b kb pb : Nat} {iv : Value} {s : HpS} (h : HpL m b kb pb iv s) {i : Nat} (hi : s.Up i) :
    WC R F.heap_Heap_up [pt b, .int .i64 i] m fun r m' => (∃ s' j, HpS.Same s s' ∧ s'.Dn j ∧ s'.at_ j = s.at_ i ∧ HpL m' b kb pb iv s') ∧ Upd m m' (hpF b kb pb iv) := by
  refine WC.of R.heap_Heap_up rfl ?_
  have hcard := h.wf.card
  have hsz := h.sz.2
  simp only [RC.heap_Heap_up, pt, go_sem, Int.reduceBEq, Int.reduceBNe, Int.reduceNeg, reduceCtorEq, Nat.reduceEqDiff, Nat.reduceAdd, Nat.reduceLeDiff, Nat.reduceMul, Nat.reduceSub, Int.reduceToNat, Int.reduceLT, Int.reduceLE]
  refine WL.of (fun n e m' => ∃ (s' : HpS) (j : Nat), j = n ∧ e = [(0, pt b), (1, .int .i64 ((j : Nat) : Int))] ∧ HpS.Same s s' ∧ s'.Up j ∧ s'.at_ j = s.at_ i ∧ HpL m' b kb pb iv s' ∧ Upd m m' (hpF b kb pb iv)) i
    ⟨s, i, rfl, by simp only [go_sem, Int.reduceBEq, Int.reduceBNe, Int.reduceNeg, reduceCtorEq, Nat.reduceEqDiff, Nat.reduceAdd, Nat.reduceLeDiff, Nat.reduceMul, Nat.reduceSub, Int.reduceToNat, Int.reduceLT, Int.reduceLE], HpS.Same.refl s, hi, rfl, h, Upd.refl _ _⟩ ?_
  rintro _ _ m1 ⟨s1, j, rfl, rfl, hS, hU, hat, h1, hu⟩
  have hlt := hU.lt
  have hlen := hS.len
  simp only [RB.heap_Heap_up_1, pt, go_sem, Int.reduceBEq, Int.reduceBNe, Int.reduceNeg, reduceCtorEq, Nat.reduceEqDiff, Nat.reduceAdd, Nat.reduceLeDiff, Nat.reduceMul, Nat.reduceSub, Int.reduceToNat, Int.reduceLT, Int.reduceLE]
  by_cases g1 : 0 < j
  · have e1 : decide (0 < ((j : Nat) : Int)) = true := decide_eq_true (by omega)
    have q1 : IntKind.wrap .i64 (((j : Nat) : Int) - 1) = ((j - 1 : Nat) : Int) := by rw [wrap_i64 (by omega) (by omega)]; omega
    have q2 : IntKind.wrap .i64 (Int.tdiv ((j - 1 : Nat) : Int) 2) = (((j - 1) / 2 : Nat) : Int) := by
      have : Int.tdiv ((j - 1 : Nat) : Int) 2 = (((j - 1) / 2 : Nat) : Int) := by rw [Int.tdiv_eq_ediv_of_nonneg (by omega)]; omega
      rw [this, wrap_i64 (by omega) (by omega)]
    have hp : (j - 1) / 2 < s1.ids.length := by omega
    try simp only [go_sem, Int.reduceBEq, Int.reduceBNe, Int.reduceNeg, reduceCtorEq, Nat.reduceEqDiff, Nat.reduceAdd, Nat.reduceLeDiff, Nat.reduceMul, Nat.reduceSub, Int.reduceToNat, Int.reduceLT, Int.reduceLE, load_w, load_a, store_b, idxS_b, set_blk, new_blk, set_next, new_next, len_s, ldW_c, ldA_c, stB_c, toArr_one, size_one, toList_toArr, size_toArr, List.length_cons, List.length_nil, List.getElem?_cons_zero, List.getElem?_cons_succ, Nat.zero_add, Nat.add_zero, e1, q1, q2, bin_quo]
    refine ⟨by omega, ?_⟩
    refine gC.of (ahead_spec h1 hlt hp) ?_
    rintro _ _ ⟨rfl, hm⟩
    replace hm := hm.symm
    subst hm
    by_cases g2 : s1.lt (s1.at_ j) (s1.at_ ((j - 1) / 2))
    · try simp only [go_sem, Int.reduceBEq, Int.reduceBNe, Int.reduceNeg, reduceCtorEq, Nat.reduceEqDiff, Nat.reduceAdd, Nat.reduceLeDiff, Nat.reduceMul, Nat.reduceSub, Int.reduceToNat, Int.reduceLT, Int.reduceLE, load_w, load_a, store_b, idxS_b, set_blk, new_blk, set_next, new_next, len_s, ldW_c, ldA_c, stB_c, toArr_one, size_one, toList_toArr, size_toArr, List.length_cons, List.length_nil, List.getElem?_cons_zero, List.getElem?_cons_succ, Nat.zero_add, Nat.add_zero, decide_eq_true g2, q1, q2, bin_quo]
      refine ⟨by omega, ?_⟩
      refine gC.of (swap_spec h1 hlt hp) ?_
      rintro r m2 ⟨h2, hu2⟩
      try simp only [go_sem, Int.reduceBEq, Int.reduceBNe, Int.reduceNeg, reduceCtorEq, Nat.reduceEqDiff, Nat.reduceAdd, Nat.reduceLeDiff, Nat.reduceMul, Nat.reduceSub, Int.reduceToNat, Int.reduceLT, Int.reduceLE, load_w, load_a, store_b, idxS_b, set_blk, new_blk, set_next, new_next, len_s, ldW_c, ldA_c, stB_c, toArr_one, size_one, toList_toArr, size_toArr, List.length_cons, List.length_nil, List.getElem?_cons_zero, List.getElem?_cons_succ, Nat.zero_add, Nat.add_zero, q1, q2, bin_quo]
      refine ⟨by omega, ?_⟩
      refine ⟨(j - 1) / 2, by omega, s1.swap j ((j - 1) / 2), (j - 1) / 2, rfl, rfl, hS.trans (HpS.swap_same hlt hp), hU.step h1.wf g1 g2, ?_, h2, hu.sameF hu2⟩
      rw [HpS.swap_at hlt hp, if_pos rfl]; exact hat
    · try simp only [go_sem, Int.reduceBEq, Int.reduceBNe, Int.reduceNeg, reduceCtorEq, Nat.reduceEqDiff, Nat.reduceAdd, Nat.reduceLeDiff, Nat.reduceMul, Nat.reduceSub, Int.reduceToNat, Int.reduceLT, Int.reduceLE, load_w, load_a, store_b, idxS_b, set_blk, new_blk, set_next, new_next, len_s, ldW_c, ldA_c, stB_c, toArr_one, size_one, toList_toArr, size_toArr, List.length_cons, List.length_nil, List.getElem?_cons_zero, List.getElem?_cons_succ, Nat.zero_add, Nat.add_zero, decide_eq_false g2]
      exact ⟨⟨s1, j, hS, hU.stop h1.wf (fun _ => g2), hat, h1⟩, hu⟩
  · have e1 : decide (0 < ((j : Nat) : Int)) = false := decide_eq_false (by omega)
    try simp only [go_sem, Int.reduceBEq, Int.reduceBNe, Int.reduceNeg, reduceCtorEq, Nat.reduceEqDiff, Nat.reduceAdd, Nat.reduceLeDiff, Nat.reduceMul, Nat.reduceSub, Int.reduceToNat, Int.reduceLT, Int.reduceLE, load_w, load_a, store_b, idxS_b, set_blk, new_blk, set_next, new_next, len_s, ldW_c, ldA_c, stB_c, toArr_one, size_one, toList_toArr, size_toArr, List.length_cons, List.length_nil, List.getElem?_cons_zero, List.getElem?_cons_succ, Nat.zero_add, Nat.add_zero, e1]
    exact ⟨⟨s1, j, hS, hU.stop h1.wf (fun h => absurd h g1), hat, h1⟩, hu⟩

/-- Of who stands here and the two below, who is ahead. -/
theorem down1_loop {b kb pb : Nat} {iv : Value} {s : HpS} (h : HpL m b kb pb iv s) {i : Nat} (hi : i < s.ids.length) :
    WL R [0, 1, 4, 14, 15] RB.heap_Heap_down_1 [(0, pt b), (1, .int .i64 ((i : Nat) : Int)), (4, .int .i64 ((i : Nat) : Int)), (14, .agg #[.int .i64 ((2 * i + 1 : Nat) : Int), .int .i64 ((2 * i + 2 : Nat) : Int)]), (15, .int .i64 0)] m fun y e m' =>
      m' = m ∧ y = .exit 2 ∧ ∃ (l : Nat) (rs : Env), e = (0, pt b) :: (1, .int .i64 ((i : Nat) : Int)) :: (4, .int .i64 ((l : Nat) : Int)) :: rs ∧ l < s.ids.length ∧ (l = i ∨ (0 < l ∧ (l - 1) / 2 = i)) ∧ s.le (s.at_ l) (s.at_ i) ∧
        ∀ k, 0 < k → k < s.ids.length → (k - 1) / 2 = i → s.le (s.at_ l) (s.at_ k) := by
  have hcard := h.wf.card
  have hsz := h.sz.2
  refine WL.of (fun n e m' => ∃ (t l : Nat), t ≤ 2 ∧ n = 2 - t ∧ m' = m ∧ e = [(0, pt b), (1, .int .i64 ((i : Nat) : Int)), (4, .int .i64 ((l : Nat) : Int)), (14, .agg #[.int .i64 ((2 * i + 1 : Nat) : Int), .int .i64 ((2 * i + 2 : Nat) : Int)]), (15, .int .i64 ((t : Nat) : Int))] ∧
      l < s.ids.length ∧ (l = i ∨ (0 < l ∧ (l - 1) / 2 = i)) ∧ s.le (s.at_ l) (s.at_ i) ∧ ∀ k, 2 * i + 1 ≤ k → k < 2 * i + 1 + t → k < s.ids.length → s.le (s.at_ l) (s.at_ k)) 2
    ⟨0, i, by omega, rfl, rfl, by simp only [go_sem, Int.reduceBEq, Int.reduceBNe, Int.reduceNeg, reduceCtorEq, Nat.reduceEqDiff, Nat.reduceAdd, Nat.reduceLeDiff, Nat.reduceMul, Nat.reduceSub, Int.reduceToNat, Int.reduceLT, Int.reduceLE] <;> rfl, hi, .inl rfl, .inr rfl, fun k h1 h2 => by omega⟩ ?_
  rintro _ _ _ ⟨t, l, ht, rfl, hm, rfl, hl, hl2, hle, hall⟩
  replace hm := hm.symm
  subst hm
  simp only [RB.heap_Heap_down_1, pt, go_sem, Int.reduceBEq, Int.reduceBNe, Int.reduceNeg, reduceCtorEq, Nat.reduceEqDiff, Nat.reduceAdd, Nat.reduceLeDiff, Nat.reduceMul, Nat.reduceSub, Int.reduceToNat, Int.reduceLT, Int.reduceLE, load_w, load_a, store_b, idxS_b, set_blk, new_blk, set_next, new_next, len_s, ldW_c, ldA_c, stB_c, toArr_one, size_one, toList_toArr, size_toArr, List.length_cons, List.length_nil, List.getElem?_cons_zero, List.getElem?_cons_succ, Nat.zero_add, Nat.add_zero]
  by_cases g1 : t < 2
  · have e1 : decide (((t : Nat) : Int) < 2) = true := decide_eq_true (by omega)
    have s1 := st1 (show t < 1000000 by omega)
    have ix : aIdxA false 2 1 (.agg #[.int .i64 ((2 * i + 1 : Nat) : Int), .int .i64 ((2 * i + 2 : Nat) : Int)]) (.int .i64 ((t : Nat) : Int)) = some (.int .i64 ((2 * i + 1 + t : Nat) : Int)) := by
      have : t = 0 ∨ t = 1 := by omega
      rcases this with rfl | rfl <;> rfl
    try simp only [go_sem, Int.reduceBEq, Int.reduceBNe, Int.reduceNeg, reduceCtorEq, Nat.reduceEqDiff, Nat.reduceAdd, Nat.reduceLeDiff, Nat.reduceMul, Nat.reduceSub, Int.reduceToNat, Int.reduceLT, Int.reduceLE, load_w, load_a, store_b, idxS_b, set_blk, new_blk, set_next, new_next, len_s, ldW_c, ldA_c, stB_c, toArr_one, size_one, toList_toArr, size_toArr, List.length_cons, List.length_nil, List.getElem?_cons_zero, List.getElem?_cons_succ, Nat.zero_add, Nat.add_zero, e1, ix, h.bk.at_, h.ii.sl.len]
    by_cases g2 : 2 * i + 1 + t < s.ids.length
    · have e2 : decide (((2 * i + 1 + t : Nat) : Int) < ((s.ids.length : Nat) : Int)) = true := decide_eq_true (by omega)
      try simp only [go_sem, Int.reduceBEq, Int.reduceBNe, Int.reduceNeg, reduceCtorEq, Nat.reduceEqDiff, Nat.reduceAdd, Nat.reduceLeDiff, Nat.reduceMul, Nat.reduceSub, Int.reduceToNat, Int.reduceLT, Int.reduceLE, load_w, load_a, store_b, idxS_b, set_blk, new_blk, set_next, new_next, len_s, ldW_c, ldA_c, stB_c, toArr_one, size_one, toList_toArr, size_toArr, List.length_cons, List.length_nil, List.getElem?_cons_zero, List.getElem?_cons_succ, Nat.zero_add, Nat.add_zero, e2]
      refine gC.of (ahead_spec h g2 hl) ?_
      rintro _ _ ⟨rfl, hm⟩
      replace hm := hm.symm
      subst hm
      by_cases g3 : s.lt (s.at_ (2 * i + 1 + t)) (s.at_ l)
      · try simp only [go_sem, Int.reduceBEq, Int.reduceBNe, Int.reduceNeg, reduceCtorEq, Nat.reduceEqDiff, Nat.reduceAdd, Nat.reduceLeDiff, Nat.reduceMul, Nat.reduceSub, Int.reduceToNat, Int.reduceLT, Int.reduceLE, load_w, load_a, store_b, idxS_b, set_blk, new_blk, set_next, new_next, len_s, ldW_c, ldA_c, stB_c, toArr_one, size_one, toList_toArr, size_toArr, List.length_cons, List.length_nil, List.getElem?_cons_zero, List.getElem?_cons_succ, Nat.zero_add, Nat.add_zero, decide_eq_true g3, s1]
        refine ⟨2 - (t + 1), by omega, t + 1, 2 * i + 1 + t, by omega, rfl, rfl, g2, .inr ⟨by omega, by omega⟩, h.wf.trans (HpS.at_mem g2) (HpS.at_mem hl) (HpS.at_mem hi) (.inl g3) hle, fun k h1 h2 h3 => ?_⟩
        by_cases e : k = 2 * i + 1 + t
        · subst e; exact .inr rfl
        · exact h.wf.trans (HpS.at_mem g2) (HpS.at_mem hl) (HpS.at_mem h3) (.inl g3) (hall k h1 (by omega) h3)
      · try simp only [go_sem, Int.reduceBEq, Int.reduceBNe, Int.reduceNeg, reduceCtorEq, Nat.reduceEqDiff, Nat.reduceAdd, Nat.reduceLeDiff, Nat.reduceMul, Nat.reduceSub, Int.reduceToNat, Int.reduceLT, Int.reduceLE, load_w, load_a, store_b, idxS_b, set_blk, new_blk, set_next, new_next, len_s, ldW_c, ldA_c, stB_c, toArr_one, size_one, toList_toArr, size_toArr, List.length_cons, List.length_nil, List.getElem?_cons_zero, List.getElem?_cons_succ, Nat.zero_add, Nat.add_zero, decide_eq_false g3, s1]
        refine ⟨2 - (t + 1), by omega, t + 1, l, by omega, rfl, rfl, hl, hl2, hle, fun k h1 h2 h3 => ?_⟩
        by_cases e : k = 2 * i + 1 + t
        · subst e; exact h.wf.nlt g3
        · exact hall k h1 (by omega) h3
    · have e2 : decide (((2 * i + 1 + t : Nat) : Int) < ((s.ids.length : Nat) : Int)) = false := decide_eq_false (by omega)
      try simp only [go_sem, Int.reduceBEq, Int.reduceBNe, Int.reduceNeg, reduceCtorEq, Nat.reduceEqDiff, Nat.reduceAdd, Nat.reduceLeDiff, Nat.reduceMul, Nat.reduceSub, Int.reduceToNat, Int.reduceLT, Int.reduceLE, load_w, load_a, store_b, idxS_b, set_blk, new_blk, set_next, new_next, len_s, ldW_c, ldA_c, stB_c, toArr_one, size_one, toList_toArr, size_toArr, List.length_cons, List.length_nil, List.getElem?_cons_zero, List.getElem?_cons_succ, Nat.zero_add, Nat.add_zero, e2, s1]
      exact ⟨2 - (t + 1), by omega, t + 1, l, by omega, rfl, rfl, hl, hl2, hle, fun k h1 h2 h3 => hall k h1 (by omega) h3⟩
  · have e1 : decide (((t : Nat) : Int) < 2) = false := decide_eq_false (by omega)
    try simp only [go_sem, Int.reduceBEq, Int.reduceBNe, Int.reduceNeg, reduceCtorEq, Nat.reduceEqDiff, Nat.reduceAdd, Nat.reduceLeDiff, Nat.reduceMul, Nat.reduceSub, Int.reduceToNat, Int.reduceLT, Int.reduceLE, load_w, load_a, store_b, idxS_b, set_blk, new_blk, set_next, new_next, len_s, ldW_c, ldA_c, stB_c, toArr_one, size_one, toList_toArr, size_toArr, List.length_cons, List.length_nil, List.getElem?_cons_zero, List.getElem?_cons_succ, Nat.zero_add, Nat.add_zero, e1]
    exact ⟨l, _, rfl, hl, hl2, hle, fun k k0 kl kp => hall k (by omega) (by omega) kl⟩

set_option maxHeartbeats 1000000 in
theorem down_spec {b kb pb : Nat} {iv : Value} {s : HpS} (h : HpL m b kb pb iv s) {i : Nat} (hi : s.Dn i) :
    WC R F.heap_Heap_down [pt b, .int .i64 i] m fun r m' => (∃ s', HpS.Same s s' ∧ s'.Heap ∧ HpL m' b kb pb iv s') ∧ Upd m m' (hpF b kb pb iv) := by
  refine WC.of R.heap_Heap_down rfl ?_
  have hcard := h.wf.card
  have hsz := h.sz.2
  simp only [RC.heap_Heap_down, pt, go_sem, Int.reduceBEq, Int.reduceBNe, Int.reduceNeg, reduceCtorEq, Nat.reduceEqDiff, Nat.reduceAdd, Nat.reduceLeDiff, Nat.reduceMul, Nat.reduceSub, Int.reduceToNat, Int.reduceLT, Int.reduceLE]
  refine WL.of (fun n e m' => ∃ (s' : HpS) (j : Nat), n = s'.ids.length - j ∧ e = [(0, pt b), (1, .int .i64 ((j : Nat) : Int))] ∧ HpS.Same s s' ∧ s'.Dn j ∧ HpL m' b kb pb iv s' ∧ Upd m m' (hpF b kb pb iv)) (s.ids.length - i)
    ⟨s, i, rfl, by simp only [go_sem, Int.reduceBEq, Int.reduceBNe, Int.reduceNeg, reduceCtorEq, Nat.reduceEqDiff, Nat.reduceAdd, Nat.reduceLeDiff, Nat.reduceMul, Nat.reduceSub, Int.reduceToNat, Int.reduceLT, Int.reduceLE], HpS.Same.refl s, hi, h, Upd.refl _ _⟩ ?_
  rintro _ _ m1 ⟨s1, j, rfl, rfl, hS, hU, h1, hu⟩
  have hlt := hU.lt
  have hlen := hS.len
  have q0 : IntKind.wrap .i64 (2 * ((j : Nat) : Int)) = ((2 * j : Nat) : Int) := by rw [wrap_i64 (by omega) (by omega)]; omega
  have q1 : IntKind.wrap .i64 (((2 * j : Nat) : Int) + 1) = ((2 * j + 1 : Nat) : Int) := by rw [wrap_i64 (by omega) (by omega)]; omega
  have q2 : IntKind.wrap .i64 (((2 * j : Nat) : Int) + 2) = ((2 * j + 2 : Nat) : Int) := by rw [wrap_i64 (by omega) (by omega)]; omega
  simp only [RB.heap_Heap_down_2, pt, go_sem, Int.reduceBEq, Int.reduceBNe, Int.reduceNeg, reduceCtorEq, Nat.reduceEqDiff, Nat.reduceAdd, Nat.reduceLeDiff, Nat.reduceMul, Nat.reduceSub, Int.reduceToNat, Int.reduceLT, Int.reduceLE, q0, q1, q2]
  refine WL.mono (down1_loop h1 hlt) ?_
  rintro _ _ _ ⟨hm, rfl, l, rs, rfl, hl, hl2, hle, hall⟩
  replace hm := hm.symm
  subst hm
  by_cases g1 : l = j
  · have e1 : (((l : Nat) : Int) == ((j : Nat) : Int)) = true := by rw [beq_iff_eq]; omega
    try simp only [go_sem, Int.reduceBEq, Int.reduceBNe, Int.reduceNeg, reduceCtorEq, Nat.reduceEqDiff, Nat.reduceAdd, Nat.reduceLeDiff, Nat.reduceMul, Nat.reduceSub, Int.reduceToNat, Int.reduceLT, Int.reduceLE, load_w, load_a, store_b, idxS_b, set_blk, new_blk, set_next, new_next, len_s, ldW_c, ldA_c, stB_c, toArr_one, size_one, toList_toArr, size_toArr, List.length_cons, List.length_nil, List.getElem?_cons_zero, List.getElem?_cons_succ, Nat.zero_add, Nat.add_zero, e1]
    subst g1
    exact ⟨⟨s1, hS, hU.stop hall, h1⟩, hu⟩
  · have e1 : (((l : Nat) : Int) == ((j : Nat) : Int)) = false := by rw [beq_eq_false_iff_ne]; omega
    have hl3 := hl2.resolve_left g1
    try simp only [go_sem, Int.reduceBEq, Int.reduceBNe, Int.reduceNeg, reduceCtorEq, Nat.reduceEqDiff, Nat.reduceAdd, Nat.reduceLeDiff, Nat.reduceMul, Nat.reduceSub, Int.reduceToNat, Int.reduceLT, Int.reduceLE, load_w, load_a, store_b, idxS_b, set_blk, new_blk, set_next, new_next, len_s, ldW_c, ldA_c, stB_c, toArr_one, size_one, toList_toArr, size_toArr, List.length_cons, List.length_nil, List.getElem?_cons_zero, List.getElem?_cons_succ, Nat.zero_add, Nat.add_zero, e1]
    refine gC.of (swap_spec h1 hlt hl) ?_
    rintro r m2 ⟨h2, hu2⟩
    try simp only [go_sem, Int.reduceBEq, Int.reduceBNe, Int.reduceNeg, reduceCtorEq, Nat.reduceEqDiff, Nat.reduceAdd, Nat.reduceLeDiff, Nat.reduceMul, Nat.reduceSub, Int.reduceToNat, Int.reduceLT, Int.reduceLE, load_w, load_a, store_b, idxS_b, set_blk, new_blk, set_next, new_next, len_s, ldW_c, ldA_c, stB_c, toArr_one, size_one, toList_toArr, size_toArr, List.length_cons, List.length_nil, List.getElem?_cons_zero, List.getElem?_cons_succ, Nat.zero_add, Nat.add_zero]
    have hsl : (s1.swap j l).ids.length = s1.ids.length := HpS.swap_len
    exact ⟨(s1.swap j l).ids.length - l, by omega, s1.swap j l, l, rfl, rfl, hS.trans (HpS.swap_same hlt hl), hU.step h1.wf hl hl3.1 hl3.2 hle hall, h2, hu.sameF hu2⟩
end Go.Am


/- Heaps: a new one; what one tells. -/
set_option linter.unusedVariables false
set_option linter.unusedSimpArgs false
namespace Go.Am
open Classical
variable {m : Mem}

def HpV (m : Mem) (b : Nat) (s : HpS) (F : List Nat) : Prop := ∃ kb pb iv, F = hpF b kb pb iv ∧ HpL m b kb pb iv s
theorem HpV.keep {m m' : Mem} {b : Nat} {s : HpS} {fp : List Nat} (h : HpV m b s fp) (hx : Ext m m') : HpV m' b s fp := let ⟨k, p, i, a, c⟩ := h; ⟨k, p, i, a, c.keep hx⟩
theorem HpV.upd {m m' : Mem} {b : Nat} {s : HpS} {fp fq : List Nat} (h : HpV m b s fp) (hx : Upd m m' fq) (ho : ∀ x ∈ fp, x ∉ fq) : HpV m' b s fp := by
  obtain ⟨k, p, i, rfl, c⟩ := h
  exact ⟨k, p, i, rfl, c.bk.upd hx (ho _ (by simp [hpF])), c.kk.upd hx (ho _ (by simp [hpF])), c.pp.upd hx (ho _ (by simp [hpF])), c.ii.updq hx (fun x hx => ho x (by simp [hpF, hx])), c.n1, c.n2, c.wf, c.sz⟩
theorem HpV.lt {m : Mem} {b : Nat} {s : HpS} {fp : List Nat} (h : HpV m b s fp) : ∀ x ∈ fp, x < m.next := by
  obtain ⟨k, p, i, rfl, c⟩ := h
  intro x hx
  simp only [hpF, List.mem_cons] at hx
  rcases hx with rfl | rfl | rfl | hx
  · exact c.bk.lt
  · exact c.kk.lt
  · exact c.pp.lt
  · exact SlLt.vb_iff.1 c.ii.lt x hx
theorem HpV.wf {m : Mem} {b : Nat} {s : HpS} {fp : List Nat} (h : HpV m b s fp) : s.Wf := let ⟨_, _, _, _, c⟩ := h; c.wf

def empS (n : Nat) : HpS := ⟨List.replicate n (0#64, 0#64), List.replicate n 0, []⟩
theorem empS_wf {n : Nat} : (empS n).Wf := by
  refine ⟨by simp [empS], fun i x h => by simp [empS] at h, fun x k h => ?_, fun x h => by simp [empS] at h⟩
  simp only [empS, List.getElem?_replicate] at h
  split at h <;> simp at h
theorem empS_heap {n : Nat} : (empS n).Heap := fun k h1 h2 => by simp [empS] at h2
theorem makeAt {m : Mem} {u by_ n q : Nat} {z : List Value} {k k' : IntKind} (h1 : n < 2 ^ 62) (h2 : n * by_ ≤ 2 ^ 47) (h3 : z.length = u) (h4 : oneCells z = true) :
    aMake (some q) u by_ z m (.int k n) (.int k' n) = some (.slice (some ⟨q, 0, none⟩) n n, m.set q (some (.cells (zeros z n) (some u)))) := by
  simp only [aMake, place]
  rw [if_pos ⟨by omega, by omega, by omega, by omega, h3, h4⟩, Int.toNat_natCast]
theorem zeros_keys {n : Nat} : zeros [u64 0#64, u64 0#64] n = (List.replicate n ((0#64, 0#64) : Ky)).flatMap kyV := by
  induction n with
  | zero => rfl
  | succ n ih => simp [zeros, ih, List.replicate_succ, kyV]
theorem zeros_nats {n : Nat} : zeros [.int .i64 0] n = natsZ (List.replicate n 0) := by
  induction n with
  | zero => rfl
  | succ n ih => simp [zeros, ih, List.replicate_succ, natsZ]

theorem New_spec {n : Int} : WC R F.heap_New [.int .i64 n] m fun r m' => (¬ (1 ≤ n ∧ n ≤ 1024) ∧ r = .tuple #[.pointer none, .int .i64 1] ∧ Ext m m') ∨
    (1 ≤ n ∧ n ≤ 1024 ∧ ∃ b F, r = .tuple #[pt b, .int .i64 0] ∧ HpV m' b (empS n.toNat) F ∧ (∀ x ∈ F, m.next ≤ x) ∧ Ext m m') := by
  refine WC.of R.heap_New rfl ?_
  simp only [RC.heap_New, go_sem, Int.reduceBEq, Int.reduceBNe, Int.reduceNeg, reduceCtorEq, Nat.reduceEqDiff, Nat.reduceAdd, Nat.reduceLeDiff, Nat.reduceMul, Nat.reduceSub, Int.reduceToNat, Int.reduceLT, Int.reduceLE]
  by_cases g1 : n < 1
  · have e1 : decide (n < 1) = true := decide_eq_true g1
    try simp only [go_sem, Int.reduceBEq, Int.reduceBNe, Int.reduceNeg, reduceCtorEq, Nat.reduceEqDiff, Nat.reduceAdd, Nat.reduceLeDiff, Nat.reduceMul, Nat.reduceSub, Int.reduceToNat, Int.reduceLT, Int.reduceLE, load_w, load_a, store_b, idxS_b, set_blk, new_blk, set_next, new_next, len_s, ldW_c, ldA_c, stB_c, toArr_one, size_one, toList_toArr, size_toArr, List.length_cons, List.length_nil, List.getElem?_cons_zero, List.getElem?_cons_succ, Nat.zero_add, Nat.add_zero, e1]
    exact .inl ⟨by omega, Ext.refl _⟩
  · have e1 : decide (n < 1) = false := decide_eq_false g1
    by_cases g2 : 1024 < n
    · have e2 : decide (1024 < n) = true := decide_eq_true g2
      try simp only [go_sem, Int.reduceBEq, Int.reduceBNe, Int.reduceNeg, reduceCtorEq, Nat.reduceEqDiff, Nat.reduceAdd, Nat.reduceLeDiff, Nat.reduceMul, Nat.reduceSub, Int.reduceToNat, Int.reduceLT, Int.reduceLE, load_w, load_a, store_b, idxS_b, set_blk, new_blk, set_next, new_next, len_s, ldW_c, ldA_c, stB_c, toArr_one, size_one, toList_toArr, size_toArr, List.length_cons, List.length_nil, List.getElem?_cons_zero, List.getElem?_cons_succ, Nat.zero_add, Nat.add_zero, e1, e2]
      exact .inl ⟨by omega, Ext.refl _⟩
    · have e2 : decide (1024 < n) = false := decide_eq_false g2
      obtain ⟨k, rfl⟩ : ∃ k : Nat, n = (k : Int) := ⟨n.toNat, by omega⟩
      have hk : k ≤ 1024 := by omega
      have hk1 : 1 ≤ k := by omega
      try simp only [go_sem, Int.reduceBEq, Int.reduceBNe, Int.reduceNeg, reduceCtorEq, Nat.reduceEqDiff, Nat.reduceAdd, Nat.reduceLeDiff, Nat.reduceMul, Nat.reduceSub, Int.reduceToNat, Int.reduceLT, Int.reduceLE, load_w, load_a, store_b, idxS_b, set_blk, new_blk, set_next, new_next, len_s, ldW_c, ldA_c, stB_c, toArr_one, size_one, toList_toArr, size_toArr, List.length_cons, List.length_nil, List.getElem?_cons_zero, List.getElem?_cons_succ, Nat.zero_add, Nat.add_zero, e1, e2]
      refine Got.of (makeAt (n := k) (by omega) (by omega) rfl rfl) ?_
      try simp only [go_sem, Int.reduceBEq, Int.reduceBNe, Int.reduceNeg, reduceCtorEq, Nat.reduceEqDiff, Nat.reduceAdd, Nat.reduceLeDiff, Nat.reduceMul, Nat.reduceSub, Int.reduceToNat, Int.reduceLT, Int.reduceLE, load_w, load_a, store_b, idxS_b, set_blk, new_blk, set_next, new_next, len_s, ldW_c, ldA_c, stB_c, toArr_one, size_one, toList_toArr, size_toArr, List.length_cons, List.length_nil, List.getElem?_cons_zero, List.getElem?_cons_succ, Nat.zero_add, Nat.add_zero]
      refine Got.of (makeAt (n := k) (by omega) (by omega) rfl rfl) ?_
      rw [zeros_keys, zeros_nats]
      try simp only [go_sem, Int.reduceBEq, Int.reduceBNe, Int.reduceNeg, reduceCtorEq, Nat.reduceEqDiff, Nat.reduceAdd, Nat.reduceLeDiff, Nat.reduceMul, Nat.reduceSub, Int.reduceToNat, Int.reduceLT, Int.reduceLE, load_w, load_a, store_b, idxS_b, set_blk, new_blk, set_next, new_next, len_s, ldW_c, ldA_c, stB_c, toArr_one, size_one, toList_toArr, size_toArr, List.length_cons, List.length_nil, List.getElem?_cons_zero, List.getElem?_cons_succ, Nat.zero_add, Nat.add_zero]
      have hE : Ext m (m.bump 8) := ⟨by simp, fun b hb => rfl⟩
      have hx := (((hE.set (b := m.next + 1) (o := some (.cells ((List.replicate k ((0#64, 0#64) : Ky)).flatMap kyV) (some 2))) (by omega)).set (b := m.next + 3) (o := some (.cells (natsZ (List.replicate k 0)) (some 1))) (by omega)).set (b := m.next + 5) (o := some (.cells [.slice (some ⟨m.next + 1, 0, none⟩) k k, .slice (some ⟨m.next + 3, 0, none⟩) k k, .slice none 0 0] (some 3))) (by omega))
      refine .inr ⟨by omega, by omega, m.next + 5, hpF (m.next + 5) (m.next + 1) (m.next + 3) (.slice none 0 0), rfl, ⟨m.next + 1, m.next + 3, .slice none 0 0, rfl, ?_⟩, ?_, hx⟩
      · refine ⟨⟨?_, ?_⟩, ⟨?_, ?_⟩, ⟨?_, ?_⟩, .nil rfl rfl, ⟨by omega, by omega, by omega⟩, ⟨by simp [vb], by simp [vb], by simp [vb]⟩, empS_wf, by simp [empS]; omega⟩
        all_goals simp [Mem.set, empS]
      · intro x hx
        simp only [hpF, vb, List.mem_cons, List.not_mem_nil, or_false] at hx
        omega

theorem Len_spec {b : Nat} {s : HpS} {fp : List Nat} (h : HpV m b s fp) : WC R F.heap_Heap_Len [pt b] m fun r m' => r = .int .i64 ((s.ids.length : Nat) : Int) ∧ m' = m := by
  obtain ⟨kb, pb, iv, -, h⟩ := h
  refine WC.of R.heap_Heap_Len rfl ?_
  simp only [RC.heap_Heap_Len, pt, go_sem, Int.reduceBEq, Int.reduceBNe, Int.reduceNeg, reduceCtorEq, Nat.reduceEqDiff, Nat.reduceAdd, Nat.reduceLeDiff, Nat.reduceMul, Nat.reduceSub, Int.reduceToNat, Int.reduceLT, Int.reduceLE, load_w, load_a, store_b, idxS_b, set_blk, new_blk, set_next, new_next, len_s, ldW_c, ldA_c, stB_c, toArr_one, size_one, toList_toArr, size_toArr, List.length_cons, List.length_nil, List.getElem?_cons_zero, List.getElem?_cons_succ, Nat.zero_add, Nat.add_zero, h.bk.at_, h.ii.sl.len]

/-- The number of an id that a heap has. -/
def hasId (s : HpS) (id : Int) : Prop := 0 ≤ id ∧ id.toNat ∈ s.ids
theorem has_spec {b : Nat} {s : HpS} {fp : List Nat} {id : Int} (h : HpV m b s fp) : WC R F.heap_Heap_has [pt b, .int .i64 id] m fun r m' => r = .bool (decide (hasId s id)) ∧ m' = m := by
  obtain ⟨kb, pb, iv, -, h⟩ := h
  refine WC.of R.heap_Heap_has rfl ?_
  simp only [RC.heap_Heap_has, pt, go_sem, Int.reduceBEq, Int.reduceBNe, Int.reduceNeg, reduceCtorEq, Nat.reduceEqDiff, Nat.reduceAdd, Nat.reduceLeDiff, Nat.reduceMul, Nat.reduceSub, Int.reduceToNat, Int.reduceLT, Int.reduceLE]
  by_cases g1 : 0 ≤ id
  · have e1 : decide (0 ≤ id) = true := decide_eq_true g1
    obtain ⟨x, rfl⟩ : ∃ x : Nat, id = (x : Int) := ⟨id.toNat, by omega⟩
    by_cases g2 : x < s.keys.length
    · have e2 : decide (((x : Nat) : Int) < ((s.keys.length : Nat) : Int)) = true := decide_eq_true (by omega)
      have ix := inN g2
      have hpl := h.pl_len
      have hg : (natsZ s.pl)[x]? = some (.int .i64 ((s.pl[x]'(by omega) : Nat) : Int)) := by rw [natsZ_get, List.getElem?_eq_getElem (by omega)]; rfl
      try simp only [go_sem, Int.reduceBEq, Int.reduceBNe, Int.reduceNeg, reduceCtorEq, Nat.reduceEqDiff, Nat.reduceAdd, Nat.reduceLeDiff, Nat.reduceMul, Nat.reduceSub, Int.reduceToNat, Int.reduceLT, Int.reduceLE, load_w, load_a, store_b, idxS_b, set_blk, new_blk, set_next, new_next, len_s, ldW_c, ldA_c, stB_c, toArr_one, size_one, toList_toArr, size_toArr, List.length_cons, List.length_nil, List.getElem?_cons_zero, List.getElem?_cons_succ, Nat.zero_add, Nat.add_zero, e1, e2, h.bk.at_, ix, h.pp.at_, Int.toNat_natCast, Nat.mul_one, hg]
      refine congrArg Value.bool ?_
      rw [Bool.eq_iff_iff, decide_eq_true_eq, decide_eq_true_eq]
      unfold hasId
      rw [Int.toNat_natCast, h.wf.in_, List.getElem?_eq_getElem (by omega)]
      constructor
      · intro h1; exact ⟨g1, s.pl[x] - 1, by congr 1; omega⟩
      · rintro ⟨-, k, hk⟩; have := Option.some.inj hk; omega
    · have e2 : decide (((x : Nat) : Int) < ((s.keys.length : Nat) : Int)) = false := decide_eq_false (by omega)
      have e3 : decide (hasId s ((x : Nat) : Int)) = false := decide_eq_false (fun h1 => g2 (h.wf.lt_n (by simpa using h1.2)))
      try simp only [go_sem, Int.reduceBEq, Int.reduceBNe, Int.reduceNeg, reduceCtorEq, Nat.reduceEqDiff, Nat.reduceAdd, Nat.reduceLeDiff, Nat.reduceMul, Nat.reduceSub, Int.reduceToNat, Int.reduceLT, Int.reduceLE, load_w, load_a, store_b, idxS_b, set_blk, new_blk, set_next, new_next, len_s, ldW_c, ldA_c, stB_c, toArr_one, size_one, toList_toArr, size_toArr, List.length_cons, List.length_nil, List.getElem?_cons_zero, List.getElem?_cons_succ, Nat.zero_add, Nat.add_zero, e1, e2, e3, h.bk.at_]
  · have e1 : decide (0 ≤ id) = false := decide_eq_false g1
    have e3 : decide (hasId s id) = false := decide_eq_false (fun h1 => g1 h1.1)
    try simp only [go_sem, Int.reduceBEq, Int.reduceBNe, Int.reduceNeg, reduceCtorEq, Nat.reduceEqDiff, Nat.reduceAdd, Nat.reduceLeDiff, Nat.reduceMul, Nat.reduceSub, Int.reduceToNat, Int.reduceLT, Int.reduceLE, load_w, load_a, store_b, idxS_b, set_blk, new_blk, set_next, new_next, len_s, ldW_c, ldA_c, stB_c, toArr_one, size_one, toList_toArr, size_toArr, List.length_cons, List.length_nil, List.getElem?_cons_zero, List.getElem?_cons_succ, Nat.zero_add, Nat.add_zero, e1, e3]

theorem Key_spec {b : Nat} {s : HpS} {fp : List Nat} {id : Int} (h : HpV m b s fp) : WC R F.heap_Heap_Key [pt b, .int .i64 id] m fun r m' =>
    r = (if hasId s id then .tuple #[u64 (s.key id.toNat).1, u64 (s.key id.toNat).2, .bool true] else .tuple #[u64 0#64, u64 0#64, .bool false]) ∧ m' = m := by
  have hh := h
  obtain ⟨kb, pb, iv, -, h⟩ := h
  refine WC.of R.heap_Heap_Key rfl ?_
  simp only [RC.heap_Heap_Key, pt, go_sem, Int.reduceBEq, Int.reduceBNe, Int.reduceNeg, reduceCtorEq, Nat.reduceEqDiff, Nat.reduceAdd, Nat.reduceLeDiff, Nat.reduceMul, Nat.reduceSub, Int.reduceToNat, Int.reduceLT, Int.reduceLE]
  refine gC.of (has_spec (id := id) hh) ?_
  rintro _ _ ⟨rfl, hm⟩
  replace hm := hm.symm
  subst hm
  by_cases g : hasId s id
  · rw [if_pos g]
    obtain ⟨g1, g2⟩ := g
    have g : hasId s id := ⟨g1, g2⟩
    obtain ⟨x, rfl⟩ : ∃ x : Nat, id = (x : Int) := ⟨id.toNat, by omega⟩
    rw [Int.toNat_natCast] at g2 ⊢
    have nx := h.wf.lt_n g2
    have x0 := key0 nx
    have x1 := key1 nx
    have ix := inN nx
    try simp only [go_sem, Int.reduceBEq, Int.reduceBNe, Int.reduceNeg, reduceCtorEq, Nat.reduceEqDiff, Nat.reduceAdd, Nat.reduceLeDiff, Nat.reduceMul, Nat.reduceSub, Int.reduceToNat, Int.reduceLT, Int.reduceLE, load_w, load_a, store_b, idxS_b, set_blk, new_blk, set_next, new_next, len_s, ldW_c, ldA_c, stB_c, toArr_one, size_one, toList_toArr, size_toArr, List.length_cons, List.length_nil, List.getElem?_cons_zero, List.getElem?_cons_succ, Nat.zero_add, Nat.add_zero, decide_eq_true g, h.bk.at_, ix, h.kk.at_, Int.toNat_natCast, x0, x1]
  · rw [if_neg g]
    try simp only [go_sem, Int.reduceBEq, Int.reduceBNe, Int.reduceNeg, reduceCtorEq, Nat.reduceEqDiff, Nat.reduceAdd, Nat.reduceLeDiff, Nat.reduceMul, Nat.reduceSub, Int.reduceToNat, Int.reduceLT, Int.reduceLE, load_w, load_a, store_b, idxS_b, set_blk, new_blk, set_next, new_next, len_s, ldW_c, ldA_c, stB_c, toArr_one, size_one, toList_toArr, size_toArr, List.length_cons, List.length_nil, List.getElem?_cons_zero, List.getElem?_cons_succ, Nat.zero_add, Nat.add_zero, decide_eq_false g]

theorem Min_spec {b : Nat} {s : HpS} {fp : List Nat} (h : HpV m b s fp) : WC R F.heap_Heap_Min [pt b] m fun r m' =>
    r = (if s.ids.length = 0 then .tuple #[.int .i64 0, .bool false] else .tuple #[.int .i64 ((s.at_ 0 : Nat) : Int), .bool true]) ∧ m' = m := by
  have hh := h
  obtain ⟨kb, pb, iv, -, h⟩ := h
  refine WC.of R.heap_Heap_Min rfl ?_
  simp only [RC.heap_Heap_Min, pt, go_sem, Int.reduceBEq, Int.reduceBNe, Int.reduceNeg, reduceCtorEq, Nat.reduceEqDiff, Nat.reduceAdd, Nat.reduceLeDiff, Nat.reduceMul, Nat.reduceSub, Int.reduceToNat, Int.reduceLT, Int.reduceLE]
  refine gC.of (Len_spec hh) ?_
  rintro _ _ ⟨rfl, hm⟩
  replace hm := hm.symm
  subst hm
  by_cases g : s.ids.length = 0
  · have e1 : (((s.ids.length : Nat) : Int) == 0) = true := by rw [beq_iff_eq]; omega
    rw [if_pos g]
    try simp only [go_sem, Int.reduceBEq, Int.reduceBNe, Int.reduceNeg, reduceCtorEq, Nat.reduceEqDiff, Nat.reduceAdd, Nat.reduceLeDiff, Nat.reduceMul, Nat.reduceSub, Int.reduceToNat, Int.reduceLT, Int.reduceLE, load_w, load_a, store_b, idxS_b, set_blk, new_blk, set_next, new_next, len_s, ldW_c, ldA_c, stB_c, toArr_one, size_one, toList_toArr, size_toArr, List.length_cons, List.length_nil, List.getElem?_cons_zero, List.getElem?_cons_succ, Nat.zero_add, Nat.add_zero, e1]
  · have e1 : (((s.ids.length : Nat) : Int) == 0) = false := by rw [beq_eq_false_iff_ne]; omega
    rw [if_neg g]
    obtain ⟨c, a1, a2⟩ := h.id (i := 0) (by omega)
    have a1 : aIdxS 1 iv (.int .i64 0) = some (.pointer (some ⟨c, 0, none⟩)) := a1
    try simp only [go_sem, Int.reduceBEq, Int.reduceBNe, Int.reduceNeg, reduceCtorEq, Nat.reduceEqDiff, Nat.reduceAdd, Nat.reduceLeDiff, Nat.reduceMul, Nat.reduceSub, Int.reduceToNat, Int.reduceLT, Int.reduceLE, load_w, load_a, store_b, idxS_b, set_blk, new_blk, set_next, new_next, len_s, ldW_c, ldA_c, stB_c, toArr_one, size_one, toList_toArr, size_toArr, List.length_cons, List.length_nil, List.getElem?_cons_zero, List.getElem?_cons_succ, Nat.zero_add, Nat.add_zero, e1, h.bk.at_, a1, a2]
end Go.Am


/- Heaps: Put, Remove, Pop. -/
set_option linter.unusedVariables false
set_option linter.unusedSimpArgs false
namespace Go.Am
open Classical
variable {m : Mem}

theorem keys_set {k : Ky} : ∀ {l : List Ky} {x : Nat}, x < l.length → writeL (l.flatMap kyV) (x * 2) (kyV k) = (l.set x k).flatMap kyV
  | a :: l, 0, _ => by
    unfold writeL
    simp [kyV]
  | a :: l, x + 1, h => by
    have ih := keys_set (k := k) (l := l) (x := x) (by simpa using h)
    rw [List.set_cons_succ, List.flatMap_cons, List.flatMap_cons, ← ih]
    unfold writeL
    rw [show (x + 1) * 2 = (kyV a).length + x * 2 by rw [kyV_len]; omega, List.take_length_add_append, show (kyV a).length + x * 2 + (kyV k).length = (kyV a).length + (x * 2 + (kyV k).length) by omega, List.drop_length_add_append, List.append_assoc, List.append_assoc, List.append_assoc]
theorem Bk.putK {l : List Ky} {kb : Nat} (h : Bk m kb (l.flatMap kyV) 2) {x : Nat} {k : Ky} (hx : x < l.length) :
    aStore 2 m (.pointer (some ⟨kb, x * 2, none⟩)) (.agg #[u64 k.1, u64 k.2]) = some (m.set kb (some (.cells ((l.set x k).flatMap kyV) (some 2)))) ∧ Bk (m.set kb (some (.cells ((l.set x k).flatMap kyV) (some 2)))) kb ((l.set x k).flatMap kyV) 2 := by
  refine ⟨?_, by simp [Mem.set], h.lt⟩
  have hc : (Value.agg #[u64 k.1, u64 k.2]).cells = #[u64 k.1, u64 k.2] := rfl
  have hl : (l.flatMap kyV).length = l.length * 2 := flat_len kyV_len
  have ht : (#[u64 k.1, u64 k.2] : Array Value).toList = kyV k := rfl
  rw [store_b, hc, ht, h.at_, stB_c, if_pos (by rfl), if_pos ⟨by rw [hl, kyV_len]; omega, rfl⟩, keys_set hx]
theorem Own.cutTo {m0 m : Mem} {u n : Nat} {cs : List Value} {v : Value} (h : Own m0 m u n cs v) (hn : 0 < n) {k : Nat} (hk : k ≤ n) :
    ∃ w, aSub u m v none (some (.int .i64 ((k : Nat) : Int))) none = some w ∧ Own m0 m u k (cs.take (k * u)) w ∧ vb w = vb v := by
  cases h with
  | nil h hc => omega
  | @«at» b c all hb hb2 hnc hm hl hcs h1 =>
    refine ⟨_, sub_to (unitOk_own hm) (by omega), .at hb hb2 (by omega) hm hl ?_ ?_, rfl⟩
    · rw [← hcs, List.take_take, Nat.min_eq_left (Nat.mul_le_mul_right _ hk)]
    · unfold oneCells at h1 ⊢
      rw [List.all_eq_true] at h1 ⊢
      exact fun x hx => h1 x (List.mem_of_mem_take hx)

theorem fill_ky {a b : BitVec 64} : fillL [u64 0#64, u64 0#64] [(0, 1, u64 a), (1, 1, u64 b)] = some [u64 a, u64 b] := rfl
def okPut (s : HpS) (id : Int) (den : BitVec 64) : Prop := 0 ≤ id ∧ id < (s.keys.length : Int) ∧ den ≠ 0#64
/-- What a heap is behind a call. -/
structure After (m m' : Mem) (b : Nat) (s t : HpS) (fp : List Nat) : Prop where
  at_ : ∃ fq, HpV m' b t fq ∧ ∀ x ∈ fq, x ∈ fp ∨ m.next ≤ x
  heap : t.Heap
  upd : Upd m m' fp

set_option maxHeartbeats 4000000 in
theorem Put_spec {b : Nat} {s : HpS} {fp : List Nat} {id : Int} {num den : BitVec 64} (h : HpV m b s fp) (hH : s.Heap) :
    WC R F.heap_Heap_Put [pt b, .int .i64 id, u64 num, u64 den] m fun r m' => (¬ okPut s id den ∧ r = .int .i64 1 ∧ m' = m) ∨
      (okPut s id den ∧ r = .int .i64 0 ∧ ∃ t, After m m' b s t fp ∧ t.keys.length = s.keys.length ∧ (∀ y, t.key y = if y = id.toNat then (num, den) else s.key y) ∧ ∀ y, y ∈ t.ids ↔ y ∈ s.ids ∨ y = id.toNat) := by
  obtain ⟨kb, pb, iv, rfl, h⟩ := h
  refine WC.of R.heap_Heap_Put rfl ?_
  have hcard := h.wf.card
  have hsz := h.sz
  have e0 : (((s.keys.length : Nat) : Int) == 0) = false := by rw [beq_eq_false_iff_ne]; omega
  simp only [RC.heap_Heap_Put, pt, go_sem, Int.reduceBEq, Int.reduceBNe, Int.reduceNeg, reduceCtorEq, Nat.reduceEqDiff, Nat.reduceAdd, Nat.reduceLeDiff, Nat.reduceMul, Nat.reduceSub, Int.reduceToNat, Int.reduceLT, Int.reduceLE]
  by_cases g1 : id < 0
  · have e1 : decide (id < 0) = true := decide_eq_true g1
    try simp only [go_sem, Int.reduceBEq, Int.reduceBNe, Int.reduceNeg, reduceCtorEq, Nat.reduceEqDiff, Nat.reduceAdd, Nat.reduceLeDiff, Nat.reduceMul, Nat.reduceSub, Int.reduceToNat, Int.reduceLT, Int.reduceLE, load_w, load_a, store_b, idxS_b, set_blk, new_blk, set_next, new_next, len_s, ldW_c, ldA_c, stB_c, toArr_one, size_one, toList_toArr, size_toArr, List.length_cons, List.length_nil, List.getElem?_cons_zero, List.getElem?_cons_succ, Nat.zero_add, Nat.add_zero, h.bk.at_, e0, e1]
    exact .inl fun hk => by have := hk.1; omega
  have e1 : decide (id < 0) = false := decide_eq_false g1
  obtain ⟨x, rfl⟩ : ∃ x : Nat, id = (x : Int) := ⟨id.toNat, by omega⟩
  by_cases g2 : s.keys.length ≤ x
  · have e2 : decide (((s.keys.length : Nat) : Int) ≤ ((x : Nat) : Int)) = true := decide_eq_true (by omega)
    try simp only [go_sem, Int.reduceBEq, Int.reduceBNe, Int.reduceNeg, reduceCtorEq, Nat.reduceEqDiff, Nat.reduceAdd, Nat.reduceLeDiff, Nat.reduceMul, Nat.reduceSub, Int.reduceToNat, Int.reduceLT, Int.reduceLE, load_w, load_a, store_b, idxS_b, set_blk, new_blk, set_next, new_next, len_s, ldW_c, ldA_c, stB_c, toArr_one, size_one, toList_toArr, size_toArr, List.length_cons, List.length_nil, List.getElem?_cons_zero, List.getElem?_cons_succ, Nat.zero_add, Nat.add_zero, h.bk.at_, e0, e1, e2]
    exact .inl fun hk => by have := hk.2.1; omega
  have e2 : decide (((s.keys.length : Nat) : Int) ≤ ((x : Nat) : Int)) = false := decide_eq_false (by omega)
  by_cases g3 : den = 0#64
  · try simp only [go_sem, Int.reduceBEq, Int.reduceBNe, Int.reduceNeg, reduceCtorEq, Nat.reduceEqDiff, Nat.reduceAdd, Nat.reduceLeDiff, Nat.reduceMul, Nat.reduceSub, Int.reduceToNat, Int.reduceLT, Int.reduceLE, load_w, load_a, store_b, idxS_b, set_blk, new_blk, set_next, new_next, len_s, ldW_c, ldA_c, stB_c, toArr_one, size_one, toList_toArr, size_toArr, List.length_cons, List.length_nil, List.getElem?_cons_zero, List.getElem?_cons_succ, Nat.zero_add, Nat.add_zero, h.bk.at_, e0, e1, e2, decide_eq_true g3]
    exact .inl fun hk => hk.2.2 g3
  have hn : x < s.keys.length := by omega
  have hok : okPut s ((x : Nat) : Int) den := ⟨by omega, by omega, g3⟩
  have ix := inN hn
  obtain ⟨k1, k2⟩ := h.kk.putK (x := x) (k := (num, den)) hn
  have hpl := h.pl_len
  have n1 := h.n1
  have n2 := h.n2
  have hg : (natsZ s.pl)[x]? = some (.int .i64 ((s.pl[x]'(by omega) : Nat) : Int)) := by rw [natsZ_get, List.getElem?_eq_getElem (by omega)]; rfl
  have hgx : s.pl[x]? = some (s.pl[x]'(by omega)) := List.getElem?_eq_getElem _
  have hU1 : Upd m (m.set kb (some (.cells ((s.keys.set x (num, den)).flatMap kyV) (some 2)))) [kb] := Upd.set (by simp)
  have hb1 := h.bk.upd hU1 (by simp [n1.1])
  have hp1 := h.pp.upd hU1 (by simp; exact fun e => n1.2.2 e.symm)
  have hi1 := h.ii.updq hU1 (fun y hy hm => n2.2.1 (by rw [← List.mem_singleton.1 hm]; exact hy))
  generalize hpx : s.pl[x]'(by omega) = p at hg hgx
  have nbk : (b = kb) = False := eq_false n1.1
  have npk : (pb = kb) = False := eq_false (fun e => n1.2.2 e.symm)
  try simp only [go_sem, Int.reduceBEq, Int.reduceBNe, Int.reduceNeg, reduceCtorEq, Nat.reduceEqDiff, Nat.reduceAdd, Nat.reduceLeDiff, Nat.reduceMul, Nat.reduceSub, Int.reduceToNat, Int.reduceLT, Int.reduceLE, load_w, load_a, store_b, idxS_b, set_blk, new_blk, set_next, new_next, len_s, ldW_c, ldA_c, stB_c, toArr_one, size_one, toList_toArr, size_toArr, List.length_cons, List.length_nil, List.getElem?_cons_zero, List.getElem?_cons_succ, Nat.zero_add, Nat.add_zero, h.bk.at_, e0, e1, e2, decide_eq_false g3, ix, Int.toNat_natCast, Nat.mul_one, k1, hn, ↓fill_ky, nbk, npk, h.pp.at_, hg]
  generalize m.set kb (some (.cells ((s.keys.set x (num, den)).flatMap kyV) (some 2))) = m1 at hU1 hb1 hp1 hi1 k2 ⊢
  have hln : (s.keys.set x (num, den)).length = s.keys.length := List.length_set
  cases p with
  | succ i =>
    have e3 : ((((i + 1 : Nat) : Nat) : Int) == 0) = false := by rw [beq_eq_false_iff_ne]; omega
    obtain ⟨W1, hUp⟩ := HpS.put_old (k := (num, den)) h.wf hH g3 hgx
    have hx1 := (HpS.ids_get.1 (h.wf.dn x i hgx)).2
    have h1 : HpL m1 b kb pb iv (s.setK x (num, den)) := ⟨by show Bk m1 b [.slice (some ⟨kb, 0, none⟩) (s.keys.set x (num, den)).length (s.keys.set x (num, den)).length, .slice (some ⟨pb, 0, none⟩) (s.keys.set x (num, den)).length (s.keys.set x (num, den)).length, iv] 3; rw [hln]; exact hb1, k2, hp1, hi1, n1, n2, W1, by show 0 < (s.keys.set x (num, den)).length ∧ (s.keys.set x (num, den)).length ≤ 1024; rw [hln]; exact hsz⟩
    have hkey := fun y => HpS.setK_key (s := s) (y := y) (k := ((num, den) : Ky)) hn
    have hids : (s.setK x (num, den)).ids = s.ids := rfl
    have hn1 : (s.setK x (num, den)).keys.length = s.keys.length := hln
    have hx1 : (s.setK x (num, den)).at_ i = x := hx1
    try simp only [go_sem, Int.reduceBEq, Int.reduceBNe, Int.reduceNeg, reduceCtorEq, Nat.reduceEqDiff, Nat.reduceAdd, Nat.reduceLeDiff, Nat.reduceMul, Nat.reduceSub, Int.reduceToNat, Int.reduceLT, Int.reduceLE, load_w, load_a, store_b, idxS_b, set_blk, new_blk, set_next, new_next, len_s, ldW_c, ldA_c, stB_c, toArr_one, size_one, toList_toArr, size_toArr, List.length_cons, List.length_nil, List.getElem?_cons_zero, List.getElem?_cons_succ, Nat.zero_add, Nat.add_zero, e3]
    generalize s.setK x (num, den) = s1 at *
    have hUm : Upd m m1 (hpF b kb pb iv) := hU1.trans (Upd.refl m1 []) (fun y hy => by rw [List.mem_singleton.1 hy]; simp [hpF]) (fun y hy => by simp at hy)
    have hU1 := hUp
    have hpl1 := h1.pl_len
    have hi1 := hU1.lt
    have hg1 : (natsZ s1.pl)[x]? = some (.int .i64 ((i + 1 : Nat) : Int)) := by rw [natsZ_get, ← hx1, h1.wf.pos hi1]; rfl
    have hc1 := h1.wf.card
    have hs1 := h1.sz.2
    have w1 : IntKind.wrap .i64 (((i + 1 : Nat) : Int) - 1) = ((i : Nat) : Int) := by rw [wrap_i64 (by omega) (by omega)]; omega
    have ix1 : (0 ≤ ((x : Nat) : Int) ∧ ((x : Nat) : Int) < ((s1.keys.length : Nat) : Int)) = True := by rw [hn1]; exact inN hn
    try simp only [go_sem, Int.reduceBEq, Int.reduceBNe, Int.reduceNeg, reduceCtorEq, Nat.reduceEqDiff, Nat.reduceAdd, Nat.reduceLeDiff, Nat.reduceMul, Nat.reduceSub, Int.reduceToNat, Int.reduceLT, Int.reduceLE, load_w, load_a, store_b, idxS_b, set_blk, new_blk, set_next, new_next, len_s, ldW_c, ldA_c, stB_c, toArr_one, size_one, toList_toArr, size_toArr, List.length_cons, List.length_nil, List.getElem?_cons_zero, List.getElem?_cons_succ, Nat.zero_add, Nat.add_zero, h1.bk.at_, ix1, h1.pp.at_, Int.toNat_natCast, Nat.mul_one, hg1, w1]
    refine gC.of (up_spec h1 hU1) ?_
    rintro ra m5 ⟨⟨s2, j, hS2, hD2, hat2, h2⟩, hu2⟩
    have hi2 := hD2.lt
    have hg2 : (natsZ s2.pl)[x]? = some (.int .i64 ((j + 1 : Nat) : Int)) := by rw [natsZ_get, ← hx1, ← hat2, h2.wf.pos hi2]; rfl
    have hc2 := h2.wf.card
    have hs2 := h2.sz.2
    have w2 : IntKind.wrap .i64 (((j + 1 : Nat) : Int) - 1) = ((j : Nat) : Int) := by rw [wrap_i64 (by omega) (by omega)]; omega
    have ix2 : (0 ≤ ((x : Nat) : Int) ∧ ((x : Nat) : Int) < ((s2.keys.length : Nat) : Int)) = True := by rw [hS2.keys, hn1]; exact inN hn
    try simp only [go_sem, Int.reduceBEq, Int.reduceBNe, Int.reduceNeg, reduceCtorEq, Nat.reduceEqDiff, Nat.reduceAdd, Nat.reduceLeDiff, Nat.reduceMul, Nat.reduceSub, Int.reduceToNat, Int.reduceLT, Int.reduceLE, load_w, load_a, store_b, idxS_b, set_blk, new_blk, set_next, new_next, len_s, ldW_c, ldA_c, stB_c, toArr_one, size_one, toList_toArr, size_toArr, List.length_cons, List.length_nil, List.getElem?_cons_zero, List.getElem?_cons_succ, Nat.zero_add, Nat.add_zero, h2.bk.at_, ix2, h2.pp.at_, Int.toNat_natCast, Nat.mul_one, hg2, w2]
    refine gC.of (down_spec h2 hD2) ?_
    rintro rb m6 ⟨⟨s3, hS3, hH3, h3⟩, hu3⟩
    have hS13 := hS2.trans hS3
    try simp only [go_sem, Int.reduceBEq, Int.reduceBNe, Int.reduceNeg, reduceCtorEq, Nat.reduceEqDiff, Nat.reduceAdd, Nat.reduceLeDiff, Nat.reduceMul, Nat.reduceSub, Int.reduceToNat, Int.reduceLT, Int.reduceLE, load_w, load_a, store_b, idxS_b, set_blk, new_blk, set_next, new_next, len_s, ldW_c, ldA_c, stB_c, toArr_one, size_one, toList_toArr, size_toArr, List.length_cons, List.length_nil, List.getElem?_cons_zero, List.getElem?_cons_succ, Nat.zero_add, Nat.add_zero]
    refine .inr ⟨hok, s3, ⟨⟨_, ⟨kb, pb, iv, rfl, h3⟩, fun y hy => .inl hy⟩, hH3, (hUm.sameF hu2).sameF hu3⟩, by rw [hS13.keys, hn1], fun y => ?_, fun y => ?_⟩
    · unfold HpS.key; rw [hS13.keys]; exact hkey y
    · rw [hS13.mem, hids]
      constructor
      · exact .inl
      · rintro (hy | rfl)
        · exact hy
        · exact h.wf.in_.2 ⟨i, hgx⟩
  | zero =>
    obtain ⟨W1, hUp⟩ := HpS.put_new (k := (num, den)) h.wf hH g3 hgx
    have e3 : (((0 : Nat) : Int) == 0) = true := rfl
    obtain ⟨v', m2, q1, q2, q3⟩ := hi1.app (by_ := 8) (es := [.int .i64 ((x : Nat) : Int)]) ext0 (by omega) rfl rfl (by omega) (by omega)
    obtain ⟨a1, a2, a3⟩ := app_updA (M := m1.next) q1 (fun k hk => by cases hk) (by simp [Mem.new])
    have hblk : ∀ c, c < m1.next → c ∉ vb iv → m2.blk c = m1.blk c := fun c hc hn => by
      rw [a2 c hc hn]; simp only [Mem.new]; rw [if_neg (by omega)]
    have hn12 : m1.next ≤ m2.next := by have : (m1.new (.cells [.int .i64 ((x : Nat) : Int)] (some 1))).next = m1.next + 1 := rfl; omega
    have hb2 : Bk m2 b _ 3 := ⟨by rw [hblk b hb1.lt n2.1]; exact hb1.at_, by have := hb1.lt; omega⟩
    have hk2 : Bk m2 kb _ 2 := ⟨by rw [hblk kb k2.lt n2.2.1]; exact k2.at_, by have := k2.lt; omega⟩
    have hp2 : Bk m2 pb _ 1 := ⟨by rw [hblk pb hp1.lt n2.2.2]; exact hp1.at_, by have := hp1.lt; omega⟩
    have hvs : ∃ a n c, v' = .slice a n c := by cases q2 <;> exact ⟨_, _, _, rfl⟩
    obtain ⟨va, vn, vc, rfl⟩ := hvs
    have hvn : vn = s.ids.length + 1 := by cases q2 <;> first | rfl | omega
    subst hvn
    have hoff : b ∉ vb (.slice va (s.ids.length + 1) vc) ∧ kb ∉ vb (.slice va (s.ids.length + 1) vc) ∧ pb ∉ vb (.slice va (s.ids.length + 1) vc) := by
      have := hb1.lt; have := k2.lt; have := hp1.lt
      rcases a3 with e | ⟨k, e, hk⟩
      · rw [e]; exact n2
      · rw [e]; simp; omega
    have q2' : Own mem0 m2 1 (s.ids ++ [x]).length (natsZ (s.ids ++ [x])) (.slice va (s.ids.length + 1) vc) := by
      have e : natsZ (s.ids ++ [x]) = natsZ s.ids ++ [.int .i64 ((x : Nat) : Int)] := by unfold natsZ; rw [List.map_append]; rfl
      rw [e, List.length_append]; exact q2
    have hU3 : Upd m2 (m2.set b (some (.cells [.slice (some ⟨kb, 0, none⟩) s.keys.length s.keys.length, .slice (some ⟨pb, 0, none⟩) s.keys.length s.keys.length, .slice va (s.ids.length + 1) vc] (some 3)))) [b] := Upd.set (by simp)
    have hb3 : Bk (m2.set b (some (.cells [.slice (some ⟨kb, 0, none⟩) s.keys.length s.keys.length, .slice (some ⟨pb, 0, none⟩) s.keys.length s.keys.length, .slice va (s.ids.length + 1) vc] (some 3)))) b [.slice (some ⟨kb, 0, none⟩) s.keys.length s.keys.length, .slice (some ⟨pb, 0, none⟩) s.keys.length s.keys.length, .slice va (s.ids.length + 1) vc] 3 := ⟨by simp [Mem.set], hb2.lt⟩
    have hk3 := hk2.upd hU3 (by simp; exact fun e => n1.1 e.symm)
    have hp3 := hp2.upd hU3 (by simp; exact fun e => n1.2.1 e.symm)
    have hi3 := q2'.updq hU3 (fun y hy hm => hoff.1 (by rw [← List.mem_singleton.1 hm]; exact hy))
    try simp only [go_sem, Int.reduceBEq, Int.reduceBNe, Int.reduceNeg, reduceCtorEq, Nat.reduceEqDiff, Nat.reduceAdd, Nat.reduceLeDiff, Nat.reduceMul, Nat.reduceSub, Int.reduceToNat, Int.reduceLT, Int.reduceLE, load_w, load_a, store_b, idxS_b, set_blk, new_blk, set_next, new_next, len_s, ldW_c, ldA_c, stB_c, toArr_one, size_one, toList_toArr, size_toArr, List.length_cons, List.length_nil, List.getElem?_cons_zero, List.getElem?_cons_succ, Nat.zero_add, Nat.add_zero, e3, hb1.at_, hb1.ne, q1]
    have hst : stB m2 b (m2.blk b) 2 [.slice va (s.ids.length + 1) vc] = some (m2.set b (some (.cells [.slice (some ⟨kb, 0, none⟩) s.keys.length s.keys.length, .slice (some ⟨pb, 0, none⟩) s.keys.length s.keys.length, .slice va (s.ids.length + 1) vc] (some 3)))) := by
      rw [hb2.at_, stB_c, if_pos ⟨by simp, rfl⟩]; rfl
    rw [hst, Got.some]
    generalize m2.set b (some (.cells [.slice (some ⟨kb, 0, none⟩) s.keys.length s.keys.length, .slice (some ⟨pb, 0, none⟩) s.keys.length s.keys.length, .slice va (s.ids.length + 1) vc] (some 3))) = m3 at hU3 hb3 hk3 hp3 hi3 ⊢
    have hlen3 : aLen (.slice va (s.ids.length + 1) vc) = some (.int .i64 ((s.ids.length + 1 : Nat) : Int)) := rfl
    obtain ⟨p1, p2⟩ := hp3.putN (x := x) (k := s.ids.length + 1) (by omega)
    simp only [go_sem, Int.reduceBEq, Int.reduceBNe, Int.reduceNeg, reduceCtorEq, Nat.reduceEqDiff, Nat.reduceAdd, Nat.reduceLeDiff, Nat.reduceMul, Nat.reduceSub, Int.reduceToNat, Int.reduceLT, Int.reduceLE, load_w, idxS_b, ldW_c, List.getElem?_cons_zero, List.getElem?_cons_succ, Nat.zero_add, Nat.add_zero, hb3.at_, ix, Int.toNat_natCast, Nat.mul_one, p1, hlen3]
    have hU4 : Upd m3 (m3.set pb (some (.cells (natsZ (s.pl.set x (s.ids.length + 1))) (some 1)))) [pb] := Upd.set (by simp)
    have hb4 := hb3.upd hU4 (fun hm => n1.2.1 (List.mem_singleton.1 hm))
    have hk4 := hk3.upd hU4 (fun hm => n1.2.2 (List.mem_singleton.1 hm))
    have hi4 := hi3.updq hU4 (fun y hy hm => hoff.2.2 (by rw [← List.mem_singleton.1 hm]; exact hy))
    generalize m3.set pb (some (.cells (natsZ (s.pl.set x (s.ids.length + 1))) (some 1))) = m4 at hU4 hb4 hk4 hi4 p2 ⊢
    have hx1 : (s.addK x (num, den)).at_ s.ids.length = x := by
      show (s.ids ++ [x]).getD _ 0 = x
      simp
    have h1 : HpL m4 b kb pb (.slice va (s.ids.length + 1) vc) (s.addK x (num, den)) := ⟨by show Bk m4 b [.slice (some ⟨kb, 0, none⟩) (s.keys.set x (num, den)).length (s.keys.set x (num, den)).length, .slice (some ⟨pb, 0, none⟩) (s.keys.set x (num, den)).length (s.keys.set x (num, den)).length, .slice va (s.ids.length + 1) vc] 3; rw [hln]; exact hb4, hk4, p2, hi4, n1, hoff, W1, by show 0 < (s.keys.set x (num, den)).length ∧ (s.keys.set x (num, den)).length ≤ 1024; rw [hln]; exact hsz⟩
    have hkey : ∀ y, (s.addK x (num, den)).key y = if y = x then (num, den) else s.key y := fun y => HpS.setK_key (s := s) (y := y) (k := ((num, den) : Ky)) hn
    have hids : (s.addK x (num, den)).ids = s.ids ++ [x] := rfl
    have hn1 : (s.addK x (num, den)).keys.length = s.keys.length := hln
    have hUm : Upd m m4 (hpF b kb pb iv) := by
      have hz : Upd m1 m2 (vb iv) := ⟨hn12, fun c hc hn => hblk c hc hn⟩
      refine (((hU1.trans hz (fr := hpF b kb pb iv) (fun y hy => by rw [List.mem_singleton.1 hy]; simp [hpF]) (fun y hy => .inl (by simp [hpF, hy]))).trans hU3 (fr := hpF b kb pb iv) (fun _ h => h) (fun y hy => .inl (by rw [List.mem_singleton.1 hy]; simp [hpF]))).trans hU4 (fr := hpF b kb pb iv) (fun _ h => h) (fun y hy => .inl (by rw [List.mem_singleton.1 hy]; simp [hpF])))
    have hmv : ∀ y ∈ hpF b kb pb (.slice va (s.ids.length + 1) vc), y ∈ hpF b kb pb iv ∨ m.next ≤ y := by
      intro y hy
      have := hU1.next
      simp only [hpF, List.mem_cons] at hy ⊢
      rcases hy with hy | hy | hy | hy
      · exact .inl (.inl hy)
      · exact .inl (.inr (.inl hy))
      · exact .inl (.inr (.inr (.inl hy)))
      · rcases a3 with e | ⟨k, e, hk⟩
        · rw [e] at hy; exact .inl (.inr (.inr (.inr hy)))
        · rw [e] at hy; simp at hy; exact .inr (by omega)
    have hum : ∀ {M M'}, Upd M M' (hpF b kb pb (.slice va (s.ids.length + 1) vc)) → Upd m M (hpF b kb pb iv) → Upd m M' (hpF b kb pb iv) := fun h2 h1 => h1.trans h2 (fun _ h => h) (fun y hy => hmv y hy)
    generalize hi0 : s.ids.length = i at hUp hx1
    rw [hi0] at h1 hmv hum
    generalize s.addK x (num, den) = s1 at *
    have hU1 := hUp
    have hpl1 := h1.pl_len
    have hi1 := hU1.lt
    have hg1 : (natsZ s1.pl)[x]? = some (.int .i64 ((i + 1 : Nat) : Int)) := by rw [natsZ_get, ← hx1, h1.wf.pos hi1]; rfl
    have hc1 := h1.wf.card
    have hs1 := h1.sz.2
    have w1 : IntKind.wrap .i64 (((i + 1 : Nat) : Int) - 1) = ((i : Nat) : Int) := by rw [wrap_i64 (by omega) (by omega)]; omega
    have ix1 : (0 ≤ ((x : Nat) : Int) ∧ ((x : Nat) : Int) < ((s1.keys.length : Nat) : Int)) = True := by rw [hn1]; exact inN hn
    try simp only [go_sem, Int.reduceBEq, Int.reduceBNe, Int.reduceNeg, reduceCtorEq, Nat.reduceEqDiff, Nat.reduceAdd, Nat.reduceLeDiff, Nat.reduceMul, Nat.reduceSub, Int.reduceToNat, Int.reduceLT, Int.reduceLE, load_w, load_a, store_b, idxS_b, set_blk, new_blk, set_next, new_next, len_s, ldW_c, ldA_c, stB_c, toArr_one, size_one, toList_toArr, size_toArr, List.length_cons, List.length_nil, List.getElem?_cons_zero, List.getElem?_cons_succ, Nat.zero_add, Nat.add_zero, h1.bk.at_, ix1, h1.pp.at_, Int.toNat_natCast, Nat.mul_one, hg1, w1]
    refine gC.of (up_spec h1 hU1) ?_
    rintro ra m5 ⟨⟨s2, j, hS2, hD2, hat2, h2⟩, hu2⟩
    have hi2 := hD2.lt
    have hg2 : (natsZ s2.pl)[x]? = some (.int .i64 ((j + 1 : Nat) : Int)) := by rw [natsZ_get, ← hx1, ← hat2, h2.wf.pos hi2]; rfl
    have hc2 := h2.wf.card
    have hs2 := h2.sz.2
    have w2 : IntKind.wrap .i64 (((j + 1 : Nat) : Int) - 1) = ((j : Nat) : Int) := by rw [wrap_i64 (by omega) (by omega)]; omega
    have ix2 : (0 ≤ ((x : Nat) : Int) ∧ ((x : Nat) : Int) < ((s2.keys.length : Nat) : Int)) = True := by rw [hS2.keys, hn1]; exact inN hn
    try simp only [go_sem, Int.reduceBEq, Int.reduceBNe, Int.reduceNeg, reduceCtorEq, Nat.reduceEqDiff, Nat.reduceAdd, Nat.reduceLeDiff, Nat.reduceMul, Nat.reduceSub, Int.reduceToNat, Int.reduceLT, Int.reduceLE, load_w, load_a, store_b, idxS_b, set_blk, new_blk, set_next, new_next, len_s, ldW_c, ldA_c, stB_c, toArr_one, size_one, toList_toArr, size_toArr, List.length_cons, List.length_nil, List.getElem?_cons_zero, List.getElem?_cons_succ, Nat.zero_add, Nat.add_zero, h2.bk.at_, ix2, h2.pp.at_, Int.toNat_natCast, Nat.mul_one, hg2, w2]
    refine gC.of (down_spec h2 hD2) ?_
    rintro rb m6 ⟨⟨s3, hS3, hH3, h3⟩, hu3⟩
    have hS13 := hS2.trans hS3
    try simp only [go_sem, Int.reduceBEq, Int.reduceBNe, Int.reduceNeg, reduceCtorEq, Nat.reduceEqDiff, Nat.reduceAdd, Nat.reduceLeDiff, Nat.reduceMul, Nat.reduceSub, Int.reduceToNat, Int.reduceLT, Int.reduceLE, load_w, load_a, store_b, idxS_b, set_blk, new_blk, set_next, new_next, len_s, ldW_c, ldA_c, stB_c, toArr_one, size_one, toList_toArr, size_toArr, List.length_cons, List.length_nil, List.getElem?_cons_zero, List.getElem?_cons_succ, Nat.zero_add, Nat.add_zero]
    refine .inr ⟨hok, s3, ⟨⟨_, ⟨kb, pb, _, rfl, h3⟩, hmv⟩, hH3, hum hu3 (hum hu2 hUm)⟩, by rw [hS13.keys, hn1], fun y => ?_, fun y => ?_⟩
    · unfold HpS.key; rw [hS13.keys]; exact hkey y
    · rw [hS13.mem, hids, List.mem_append, List.mem_singleton]

end Go.Am


/- Heaps: Remove, Pop. -/
set_option linter.unusedVariables false
set_option linter.unusedSimpArgs false
namespace Go.Am
open Classical
variable {m : Mem}

set_option maxHeartbeats 4000000 in
theorem Remove_spec {b : Nat} {s : HpS} {fp : List Nat} {id : Int} (h : HpV m b s fp) (hH : s.Heap) :
    WC R F.heap_Heap_Remove [pt b, .int .i64 id] m fun r m' => (¬ hasId s id ∧ r = .bool false ∧ m' = m) ∨
      (hasId s id ∧ r = .bool true ∧ ∃ t, After m m' b s t fp ∧ t.keys = s.keys ∧ ∀ y, y ∈ t.ids ↔ y ∈ s.ids ∧ y ≠ id.toNat) := by
  have hh := h
  obtain ⟨kb, pb, iv, rfl, h⟩ := h
  refine WC.of R.heap_Heap_Remove rfl ?_
  have hcard := h.wf.card
  have hsz := h.sz
  simp only [RC.heap_Heap_Remove, pt, go_sem, Int.reduceBEq, Int.reduceBNe, Int.reduceNeg, reduceCtorEq, Nat.reduceEqDiff, Nat.reduceAdd, Nat.reduceLeDiff, Nat.reduceMul, Nat.reduceSub, Int.reduceToNat, Int.reduceLT, Int.reduceLE]
  refine gC.of (has_spec (id := id) hh) ?_
  rintro _ _ ⟨rfl, hm⟩
  replace hm := hm.symm
  subst hm
  by_cases g : hasId s id
  · obtain ⟨g1, g2⟩ := g
    have g : hasId s id := ⟨g1, g2⟩
    obtain ⟨x, rfl⟩ : ∃ x : Nat, id = (x : Int) := ⟨id.toNat, by omega⟩
    rw [Int.toNat_natCast] at g2
    have hn := h.wf.lt_n g2
    have ix := inN hn
    obtain ⟨i, hi⟩ := h.wf.in_.1 g2
    obtain ⟨hil, hix⟩ := HpS.ids_get.1 (h.wf.dn x i hi)
    have hg : (natsZ s.pl)[x]? = some (.int .i64 ((i + 1 : Nat) : Int)) := by rw [natsZ_get, hi]; rfl
    have w1 : IntKind.wrap .i64 (((i + 1 : Nat) : Int) - 1) = ((i : Nat) : Int) := by rw [wrap_i64 (by omega) (by omega)]; omega
    have w2 : IntKind.wrap .i64 (((s.ids.length : Nat) : Int) - 1) = ((s.ids.length - 1 : Nat) : Int) := by rw [wrap_i64 (by omega) (by omega)]; omega
    try simp only [go_sem, Int.reduceBEq, Int.reduceBNe, Int.reduceNeg, reduceCtorEq, Nat.reduceEqDiff, Nat.reduceAdd, Nat.reduceLeDiff, Nat.reduceMul, Nat.reduceSub, Int.reduceToNat, Int.reduceLT, Int.reduceLE, load_w, load_a, store_b, idxS_b, set_blk, new_blk, set_next, new_next, len_s, ldW_c, ldA_c, stB_c, toArr_one, size_one, toList_toArr, size_toArr, List.length_cons, List.length_nil, List.getElem?_cons_zero, List.getElem?_cons_succ, Nat.zero_add, Nat.add_zero, decide_eq_true g, h.bk.at_, ix, h.pp.at_, Int.toNat_natCast, Nat.mul_one, hg, w1, h.ii.sl.len, w2]
    have hll : s.ids.length - 1 < s.ids.length := by omega
    refine gC.of (swap_spec h hil hll) ?_
    rintro ra m1 ⟨h1, hu1⟩
    obtain ⟨r1, r2, r3, r4⟩ := HpS.rem h.wf hH hi
    have hS1 := HpS.swap_same hil hll
    have hsl : (s.swap i (s.ids.length - 1)).ids.length = s.ids.length := HpS.swap_len
    have hcl : ((s.swap i (s.ids.length - 1)).cut x).ids.length = s.ids.length - 1 := by rw [HpS.cut_len, hsl]
    have hcids : ((s.swap i (s.ids.length - 1)).cut x).ids = (s.swap i (s.ids.length - 1)).ids.take (s.ids.length - 1) := by
      show (s.swap i (s.ids.length - 1)).ids.take ((s.swap i (s.ids.length - 1)).ids.length - 1) = _
      rw [hsl]
    have hcpl : ((s.swap i (s.ids.length - 1)).cut x).pl = (s.swap i (s.ids.length - 1)).pl.set x 0 := rfl
    have hck : ((s.swap i (s.ids.length - 1)).cut x).keys = s.keys := rfl
    have hk1 : (s.swap i (s.ids.length - 1)).keys = s.keys := rfl
    generalize hS2 : (s.swap i (s.ids.length - 1)).cut x = s2 at *
    generalize s.swap i (s.ids.length - 1) = s1 at *
    obtain ⟨w, c1, c2, c3⟩ := h1.ii.cutTo (by omega) (k := s.ids.length - 1) (by omega)
    have hbk1 := h1.bk
    rw [hk1] at hbk1
    have hn1 := h1.n1
    have hn2 := h1.n2
    have hws : ∃ a n c, w = .slice a n c := by cases c2 <;> exact ⟨_, _, _, rfl⟩
    obtain ⟨wa, wn, wc, rfl⟩ := hws
    simp only [go_sem, Int.reduceBEq, Int.reduceBNe, Int.reduceNeg, reduceCtorEq, Nat.reduceEqDiff, Nat.reduceAdd, Nat.reduceLeDiff, Nat.reduceMul, Nat.reduceSub, Int.reduceToNat, Int.reduceLT, Int.reduceLE, load_w, idxS_b, ldW_c, List.getElem?_cons_zero, List.getElem?_cons_succ, Nat.zero_add, Nat.add_zero, Int.toNat_natCast, Nat.mul_one, hbk1.at_, c1]
    have hst : aStore 1 m1 (.pointer (some ⟨b, 2, none⟩)) (.slice wa wn wc) = some (m1.set b (some (.cells [.slice (some ⟨kb, 0, none⟩) s.keys.length s.keys.length, .slice (some ⟨pb, 0, none⟩) s.keys.length s.keys.length, .slice wa wn wc] (some 3)))) := by
      have hc : (Value.slice wa wn wc).cells = #[.slice wa wn wc] := rfl
      rw [store_b, hc, size_one, toArr_one, hbk1.at_, stB_c, if_pos rfl, if_pos ⟨by simp, rfl⟩]; rfl
    refine Got.of hst ?_
    have hU2 : Upd m1 (m1.set b (some (.cells [.slice (some ⟨kb, 0, none⟩) s.keys.length s.keys.length, .slice (some ⟨pb, 0, none⟩) s.keys.length s.keys.length, .slice wa wn wc] (some 3)))) [b] := Upd.set (by simp)
    have hb2 : Bk (m1.set b (some (.cells [.slice (some ⟨kb, 0, none⟩) s.keys.length s.keys.length, .slice (some ⟨pb, 0, none⟩) s.keys.length s.keys.length, .slice wa wn wc] (some 3)))) b [.slice (some ⟨kb, 0, none⟩) s.keys.length s.keys.length, .slice (some ⟨pb, 0, none⟩) s.keys.length s.keys.length, .slice wa wn wc] 3 := ⟨by simp [Mem.set], hbk1.lt⟩
    generalize m1.set b (some (.cells [.slice (some ⟨kb, 0, none⟩) s.keys.length s.keys.length, .slice (some ⟨pb, 0, none⟩) s.keys.length s.keys.length, .slice wa wn wc] (some 3))) = m2 at hU2 hb2 ⊢
    have hk2 := h1.kk.upd hU2 (fun hm => hn1.1 (List.mem_singleton.1 hm).symm)
    have hp2 := h1.pp.upd hU2 (fun hm => hn1.2.1 (List.mem_singleton.1 hm).symm)
    rw [← c3] at hn2
    have hi2 := c2.updq hU2 (fun y hy hm => hn2.1 (by rw [← List.mem_singleton.1 hm]; exact hy))
    obtain ⟨p1, p2⟩ := hp2.putN (x := x) (k := 0) (by rw [h1.pl_len, hk1]; exact hn)
    have p1 : aStore 1 m2 (.pointer (some ⟨pb, x, none⟩)) (.int .i64 0) = _ := p1
    simp only [go_sem, Int.reduceBEq, Int.reduceBNe, Int.reduceNeg, reduceCtorEq, Nat.reduceEqDiff, Nat.reduceAdd, Nat.reduceLeDiff, Nat.reduceMul, Nat.reduceSub, Int.reduceToNat, Int.reduceLT, Int.reduceLE, load_w, idxS_b, ldW_c, List.getElem?_cons_zero, List.getElem?_cons_succ, Nat.zero_add, Nat.add_zero, Int.toNat_natCast, Nat.mul_one, hb2.at_, ix, p1]
    have hU3 : Upd m2 (m2.set pb (some (.cells (natsZ (s1.pl.set x 0)) (some 1)))) [pb] := Upd.set (by simp)
    generalize m2.set pb (some (.cells (natsZ (s1.pl.set x 0)) (some 1))) = m3 at hU3 p2 ⊢
    have hb3 := hb2.upd hU3 (fun hm => hn1.2.1 (List.mem_singleton.1 hm))
    have hk3 := hk2.upd hU3 (fun hm => hn1.2.2 (List.mem_singleton.1 hm))
    have hi3 := hi2.updq hU3 (fun y hy hm => hn2.2.2 (by rw [← List.mem_singleton.1 hm]; exact hy))
    rw [← hcpl] at p2
    have hnz : natsZ s2.ids = (natsZ s1.ids).take ((s.ids.length - 1) * 1) := by rw [hcids, Nat.mul_one]; unfold natsZ; rw [List.map_take]
    rw [← hnz, ← hcl] at hi3
    have h3 : HpL m3 b kb pb (.slice wa wn wc) s2 := ⟨by rw [hck]; exact hb3, by rw [hck, ← hk1]; exact hk3, p2, hi3, hn1, hn2, r1, by rw [hck]; exact hsz⟩
    have hFF : hpF b kb pb (.slice wa wn wc) = hpF b kb pb iv := by unfold hpF; rw [c3]
    have hUm : Upd m m3 (hpF b kb pb iv) := ((hu1.trans hU2 (fr := hpF b kb pb iv) (fun _ h => h) (fun y hy => .inl (by rw [List.mem_singleton.1 hy]; simp [hpF]))).trans hU3 (fr := hpF b kb pb iv) (fun _ h => h) (fun y hy => .inl (by rw [List.mem_singleton.1 hy]; simp [hpF])))
    by_cases g5 : i < s.ids.length - 1
    · have e5 : decide (((i : Nat) : Int) < ((s.ids.length - 1 : Nat) : Int)) = true := decide_eq_true (by omega)
      have hU := r3 g5
      obtain ⟨cc, d1, d2⟩ := h3.id hU.lt
      try simp only [go_sem, Int.reduceBEq, Int.reduceBNe, Int.reduceNeg, reduceCtorEq, Nat.reduceEqDiff, Nat.reduceAdd, Nat.reduceLeDiff, Nat.reduceMul, Nat.reduceSub, Int.reduceToNat, Int.reduceLT, Int.reduceLE, load_w, load_a, store_b, idxS_b, set_blk, new_blk, set_next, new_next, len_s, ldW_c, ldA_c, stB_c, toArr_one, size_one, toList_toArr, size_toArr, List.length_cons, List.length_nil, List.getElem?_cons_zero, List.getElem?_cons_succ, Nat.zero_add, Nat.add_zero, e5, hb3.at_, d1, d2]
      refine gC.of (up_spec h3 hU) ?_
      rintro rb m5 ⟨⟨s4, j, hS4, hD4, hat4, h4⟩, hu4⟩
      have hi4 := hD4.lt
      have hg2 : (natsZ s4.pl)[s2.at_ i]? = some (.int .i64 ((j + 1 : Nat) : Int)) := by rw [natsZ_get, ← hat4, h4.wf.pos hi4]; rfl
      have hc2 := h4.wf.card
      have hs2 := h4.sz.2
      have w3 : IntKind.wrap .i64 (((j + 1 : Nat) : Int) - 1) = ((j : Nat) : Int) := by rw [wrap_i64 (by omega) (by omega)]; omega
      have ix2 := inN (h4.wf.lt_n (HpS.at_mem hi4))
      rw [hat4] at ix2
      try simp only [go_sem, Int.reduceBEq, Int.reduceBNe, Int.reduceNeg, reduceCtorEq, Nat.reduceEqDiff, Nat.reduceAdd, Nat.reduceLeDiff, Nat.reduceMul, Nat.reduceSub, Int.reduceToNat, Int.reduceLT, Int.reduceLE, load_w, load_a, store_b, idxS_b, set_blk, new_blk, set_next, new_next, len_s, ldW_c, ldA_c, stB_c, toArr_one, size_one, toList_toArr, size_toArr, List.length_cons, List.length_nil, List.getElem?_cons_zero, List.getElem?_cons_succ, Nat.zero_add, Nat.add_zero, h4.bk.at_, ix2, h4.pp.at_, Int.toNat_natCast, Nat.mul_one, hg2, w3]
      refine gC.of (down_spec h4 hD4) ?_
      rintro rc m6 ⟨⟨s5, hS5, hH5, h5⟩, hu5⟩
      rw [hFF] at hu4 hu5
      have hS25 := hS4.trans hS5
      try simp only [go_sem, Int.reduceBEq, Int.reduceBNe, Int.reduceNeg, reduceCtorEq, Nat.reduceEqDiff, Nat.reduceAdd, Nat.reduceLeDiff, Nat.reduceMul, Nat.reduceSub, Int.reduceToNat, Int.reduceLT, Int.reduceLE, load_w, load_a, store_b, idxS_b, set_blk, new_blk, set_next, new_next, len_s, ldW_c, ldA_c, stB_c, toArr_one, size_one, toList_toArr, size_toArr, List.length_cons, List.length_nil, List.getElem?_cons_zero, List.getElem?_cons_succ, Nat.zero_add, Nat.add_zero]
      refine .inr ⟨g, s5, ⟨⟨_, ⟨kb, pb, _, rfl, h5⟩, fun y hy => .inl (by rw [← hFF]; exact hy)⟩, hH5, (hUm.sameF hu4).sameF hu5⟩, by rw [hS25.keys, hck], fun y => ?_⟩
      rw [hS25.mem, r2]
    · have e5 : decide (((i : Nat) : Int) < ((s.ids.length - 1 : Nat) : Int)) = false := decide_eq_false (by omega)
      try simp only [go_sem, Int.reduceBEq, Int.reduceBNe, Int.reduceNeg, reduceCtorEq, Nat.reduceEqDiff, Nat.reduceAdd, Nat.reduceLeDiff, Nat.reduceMul, Nat.reduceSub, Int.reduceToNat, Int.reduceLT, Int.reduceLE, load_w, load_a, store_b, idxS_b, set_blk, new_blk, set_next, new_next, len_s, ldW_c, ldA_c, stB_c, toArr_one, size_one, toList_toArr, size_toArr, List.length_cons, List.length_nil, List.getElem?_cons_zero, List.getElem?_cons_succ, Nat.zero_add, Nat.add_zero, e5]
      exact .inr ⟨g, s2, ⟨⟨_, ⟨kb, pb, _, rfl, h3⟩, fun y hy => .inl (by rw [← hFF]; exact hy)⟩, r4 g5, hUm⟩, hck, r2⟩
  · try simp only [go_sem, Int.reduceBEq, Int.reduceBNe, Int.reduceNeg, reduceCtorEq, Nat.reduceEqDiff, Nat.reduceAdd, Nat.reduceLeDiff, Nat.reduceMul, Nat.reduceSub, Int.reduceToNat, Int.reduceLT, Int.reduceLE, load_w, load_a, store_b, idxS_b, set_blk, new_blk, set_next, new_next, len_s, ldW_c, ldA_c, stB_c, toArr_one, size_one, toList_toArr, size_toArr, List.length_cons, List.length_nil, List.getElem?_cons_zero, List.getElem?_cons_succ, Nat.zero_add, Nat.add_zero, decide_eq_false g]
    exact .inl g

theorem Pop_spec {b : Nat} {s : HpS} {fp : List Nat} (h : HpV m b s fp) (hH : s.Heap) :
    WC R F.heap_Heap_Pop [pt b] m fun r m' => (s.ids.length = 0 ∧ r = .tuple #[.int .i64 0, .bool false] ∧ m' = m) ∨
      (0 < s.ids.length ∧ r = .tuple #[.int .i64 ((s.at_ 0 : Nat) : Int), .bool true] ∧ ∃ t, After m m' b s t fp ∧ t.keys = s.keys ∧ ∀ y, y ∈ t.ids ↔ y ∈ s.ids ∧ y ≠ s.at_ 0) := by
  refine WC.of R.heap_Heap_Pop rfl ?_
  simp only [RC.heap_Heap_Pop, pt, go_sem, Int.reduceBEq, Int.reduceBNe, Int.reduceNeg, reduceCtorEq, Nat.reduceEqDiff, Nat.reduceAdd, Nat.reduceLeDiff, Nat.reduceMul, Nat.reduceSub, Int.reduceToNat, Int.reduceLT, Int.reduceLE]
  refine gC.of (Min_spec h) ?_
  rintro _ _ ⟨rfl, hm⟩
  replace hm := hm.symm
  subst hm
  by_cases g : s.ids.length = 0
  · rw [if_pos g]
    try simp only [go_sem, Int.reduceBEq, Int.reduceBNe, Int.reduceNeg, reduceCtorEq, Nat.reduceEqDiff, Nat.reduceAdd, Nat.reduceLeDiff, Nat.reduceMul, Nat.reduceSub, Int.reduceToNat, Int.reduceLT, Int.reduceLE, load_w, load_a, store_b, idxS_b, set_blk, new_blk, set_next, new_next, len_s, ldW_c, ldA_c, stB_c, toArr_one, size_one, toList_toArr, size_toArr, List.length_cons, List.length_nil, List.getElem?_cons_zero, List.getElem?_cons_succ, Nat.zero_add, Nat.add_zero, aExt0, aExt1]
    exact .inl g
  · rw [if_neg g]
    try simp only [go_sem, Int.reduceBEq, Int.reduceBNe, Int.reduceNeg, reduceCtorEq, Nat.reduceEqDiff, Nat.reduceAdd, Nat.reduceLeDiff, Nat.reduceMul, Nat.reduceSub, Int.reduceToNat, Int.reduceLT, Int.reduceLE, load_w, load_a, store_b, idxS_b, set_blk, new_blk, set_next, new_next, len_s, ldW_c, ldA_c, stB_c, toArr_one, size_one, toList_toArr, size_toArr, List.length_cons, List.length_nil, List.getElem?_cons_zero, List.getElem?_cons_succ, Nat.zero_add, Nat.add_zero, aExt0, aExt1]
    have hid : hasId s ((s.at_ 0 : Nat) : Int) := ⟨by omega, by rw [Int.toNat_natCast]; exact HpS.at_mem (by omega)⟩
    refine gC.of (Remove_spec (id := ((s.at_ 0 : Nat) : Int)) h hH) ?_
    rintro r m1 (⟨hn, -⟩ | ⟨-, rfl, t, h1, h2, h3⟩)
    · exact absurd hid hn
    · rw [Int.toNat_natCast] at h3
      try simp only [go_sem, Int.reduceBEq, Int.reduceBNe, Int.reduceNeg, reduceCtorEq, Nat.reduceEqDiff, Nat.reduceAdd, Nat.reduceLeDiff, Nat.reduceMul, Nat.reduceSub, Int.reduceToNat, Int.reduceLT, Int.reduceLE, load_w, load_a, store_b, idxS_b, set_blk, new_blk, set_next, new_next, len_s, ldW_c, ldA_c, stB_c, toArr_one, size_one, toList_toArr, size_toArr, List.length_cons, List.length_nil, List.getElem?_cons_zero, List.getElem?_cons_succ, Nat.zero_add, Nat.add_zero]
      exact .inr ⟨by omega, t, h1, h2, h3⟩
end Go.Am


/- Heaps' reference: products bit by bit. -/
set_option linter.unusedVariables false
set_option linter.unusedSimpArgs false
namespace Go.Am
open Classical
variable {m : Mem}

def widV (h l : BitVec 64) : Value := .agg #[u64 h, u64 l]
def valW (h l : BitVec 64) : Nat := h.toNat * 18446744073709551616 + l.toNat

theorem twice_val {h l : BitVec 64} (hh : h.toNat < 9223372036854775808) : valW (h <<< 1 ||| l >>> 63) (l <<< 1 ||| 0#64) = 2 * valW h l := by
  unfold valW
  have e1 : (h <<< 1 ||| l >>> 63).toNat = 2 * h.toNat + l.toNat / 9223372036854775808 := by
    rw [BitVec.toNat_or, BitVec.toNat_shiftLeft, BitVec.toNat_ushiftRight, Nat.shiftRight_eq_div_pow]
    have hb : l.toNat / 2 ^ 63 < 2 ^ 1 := by have := l.isLt; omega
    rw [Nat.mod_eq_of_lt (by rw [Nat.shiftLeft_eq]; omega), ← Nat.shiftLeft_add_eq_or_of_lt hb, Nat.shiftLeft_eq]
    omega
  have e2 : (l <<< 1 ||| 0#64).toNat = 2 * l.toNat % 18446744073709551616 := by
    rw [BitVec.or_zero, BitVec.toNat_shiftLeft, Nat.shiftLeft_eq]; omega
  rw [e1, e2]
  have := l.isLt
  omega
theorem sum_val {h l a : BitVec 64} (hs : valW h l + a.toNat < 340282366920938463463374607431768211456) : valW (if (l + a).toNat < l.toNat then h + 0#64 + 1#64 else h + 0#64) (l + a) = valW h l + a.toNat := by
  unfold valW at *
  have h1 := l.isLt
  have h2 := a.isLt
  have h3 := h.isLt
  rw [BitVec.toNat_add]
  by_cases g : l.toNat + a.toNat < 18446744073709551616
  · rw [Nat.mod_eq_of_lt (by omega), if_neg (by omega), BitVec.add_zero]; omega
  · rw [show (l.toNat + a.toNat) % 2 ^ 64 = l.toNat + a.toNat - 18446744073709551616 by omega, if_pos (by omega), BitVec.add_zero, BitVec.toNat_add]
    have : (1#64).toNat = 1 := rfl
    rw [this, Nat.mod_eq_of_lt (by omega)]; omega

theorem Twice_spec {h l : BitVec 64} : WC R F.ref02_Twice [widV h l, u64 0#64] m fun r m' => (∃ t, r = .tuple #[widV (h <<< 1 ||| l >>> 63) (l <<< 1 ||| 0#64), t]) ∧ Ext m m' := by
  refine WC.of R.ref02_Twice rfl ?_
  simp only [RC.ref02_Twice, widV, go_sem, Int.reduceBEq, Int.reduceBNe, Int.reduceNeg, reduceCtorEq, Nat.reduceEqDiff, Nat.reduceAdd, Nat.reduceLeDiff, Nat.reduceMul, Nat.reduceSub, Int.reduceToNat, Int.reduceLT, Int.reduceLE]
  have hx1 : Ext m (m.new (.cells [u64 h, u64 l] (some 2))) := Ext.new
  have hb1 : Bk (m.new (.cells [u64 h, u64 l] (some 2))) m.next [u64 h, u64 l] 2 := Bk.new
  generalize m.new (.cells [u64 h, u64 l] (some 2)) = m1 at hx1 hb1 ⊢
  have hx2 : Ext m1 (m1.new (.cells [u64 0#64, u64 0#64] (some 2))) := Ext.new
  have hb2 : Bk (m1.new (.cells [u64 0#64, u64 0#64] (some 2))) m1.next [u64 0#64, u64 0#64] 2 := Bk.new
  generalize m1.new (.cells [u64 0#64, u64 0#64] (some 2)) = m2 at hx2 hb2 ⊢
  have hb12 := hb1.keep hx2
  have hl1 := hb1.lt
  have ne1 : (m.next = m1.next) = False := eq_false (by omega)
  have w1 : (1#64 : BitVec 64).toNat = 1 := rfl
  have w63 : (63#64 : BitVec 64).toNat = 63 := rfl
  try simp only [go_sem, Int.reduceBEq, Int.reduceBNe, Int.reduceNeg, reduceCtorEq, Nat.reduceEqDiff, Nat.reduceAdd, Nat.reduceLeDiff, Nat.reduceMul, Nat.reduceSub, Int.reduceToNat, Int.reduceLT, Int.reduceLE, load_w, load_a, store_b, idxS_b, set_blk, new_blk, set_next, new_next, len_s, ldW_c, ldA_c, stB_c, toArr_one, size_one, toList_toArr, size_toArr, List.length_cons, List.length_nil, List.getElem?_cons_zero, List.getElem?_cons_succ, Nat.zero_add, Nat.add_zero, hb12.at_, hb2.at_, ne1, ↓fill_ky, w1, w63]
  exact ⟨⟨_, rfl⟩, (hx1.trans hx2).set hx1.next⟩
theorem Sum_spec {h l a : BitVec 64} : WC R F.ref02_Sum [widV h l, widV 0#64 a] m fun r m' => r = widV (if (l + a).toNat < l.toNat then h + 0#64 + 1#64 else h + 0#64) (l + a) ∧ Ext m m' := by
  refine WC.of R.ref02_Sum rfl ?_
  simp only [RC.ref02_Sum, widV, go_sem, Int.reduceBEq, Int.reduceBNe, Int.reduceNeg, reduceCtorEq, Nat.reduceEqDiff, Nat.reduceAdd, Nat.reduceLeDiff, Nat.reduceMul, Nat.reduceSub, Int.reduceToNat, Int.reduceLT, Int.reduceLE]
  have hx1 : Ext m (m.new (.cells [u64 h, u64 l] (some 2))) := Ext.new
  have hb1 : Bk (m.new (.cells [u64 h, u64 l] (some 2))) m.next [u64 h, u64 l] 2 := Bk.new
  generalize m.new (.cells [u64 h, u64 l] (some 2)) = m1 at hx1 hb1 ⊢
  have hx2 : Ext m1 (m1.new (.cells [u64 0#64, u64 a] (some 2))) := Ext.new
  have hb2 : Bk (m1.new (.cells [u64 0#64, u64 a] (some 2))) m1.next [u64 0#64, u64 a] 2 := Bk.new
  generalize m1.new (.cells [u64 0#64, u64 a] (some 2)) = m2 at hx2 hb2 ⊢
  have hb12 := hb1.keep hx2
  have hl1 := hb1.lt
  have hl2 := hb2.lt
  have hn2 := hb2.ne
  have hn1 := hb12.ne
  try simp only [go_sem, Int.reduceBEq, Int.reduceBNe, Int.reduceNeg, reduceCtorEq, Nat.reduceEqDiff, Nat.reduceAdd, Nat.reduceLeDiff, Nat.reduceMul, Nat.reduceSub, Int.reduceToNat, Int.reduceLT, Int.reduceLE, load_w, load_a, store_b, idxS_b, set_blk, new_blk, set_next, new_next, len_s, ldW_c, ldA_c, stB_c, toArr_one, size_one, toList_toArr, size_toArr, List.length_cons, List.length_nil, List.getElem?_cons_zero, List.getElem?_cons_succ, Nat.zero_add, Nat.add_zero, hb12.at_, hb2.at_, hn1, hn2]
  by_cases g : (l + a).toNat < l.toNat
  · have e : decide ((l + a).toNat < l.toNat) = true := decide_eq_true g
    rw [if_pos g]
    try simp only [go_sem, Int.reduceBEq, Int.reduceBNe, Int.reduceNeg, reduceCtorEq, Nat.reduceEqDiff, Nat.reduceAdd, Nat.reduceLeDiff, Nat.reduceMul, Nat.reduceSub, Int.reduceToNat, Int.reduceLT, Int.reduceLE, load_w, load_a, store_b, idxS_b, set_blk, new_blk, set_next, new_next, len_s, ldW_c, ldA_c, stB_c, toArr_one, size_one, toList_toArr, size_toArr, List.length_cons, List.length_nil, List.getElem?_cons_zero, List.getElem?_cons_succ, Nat.zero_add, Nat.add_zero, e, ↓fill_ky]
    exact (hx1.trans hx2).trans Ext.new
  · have e : decide ((l + a).toNat < l.toNat) = false := decide_eq_false g
    rw [if_neg g]
    try simp only [go_sem, Int.reduceBEq, Int.reduceBNe, Int.reduceNeg, reduceCtorEq, Nat.reduceEqDiff, Nat.reduceAdd, Nat.reduceLeDiff, Nat.reduceMul, Nat.reduceSub, Int.reduceToNat, Int.reduceLT, Int.reduceLE, load_w, load_a, store_b, idxS_b, set_blk, new_blk, set_next, new_next, len_s, ldW_c, ldA_c, stB_c, toArr_one, size_one, toList_toArr, size_toArr, List.length_cons, List.length_nil, List.getElem?_cons_zero, List.getElem?_cons_succ, Nat.zero_add, Nat.add_zero, e, ↓fill_ky]
    exact (hx1.trans hx2).trans Ext.new

theorem shr_step (b : BitVec 64) (i : Nat) : b.toNat / 2 ^ i = 2 * (b.toNat / 2 ^ (i + 1)) + (b.toNat / 2 ^ i) % 2 := by
  rw [Nat.pow_succ, ← Nat.div_div_eq_div_mul]; omega
theorem bit_and (b : BitVec 64) (i : Nat) : (b >>> i &&& 1#64 = 1#64) ↔ (b.toNat / 2 ^ i) % 2 = 1 := by
  have h1 : (b >>> i &&& 1#64).toNat = (b.toNat / 2 ^ i) % 2 := by
    rw [BitVec.toNat_and, BitVec.toNat_ushiftRight, Nat.shiftRight_eq_div_pow]
    exact Nat.and_one_is_mod _
  rw [← BitVec.toNat_inj, h1]; rfl

set_option maxHeartbeats 1000000 in
theorem Times_spec {a b : BitVec 64} : WC R F.ref02_Times [u64 a, u64 b] m fun r m' => ∃ h l, r = widV h l ∧ valW h l = a.toNat * b.toNat ∧ Ext m m' := by
  refine WC.of R.ref02_Times rfl ?_
  simp only [RC.ref02_Times, go_sem, Int.reduceBEq, Int.reduceBNe, Int.reduceNeg, reduceCtorEq, Nat.reduceEqDiff, Nat.reduceAdd, Nat.reduceLeDiff, Nat.reduceMul, Nat.reduceSub, Int.reduceToNat, Int.reduceLT, Int.reduceLE]
  have hx1 : Ext m (m.new (.cells [u64 0#64, u64 0#64] (some 2))) := Ext.new
  have hb1 : Bk (m.new (.cells [u64 0#64, u64 0#64] (some 2))) m.next [u64 0#64, u64 0#64] 2 := Bk.new
  generalize m.new (.cells [u64 0#64, u64 0#64] (some 2)) = m1 at hx1 hb1 ⊢
  have hf0 : fillL [u64 0#64, u64 0#64] [] = some [u64 0#64, u64 0#64] := rfl
  try simp only [go_sem, Int.reduceBEq, Int.reduceBNe, Int.reduceNeg, reduceCtorEq, Nat.reduceEqDiff, Nat.reduceAdd, Nat.reduceLeDiff, Nat.reduceMul, Nat.reduceSub, Int.reduceToNat, Int.reduceLT, Int.reduceLE, load_w, load_a, store_b, idxS_b, set_blk, new_blk, set_next, new_next, len_s, ldW_c, ldA_c, stB_c, toArr_one, size_one, toList_toArr, size_toArr, List.length_cons, List.length_nil, List.getElem?_cons_zero, List.getElem?_cons_succ, Nat.zero_add, Nat.add_zero, hf0]
  have hx2 : Ext m1 (m1.new (.cells [u64 0#64, u64 0#64] (some 2))) := Ext.new
  have hb2 : Bk (m1.new (.cells [u64 0#64, u64 0#64] (some 2))) m1.next [u64 0#64, u64 0#64] 2 := Bk.new
  generalize m1.new (.cells [u64 0#64, u64 0#64] (some 2)) = m2 at hx2 hb2 ⊢
  have hl1 := hb1.lt
  have hn1 := hx1.next
  refine WL.of (fun n e m' => ∃ (h l : BitVec 64), n ≤ 64 ∧ e = [(0, u64 a), (1, u64 b), (4, pt m.next), (5, pt m1.next), (6, .int .i64 (((n : Nat) : Int) - 1))] ∧ Bk m' m.next [u64 0#64, u64 0#64] 2 ∧ Bk m' m1.next [u64 h, u64 l] 2 ∧ valW h l = a.toNat * (b.toNat / 2 ^ n) ∧ Ext m m') 64
    ⟨0#64, 0#64, by omega, by simp only [go_sem, Int.reduceBEq, Int.reduceBNe, Int.reduceNeg, reduceCtorEq, Nat.reduceEqDiff, Nat.reduceAdd, Nat.reduceLeDiff, Nat.reduceMul, Nat.reduceSub, Int.reduceToNat, Int.reduceLT, Int.reduceLE] <;> rfl, hb1.keep hx2, hb2, ?_, hx1.trans hx2⟩ ?_
  · have : b.toNat / 2 ^ 64 = 0 := Nat.div_eq_of_lt b.isLt
    rw [this]; rfl
  rintro n _ m3 ⟨h, l, hn, rfl, hb4, hb5, hv, hx3⟩
  simp only [RB.ref02_Times_1, pt, go_sem, Int.reduceBEq, Int.reduceBNe, Int.reduceNeg, reduceCtorEq, Nat.reduceEqDiff, Nat.reduceAdd, Nat.reduceLeDiff, Nat.reduceMul, Nat.reduceSub, Int.reduceToNat, Int.reduceLT, Int.reduceLE, load_w, load_a, store_b, idxS_b, set_blk, new_blk, set_next, new_next, len_s, ldW_c, ldA_c, stB_c, toArr_one, size_one, toList_toArr, size_toArr, List.length_cons, List.length_nil, List.getElem?_cons_zero, List.getElem?_cons_succ, Nat.zero_add, Nat.add_zero]
  have ne1 : (m.next = m1.next) = False := eq_false (by omega)
  have ne2 : (m1.next = m.next) = False := eq_false (by omega)
  cases n with
  | zero =>
    have e1 : decide ((0 : Int) ≤ 0 - 1) = false := by decide
    rw [Nat.pow_zero, Nat.div_one] at hv
    try simp only [go_sem, Int.reduceBEq, Int.reduceBNe, Int.reduceNeg, reduceCtorEq, Nat.reduceEqDiff, Nat.reduceAdd, Nat.reduceLeDiff, Nat.reduceMul, Nat.reduceSub, Int.reduceToNat, Int.reduceLT, Int.reduceLE, load_w, load_a, store_b, idxS_b, set_blk, new_blk, set_next, new_next, len_s, ldW_c, ldA_c, stB_c, toArr_one, size_one, toList_toArr, size_toArr, List.length_cons, List.length_nil, List.getElem?_cons_zero, List.getElem?_cons_succ, Nat.zero_add, Nat.add_zero, e1, hb5.at_, hb4.at_]
    exact ⟨h, l, rfl, hv, hx3.set (Nat.le_refl _)⟩
  | succ j =>
    have e1 : decide (0 ≤ ((j : Nat) : Int)) = true := decide_eq_true (by omega)
    have ej : ((j + 1 : Nat) : Int) - 1 = ((j : Nat) : Int) := by omega
    have hcv : (BitVec.ofInt 64 ((j : Nat) : Int)).toNat = j := by rw [BitVec.toNat_ofInt]; omega
    have hw : IntKind.wrap .i64 (((j : Nat) : Int) - 1) = ((j : Nat) : Int) - 1 := wrap_i64 (by omega) (by omega)
    have hbj : b.toNat / 2 ^ (j + 1) < 9223372036854775808 := by
      have h1 : (2 : Nat) ≤ 2 ^ (j + 1) := by have := Nat.pow_le_pow_right (show 0 < 2 by omega) (show 1 ≤ j + 1 by omega); simpa using this
      have h2 := b.isLt
      rw [Nat.div_lt_iff_lt_mul (by omega)]
      have : 9223372036854775808 * 2 ≤ 9223372036854775808 * 2 ^ (j + 1) := Nat.mul_le_mul_left _ h1
      omega
    have hh : h.toNat < 9223372036854775808 := by
      have h1 : a.toNat * (b.toNat / 2 ^ (j + 1)) ≤ 18446744073709551615 * 9223372036854775807 := Nat.mul_le_mul (by have := a.isLt; omega) (by omega)
      unfold valW at hv; omega
    have htw := twice_val (h := h) (l := l) hh
    try simp only [go_sem, Int.reduceBEq, Int.reduceBNe, Int.reduceNeg, reduceCtorEq, Nat.reduceEqDiff, Nat.reduceAdd, Nat.reduceLeDiff, Nat.reduceMul, Nat.reduceSub, Int.reduceToNat, Int.reduceLT, Int.reduceLE, load_w, load_a, store_b, idxS_b, set_blk, new_blk, set_next, new_next, len_s, ldW_c, ldA_c, stB_c, toArr_one, size_one, toList_toArr, size_toArr, List.length_cons, List.length_nil, List.getElem?_cons_zero, List.getElem?_cons_succ, Nat.zero_add, Nat.add_zero, e1, ej, hb5.at_]
    refine gC.of (Twice_spec (h := h) (l := l)) ?_
    rintro _ m4 ⟨⟨t, rfl⟩, hx4⟩
    have hb44 := hb4.keep hx4
    have hb54 := hb5.keep hx4
    have hU5 : ∀ o, Upd m4 (m4.set m1.next o) [m1.next] := fun o => Upd.set (by simp)
    simp only [widV]
    generalize h <<< 1 ||| l >>> 63 = h2 at *
    generalize l <<< 1 ||| 0#64 = l2 at *
    try simp only [go_sem, Int.reduceBEq, Int.reduceBNe, Int.reduceNeg, reduceCtorEq, Nat.reduceEqDiff, Nat.reduceAdd, Nat.reduceLeDiff, Nat.reduceMul, Nat.reduceSub, Int.reduceToNat, Int.reduceLT, Int.reduceLE, load_w, load_a, store_b, idxS_b, set_blk, new_blk, set_next, new_next, len_s, ldW_c, ldA_c, stB_c, toArr_one, size_one, toList_toArr, size_toArr, List.length_cons, List.length_nil, List.getElem?_cons_zero, List.getElem?_cons_succ, Nat.zero_add, Nat.add_zero, aExt0, aExt1, hb54.at_, hcv]
    have hst := shr_step b j
    by_cases g : (b >>> j &&& 1#64) = 1#64
    · have g2 := (bit_and b j).1 g
      have hsv : valW h2 l2 + a.toNat = a.toNat * (b.toNat / 2 ^ j) := by
        rw [htw, hv, hst, g2, Nat.mul_add, Nat.mul_one, Nat.mul_left_comm]
      have hbd : valW h2 l2 + a.toNat < 340282366920938463463374607431768211456 := by
        rw [hsv]
        have h1 : a.toNat * (b.toNat / 2 ^ j) ≤ 18446744073709551615 * 18446744073709551615 := Nat.mul_le_mul (by have := a.isLt; omega) (by have := Nat.div_le_self b.toNat (2 ^ j); have := b.isLt; omega)
        omega
      have hsum := sum_val hbd
      try simp only [go_sem, Int.reduceBEq, Int.reduceBNe, Int.reduceNeg, reduceCtorEq, Nat.reduceEqDiff, Nat.reduceAdd, Nat.reduceLeDiff, Nat.reduceMul, Nat.reduceSub, Int.reduceToNat, Int.reduceLT, Int.reduceLE, load_w, load_a, store_b, idxS_b, set_blk, new_blk, set_next, new_next, len_s, ldW_c, ldA_c, stB_c, toArr_one, size_one, toList_toArr, size_toArr, List.length_cons, List.length_nil, List.getElem?_cons_zero, List.getElem?_cons_succ, Nat.zero_add, Nat.add_zero, decide_eq_true g, ↓fill_ky]
      refine gC.of (Sum_spec (h := h2) (l := l2) (a := a)) ?_
      rintro _ m6 ⟨rfl, hx6⟩
      generalize (if (l2 + a).toNat < l2.toNat then h2 + 0#64 + 1#64 else h2 + 0#64) = h3 at *
      generalize l2 + a = l3 at *
      have hb46 := (hb44.upd (hU5 _) (by simp; omega)).keep hx6
      have hx46 := hx3.trans hx4
      have hx6' : Ext m m6 := (hx46.set hn1).trans hx6
      have hl6 : m1.next < m6.next := by have := hb54.lt; have : m4.next ≤ m6.next := hx6.next; omega
      have hb56 : Bk m6 m1.next [u64 h2, u64 l2] 2 := ⟨by rw [hx6.same _ (by show m1.next < m4.next; exact hb54.lt)]; simp [Mem.set], hl6⟩
      simp only [widV]
      try simp only [go_sem, Int.reduceBEq, Int.reduceBNe, Int.reduceNeg, reduceCtorEq, Nat.reduceEqDiff, Nat.reduceAdd, Nat.reduceLeDiff, Nat.reduceMul, Nat.reduceSub, Int.reduceToNat, Int.reduceLT, Int.reduceLE, load_w, load_a, store_b, idxS_b, set_blk, new_blk, set_next, new_next, len_s, ldW_c, ldA_c, stB_c, toArr_one, size_one, toList_toArr, size_toArr, List.length_cons, List.length_nil, List.getElem?_cons_zero, List.getElem?_cons_succ, Nat.zero_add, Nat.add_zero, hb56.at_, hw]
      exact ⟨j, by omega, h3, l3, by omega, rfl, hb46.upd (Upd.set (fp := [m1.next]) (by simp)) (by simp; omega), ⟨by simp [Mem.set], hl6⟩, by rw [hsum, hsv], hx6'.set hn1⟩
    · have g2 : (b.toNat / 2 ^ j) % 2 = 0 := by have := mt (bit_and b j).2 g; omega
      have hsv : valW h2 l2 = a.toNat * (b.toNat / 2 ^ j) := by
        rw [htw, hv, hst, g2]
        simp only [Nat.add_zero]
        exact Nat.mul_left_comm ..
      try simp only [go_sem, Int.reduceBEq, Int.reduceBNe, Int.reduceNeg, reduceCtorEq, Nat.reduceEqDiff, Nat.reduceAdd, Nat.reduceLeDiff, Nat.reduceMul, Nat.reduceSub, Int.reduceToNat, Int.reduceLT, Int.reduceLE, load_w, load_a, store_b, idxS_b, set_blk, new_blk, set_next, new_next, len_s, ldW_c, ldA_c, stB_c, toArr_one, size_one, toList_toArr, size_toArr, List.length_cons, List.length_nil, List.getElem?_cons_zero, List.getElem?_cons_succ, Nat.zero_add, Nat.add_zero, decide_eq_false g, hw]
      exact ⟨j, by omega, h2, l2, by omega, rfl, hb44.upd (hU5 _) (by simp; omega), ⟨by simp [Mem.set], hb54.lt⟩, hsv, (hx3.trans hx4).set hn1⟩

theorem flat_eq {a b c d : BitVec 64} : aEq (.flat [.int, .int]) (.agg #[u64 a, u64 b]) (.agg #[u64 c, u64 d]) = some (decide (a = c) && decide (b = d)) := by
  have h : ∀ x y : BitVec 64, ((x.toNat : Int) == (y.toNat : Int)) = decide (x = y) := fun x y => by
    rw [Bool.eq_iff_iff, beq_iff_eq, decide_eq_true_eq, ← BitVec.toNat_inj]; omega
  simp only [aEq, scalsEq, scalEq, u64]
  simp [h]

theorem refCompare_spec {p q : Ky} : WC R F.ref02_Compare [u64 p.1, u64 p.2, u64 q.1, u64 q.2] m fun v m' => v = .int .i64 (cmpK p q) ∧ Ext m m' := by
  refine WC.of R.ref02_Compare rfl ?_
  simp only [RC.ref02_Compare, go_sem, Int.reduceBEq, Int.reduceBNe, Int.reduceNeg, reduceCtorEq, Nat.reduceEqDiff, Nat.reduceAdd, Nat.reduceLeDiff, Nat.reduceMul, Nat.reduceSub, Int.reduceToNat, Int.reduceLT, Int.reduceLE]
  refine gC.of Times_spec ?_
  rintro _ m1 ⟨h1, l1, rfl, v1, hx1⟩
  simp only [widV]
  try simp only [go_sem, Int.reduceBEq, Int.reduceBNe, Int.reduceNeg, reduceCtorEq, Nat.reduceEqDiff, Nat.reduceAdd, Nat.reduceLeDiff, Nat.reduceMul, Nat.reduceSub, Int.reduceToNat, Int.reduceLT, Int.reduceLE, load_w, load_a, store_b, idxS_b, set_blk, new_blk, set_next, new_next, len_s, ldW_c, ldA_c, stB_c, toArr_one, size_one, toList_toArr, size_toArr, List.length_cons, List.length_nil, List.getElem?_cons_zero, List.getElem?_cons_succ, Nat.zero_add, Nat.add_zero]
  have hx2 : Ext m1 (m1.new (.cells [u64 h1, u64 l1] (some 2))) := Ext.new
  have hb2 : Bk (m1.new (.cells [u64 h1, u64 l1] (some 2))) m1.next [u64 h1, u64 l1] 2 := Bk.new
  generalize m1.new (.cells [u64 h1, u64 l1] (some 2)) = m2 at hx2 hb2 ⊢
  refine gC.of Times_spec ?_
  rintro _ m3 ⟨h2, l2, rfl, v2, hx3⟩
  have hb23 := hb2.keep hx3
  simp only [widV]
  have hn3 := hb23.ne
  try simp only [go_sem, Int.reduceBEq, Int.reduceBNe, Int.reduceNeg, reduceCtorEq, Nat.reduceEqDiff, Nat.reduceAdd, Nat.reduceLeDiff, Nat.reduceMul, Nat.reduceSub, Int.reduceToNat, Int.reduceLT, Int.reduceLE, load_w, load_a, store_b, idxS_b, set_blk, new_blk, set_next, new_next, len_s, ldW_c, ldA_c, stB_c, toArr_one, size_one, toList_toArr, size_toArr, List.length_cons, List.length_nil, List.getElem?_cons_zero, List.getElem?_cons_succ, Nat.zero_add, Nat.add_zero, hb23.at_, hn3, flat_eq]
  have hx4 : Ext m3 (m3.new (.cells [u64 h2, u64 l2] (some 2))) := Ext.new
  have hb4 : Bk (m3.new (.cells [u64 h2, u64 l2] (some 2))) m3.next [u64 h2, u64 l2] 2 := Bk.new
  generalize m3.new (.cells [u64 h2, u64 l2] (some 2)) = m4 at hx4 hb4 ⊢
  have hb24 := hb23.keep hx4
  have e1 : crs p q = h1.toNat * 18446744073709551616 + l1.toNat := v1.symm
  have e2 : crs q p = h2.toNat * 18446744073709551616 + l2.toNat := v2.symm
  have k1 : h1 = h2 ↔ h1.toNat = h2.toNat := BitVec.toNat_inj.symm
  have k2 : l1 = l2 ↔ l1.toNat = l2.toNat := BitVec.toNat_inj.symm
  have i1 : l1.toNat < 18446744073709551616 := l1.isLt
  have i2 : l2.toNat < 18446744073709551616 := l2.isLt
  have hX := ((hx1.trans hx2).trans hx3).trans hx4
  unfold cmpK
  have hg0 : (decide (h1 = h2) && decide (l1 = l2)) = decide (h1 = h2 ∧ l1 = l2) := by simp
  rw [hg0]
  by_cases g0 : h1 = h2 ∧ l1 = l2
  · have g1 := k1.1 g0.1
    have g2 := k2.1 g0.2
    have k : ¬ crs p q < crs q p := by omega
    have kk : crs p q = crs q p := by omega
    try simp only [go_sem, Int.reduceBEq, Int.reduceBNe, Int.reduceNeg, reduceCtorEq, Nat.reduceEqDiff, Nat.reduceAdd, Nat.reduceLeDiff, Nat.reduceMul, Nat.reduceSub, Int.reduceToNat, Int.reduceLT, Int.reduceLE, load_w, load_a, store_b, idxS_b, set_blk, new_blk, set_next, new_next, len_s, ldW_c, ldA_c, stB_c, toArr_one, size_one, toList_toArr, size_toArr, List.length_cons, List.length_nil, List.getElem?_cons_zero, List.getElem?_cons_succ, Nat.zero_add, Nat.add_zero, decide_eq_true g0, if_neg k, if_pos kk]
    exact hX
  · by_cases g1 : h1.toNat < h2.toNat
    · have k : crs p q < crs q p := by omega
      try simp only [go_sem, Int.reduceBEq, Int.reduceBNe, Int.reduceNeg, reduceCtorEq, Nat.reduceEqDiff, Nat.reduceAdd, Nat.reduceLeDiff, Nat.reduceMul, Nat.reduceSub, Int.reduceToNat, Int.reduceLT, Int.reduceLE, load_w, load_a, store_b, idxS_b, set_blk, new_blk, set_next, new_next, len_s, ldW_c, ldA_c, stB_c, toArr_one, size_one, toList_toArr, size_toArr, List.length_cons, List.length_nil, List.getElem?_cons_zero, List.getElem?_cons_succ, Nat.zero_add, Nat.add_zero, decide_eq_false g0, hb24.at_, hb4.at_, decide_eq_true g1, if_pos k]
      exact hX
    · by_cases g2 : h1 = h2
      · have g2' := k1.1 g2
        have g4 : ¬ l1 = l2 := fun e => g0 ⟨g2, e⟩
        have g4' := mt k2.2 g4
        by_cases g3 : l1.toNat < l2.toNat
        · have k : crs p q < crs q p := by omega
          try simp only [go_sem, Int.reduceBEq, Int.reduceBNe, Int.reduceNeg, reduceCtorEq, Nat.reduceEqDiff, Nat.reduceAdd, Nat.reduceLeDiff, Nat.reduceMul, Nat.reduceSub, Int.reduceToNat, Int.reduceLT, Int.reduceLE, load_w, load_a, store_b, idxS_b, set_blk, new_blk, set_next, new_next, len_s, ldW_c, ldA_c, stB_c, toArr_one, size_one, toList_toArr, size_toArr, List.length_cons, List.length_nil, List.getElem?_cons_zero, List.getElem?_cons_succ, Nat.zero_add, Nat.add_zero, decide_eq_false g0, hb24.at_, hb4.at_, decide_eq_false g1, decide_eq_true g2, decide_eq_true g3, if_pos k]
          exact hX
        · have k : ¬ crs p q < crs q p := by omega
          have kk : ¬ crs p q = crs q p := by omega
          try simp only [go_sem, Int.reduceBEq, Int.reduceBNe, Int.reduceNeg, reduceCtorEq, Nat.reduceEqDiff, Nat.reduceAdd, Nat.reduceLeDiff, Nat.reduceMul, Nat.reduceSub, Int.reduceToNat, Int.reduceLT, Int.reduceLE, load_w, load_a, store_b, idxS_b, set_blk, new_blk, set_next, new_next, len_s, ldW_c, ldA_c, stB_c, toArr_one, size_one, toList_toArr, size_toArr, List.length_cons, List.length_nil, List.getElem?_cons_zero, List.getElem?_cons_succ, Nat.zero_add, Nat.add_zero, decide_eq_false g0, hb24.at_, hb4.at_, decide_eq_false g1, decide_eq_true g2, decide_eq_false g3, if_neg k, if_neg kk]
          exact hX
      · have g2' := mt k1.2 g2
        have k : ¬ crs p q < crs q p := by omega
        have kk : ¬ crs p q = crs q p := by omega
        try simp only [go_sem, Int.reduceBEq, Int.reduceBNe, Int.reduceNeg, reduceCtorEq, Nat.reduceEqDiff, Nat.reduceAdd, Nat.reduceLeDiff, Nat.reduceMul, Nat.reduceSub, Int.reduceToNat, Int.reduceLT, Int.reduceLE, load_w, load_a, store_b, idxS_b, set_blk, new_blk, set_next, new_next, len_s, ldW_c, ldA_c, stB_c, toArr_one, size_one, toList_toArr, size_toArr, List.length_cons, List.length_nil, List.getElem?_cons_zero, List.getElem?_cons_succ, Nat.zero_add, Nat.add_zero, decide_eq_false g0, hb24.at_, hb4.at_, decide_eq_false g1, decide_eq_false g2, if_neg k, if_neg kk]
        exact hX
end Go.Am


/- Heaps' reference: a list. -/
set_option linter.unusedVariables false
set_option linter.unusedSimpArgs false
namespace Go.Am
open Classical
variable {m : Mem}

abbrev It := Nat × Ky
def itV (p : It) : List Value := [.int .i64 ((p.1 : Nat) : Int), u64 p.2.1, u64 p.2.2]
theorem itV_len (p : It) : (itV p).length = 3 := rfl
structure ItsV (m : Mem) (w : List It) (v : Value) : Prop where
  sl : Sl m 3 w.length (w.flatMap itV) v
  lt : SlLt m v
  le : w.length < 100000
theorem ItsV.keep {m m' : Mem} {w : List It} {v : Value} (h : ItsV m w v) (hx : Ext m m') : ItsV m' w v := ⟨h.sl.keep h.lt hx, h.lt.keep hx, h.le⟩
def outL (w : List It) (id : Int) : List It := w.filter fun p => decide (((p.1 : Nat) : Int) ≠ id)
theorem outL_len {w : List It} {id : Int} : (outL w id).length ≤ w.length := List.length_filter_le ..
theorem st1' {i : Nat} (h : i < 1000000) : IntKind.wrap .i64 (((i : Nat) : Int) + 1) = ((i + 1 : Nat) : Int) := st1 h

theorem refRemove_spec {w : List It} {v : Value} {id : Int} (h : ItsV m w v) :
    WC R F.ref06_Remove [v, .int .i64 id] m fun r m' => ∃ rv, r = .tuple #[rv, .bool (decide ((outL w id).length < w.length))] ∧ Own m m' 3 (outL w id).length ((outL w id).flatMap itV) rv ∧ Ext m m' := by
  refine WC.of R.ref06_Remove rfl ?_
  simp only [RC.ref06_Remove, go_sem, Int.reduceBEq, Int.reduceBNe, Int.reduceNeg, reduceCtorEq, Nat.reduceEqDiff, Nat.reduceAdd, Nat.reduceLeDiff, Nat.reduceMul, Nat.reduceSub, Int.reduceToNat, Int.reduceLT, Int.reduceLE]
  try simp only [go_sem, Int.reduceBEq, Int.reduceBNe, Int.reduceNeg, reduceCtorEq, Nat.reduceEqDiff, Nat.reduceAdd, Nat.reduceLeDiff, Nat.reduceMul, Nat.reduceSub, Int.reduceToNat, Int.reduceLT, Int.reduceLE, load_w, load_a, store_b, idxS_b, set_blk, new_blk, set_next, new_next, len_s, ldW_c, ldA_c, stB_c, toArr_one, size_one, toList_toArr, size_toArr, List.length_cons, List.length_nil, List.getElem?_cons_zero, List.getElem?_cons_succ, Nat.zero_add, Nat.add_zero]
  have hx1 : Ext m (m.new (.cells [] (some 3))) := Ext.new
  have ho1 : Own m (m.new (.cells [] (some 3))) 3 0 [] (.slice (some ⟨m.next, 0, none⟩) 0 0) := .at (all := []) (Nat.le_refl _) (by simp [Mem.new]) (Nat.le_refl _) (by simp [Mem.new]) rfl rfl rfl
  generalize m.new (.cells [] (some 3)) = m1 at hx1 ho1 ⊢
  have hle := h.le
  refine WL.of (fun n e m' => ∃ (i : Nat) (z : Value), i ≤ w.length ∧ n = w.length - i ∧ e = [(0, v), (1, .int .i64 id), (6, z), (7, .int .i64 ((i : Nat) : Int))] ∧ Own m m' 3 (outL (w.take i) id).length ((outL (w.take i) id).flatMap itV) z ∧ Ext m m') w.length
    ⟨0, _, by omega, by omega, by simp only [go_sem, Int.reduceBEq, Int.reduceBNe, Int.reduceNeg, reduceCtorEq, Nat.reduceEqDiff, Nat.reduceAdd, Nat.reduceLeDiff, Nat.reduceMul, Nat.reduceSub, Int.reduceToNat, Int.reduceLT, Int.reduceLE] <;> rfl, ho1, hx1⟩ ?_
  rintro _ _ m2 ⟨i, z, hi, rfl, rfl, ho, hx2⟩
  have h2 := h.keep hx2
  simp only [RB.ref06_Remove_1, go_sem, Int.reduceBEq, Int.reduceBNe, Int.reduceNeg, reduceCtorEq, Nat.reduceEqDiff, Nat.reduceAdd, Nat.reduceLeDiff, Nat.reduceMul, Nat.reduceSub, Int.reduceToNat, Int.reduceLT, Int.reduceLE, load_w, load_a, store_b, idxS_b, set_blk, new_blk, set_next, new_next, len_s, ldW_c, ldA_c, stB_c, toArr_one, size_one, toList_toArr, size_toArr, List.length_cons, List.length_nil, List.getElem?_cons_zero, List.getElem?_cons_succ, Nat.zero_add, Nat.add_zero, h2.sl.len]
  have s1 := st1 (show i < 1000000 by omega)
  by_cases g1 : i < w.length
  · have e1 : decide (((i : Nat) : Int) < ((w.length : Nat) : Int)) = true := decide_eq_true (by omega)
    obtain ⟨b, o, a1, a2, a3, a4⟩ := h2.sl.elem itV_len (k := .i64) g1
    have htk : w.take (i + 1) = w.take i ++ [w[i]] := List.take_succ_eq_append_getElem g1
    have a30 := a3 0 (by omega)
    have hol := outL_len (w := w.take i) (id := id)
    rw [List.length_take] at hol
    generalize w[i] = p at *
    simp only [itV, Nat.add_zero, List.getElem?_cons_zero] at a30 a2
    by_cases g2 : ((p.1 : Nat) : Int) = id
    · have e2 : (((p.1 : Nat) : Int) != id) = false := by rw [bne_eq_false_iff_eq]; exact g2
      have e3 : outL (w.take (i + 1)) id = outL (w.take i) id := by unfold outL; rw [htk, List.filter_append]; simp [g2]
      try simp only [go_sem, Int.reduceBEq, Int.reduceBNe, Int.reduceNeg, reduceCtorEq, Nat.reduceEqDiff, Nat.reduceAdd, Nat.reduceLeDiff, Nat.reduceMul, Nat.reduceSub, Int.reduceToNat, Int.reduceLT, Int.reduceLE, load_w, load_a, store_b, idxS_b, set_blk, new_blk, set_next, new_next, len_s, ldW_c, ldA_c, stB_c, toArr_one, size_one, toList_toArr, size_toArr, List.length_cons, List.length_nil, List.getElem?_cons_zero, List.getElem?_cons_succ, Nat.zero_add, Nat.add_zero, e1, a1, a30, e2, s1]
      exact ⟨w.length - (i + 1), by omega, i + 1, z, by omega, rfl, rfl, by rw [e3]; exact ho, hx2⟩
    · have e2 : (((p.1 : Nat) : Int) != id) = true := by rw [bne_iff_ne]; exact g2
      have e3 : outL (w.take (i + 1)) id = outL (w.take i) id ++ [p] := by unfold outL; rw [htk, List.filter_append]; simp [g2]
      obtain ⟨v', m3, q1, q2, q3⟩ := ho.app (by_ := 24) (es := itV p) hx2 (by omega) rfl rfl (by omega) (by omega)
      simp only [itV] at q1
      try simp only [go_sem, Int.reduceBEq, Int.reduceBNe, Int.reduceNeg, reduceCtorEq, Nat.reduceEqDiff, Nat.reduceAdd, Nat.reduceLeDiff, Nat.reduceMul, Nat.reduceSub, Int.reduceToNat, Int.reduceLT, Int.reduceLE, load_w, load_a, store_b, idxS_b, set_blk, new_blk, set_next, new_next, len_s, ldW_c, ldA_c, stB_c, toArr_one, size_one, toList_toArr, size_toArr, List.length_cons, List.length_nil, List.getElem?_cons_zero, List.getElem?_cons_succ, Nat.zero_add, Nat.add_zero, e1, a1, a30, e2, a2, q1, s1]
      refine ⟨w.length - (i + 1), by omega, i + 1, v', by omega, rfl, rfl, ?_, q3⟩
      rw [e3, List.length_append, List.flatMap_append]
      simpa using q2
  · have e1 : decide (((i : Nat) : Int) < ((w.length : Nat) : Int)) = false := decide_eq_false (by omega)
    have hi2 : i = w.length := by omega
    subst hi2
    rw [List.take_length] at ho
    have e4 : decide ((((outL w id).length : Nat) : Int) < ((w.length : Nat) : Int)) = decide ((outL w id).length < w.length) := decide_eq_decide.2 Int.ofNat_lt
    try simp only [go_sem, Int.reduceBEq, Int.reduceBNe, Int.reduceNeg, reduceCtorEq, Nat.reduceEqDiff, Nat.reduceAdd, Nat.reduceLeDiff, Nat.reduceMul, Nat.reduceSub, Int.reduceToNat, Int.reduceLT, Int.reduceLE, load_w, load_a, store_b, idxS_b, set_blk, new_blk, set_next, new_next, len_s, ldW_c, ldA_c, stB_c, toArr_one, size_one, toList_toArr, size_toArr, List.length_cons, List.length_nil, List.getElem?_cons_zero, List.getElem?_cons_succ, Nat.zero_add, Nat.add_zero, e1, h2.sl.len, ho.sl.len, e4]
    first | exact ⟨ho, hx2⟩ | exact ⟨_, rfl, ho, hx2⟩

theorem refPut_spec {w : List It} {v : Value} {p : It} (h : ItsV m w v) :
    WC R F.ref06_Put [v, .agg (itV p).toArray] m fun r m' => Own m m' 3 (outL w p.1 ++ [p]).length ((outL w p.1 ++ [p]).flatMap itV) r ∧ Ext m m' := by
  refine WC.of R.ref06_Put rfl ?_
  simp only [RC.ref06_Put, itV, go_sem, Int.reduceBEq, Int.reduceBNe, Int.reduceNeg, reduceCtorEq, Nat.reduceEqDiff, Nat.reduceAdd, Nat.reduceLeDiff, Nat.reduceMul, Nat.reduceSub, Int.reduceToNat, Int.reduceLT, Int.reduceLE]
  have hx1 : Ext m (m.new (.cells [.int .i64 ((p.1 : Nat) : Int), u64 p.2.1, u64 p.2.2] (some 3))) := Ext.new
  have hb1 : Bk (m.new (.cells [.int .i64 ((p.1 : Nat) : Int), u64 p.2.1, u64 p.2.2] (some 3))) m.next [.int .i64 ((p.1 : Nat) : Int), u64 p.2.1, u64 p.2.2] 3 := Bk.new
  generalize m.new (.cells [.int .i64 ((p.1 : Nat) : Int), u64 p.2.1, u64 p.2.2] (some 3)) = m1 at hx1 hb1 ⊢
  try simp only [go_sem, Int.reduceBEq, Int.reduceBNe, Int.reduceNeg, reduceCtorEq, Nat.reduceEqDiff, Nat.reduceAdd, Nat.reduceLeDiff, Nat.reduceMul, Nat.reduceSub, Int.reduceToNat, Int.reduceLT, Int.reduceLE, load_w, load_a, store_b, idxS_b, set_blk, new_blk, set_next, new_next, len_s, ldW_c, ldA_c, stB_c, toArr_one, size_one, toList_toArr, size_toArr, List.length_cons, List.length_nil, List.getElem?_cons_zero, List.getElem?_cons_succ, Nat.zero_add, Nat.add_zero, hb1.at_]
  refine gC.of (refRemove_spec (id := ((p.1 : Nat) : Int)) (h.keep hx1)) ?_
  rintro _ m2 ⟨rv, rfl, ho, hx2⟩
  have hb2 := hb1.keep hx2
  have hle := h.le
  have hol := outL_len (w := w) (id := ((p.1 : Nat) : Int))
  obtain ⟨v', m3, q1, q2, q3⟩ := ho.app (by_ := 24) (es := itV p) hx2 (by omega) rfl rfl (by omega) (by omega)
  simp only [itV] at q1
  try simp only [go_sem, Int.reduceBEq, Int.reduceBNe, Int.reduceNeg, reduceCtorEq, Nat.reduceEqDiff, Nat.reduceAdd, Nat.reduceLeDiff, Nat.reduceMul, Nat.reduceSub, Int.reduceToNat, Int.reduceLT, Int.reduceLE, load_w, load_a, store_b, idxS_b, set_blk, new_blk, set_next, new_next, len_s, ldW_c, ldA_c, stB_c, toArr_one, size_one, toList_toArr, size_toArr, List.length_cons, List.length_nil, List.getElem?_cons_zero, List.getElem?_cons_succ, Nat.zero_add, Nat.add_zero, aExt0, aExt1, hb2.at_, q1]
  refine ⟨?_, hx1.trans q3⟩
  rw [List.length_append, List.flatMap_append]
  have := q2.weak hx1
  simpa using this

theorem refahead_spec {p q : It} : WC R F.ref06_ahead [.agg (itV p).toArray, .agg (itV q).toArray] m fun r m' => r = .bool (decide (HpS.ltP p q)) ∧ Ext m m' := by
  refine WC.of R.ref06_ahead rfl ?_
  simp only [RC.ref06_ahead, itV, go_sem, Int.reduceBEq, Int.reduceBNe, Int.reduceNeg, reduceCtorEq, Nat.reduceEqDiff, Nat.reduceAdd, Nat.reduceLeDiff, Nat.reduceMul, Nat.reduceSub, Int.reduceToNat, Int.reduceLT, Int.reduceLE]
  have hx1 : Ext m (m.new (.cells [.int .i64 ((p.1 : Nat) : Int), u64 p.2.1, u64 p.2.2] (some 3))) := Ext.new
  have hb1 : Bk (m.new (.cells [.int .i64 ((p.1 : Nat) : Int), u64 p.2.1, u64 p.2.2] (some 3))) m.next [.int .i64 ((p.1 : Nat) : Int), u64 p.2.1, u64 p.2.2] 3 := Bk.new
  generalize m.new (.cells [.int .i64 ((p.1 : Nat) : Int), u64 p.2.1, u64 p.2.2] (some 3)) = m1 at hx1 hb1 ⊢
  have hx2 : Ext m1 (m1.new (.cells [.int .i64 ((q.1 : Nat) : Int), u64 q.2.1, u64 q.2.2] (some 3))) := Ext.new
  have hb2 : Bk (m1.new (.cells [.int .i64 ((q.1 : Nat) : Int), u64 q.2.1, u64 q.2.2] (some 3))) m1.next [.int .i64 ((q.1 : Nat) : Int), u64 q.2.1, u64 q.2.2] 3 := Bk.new
  generalize m1.new (.cells [.int .i64 ((q.1 : Nat) : Int), u64 q.2.1, u64 q.2.2] (some 3)) = m2 at hx2 hb2 ⊢
  have hb12 := hb1.keep hx2
  try simp only [go_sem, Int.reduceBEq, Int.reduceBNe, Int.reduceNeg, reduceCtorEq, Nat.reduceEqDiff, Nat.reduceAdd, Nat.reduceLeDiff, Nat.reduceMul, Nat.reduceSub, Int.reduceToNat, Int.reduceLT, Int.reduceLE, load_w, load_a, store_b, idxS_b, set_blk, new_blk, set_next, new_next, len_s, ldW_c, ldA_c, stB_c, toArr_one, size_one, toList_toArr, size_toArr, List.length_cons, List.length_nil, List.getElem?_cons_zero, List.getElem?_cons_succ, Nat.zero_add, Nat.add_zero, hb12.at_, hb2.at_]
  refine gC.of (refCompare_spec (p := p.2) (q := q.2)) ?_
  rintro _ m3 ⟨rfl, hx3⟩
  have hb13 := hb12.keep hx3
  have hb23 := hb2.keep hx3
  have hX := (hx1.trans hx2).trans hx3
  have hlt : HpS.ltP p q ↔ (crs p.2 q.2 < crs q.2 p.2 ∨ crs p.2 q.2 = crs q.2 p.2 ∧ p.1 < q.1) := Iff.rfl
  by_cases g1 : crs p.2 q.2 < crs q.2 p.2
  · have e1 : decide (cmpK p.2 q.2 < 0) = true := decide_eq_true (cmpK_lt.2 g1)
    have e2 : decide (HpS.ltP p q) = true := decide_eq_true (hlt.2 (.inl g1))
    try simp only [go_sem, Int.reduceBEq, Int.reduceBNe, Int.reduceNeg, reduceCtorEq, Nat.reduceEqDiff, Nat.reduceAdd, Nat.reduceLeDiff, Nat.reduceMul, Nat.reduceSub, Int.reduceToNat, Int.reduceLT, Int.reduceLE, load_w, load_a, store_b, idxS_b, set_blk, new_blk, set_next, new_next, len_s, ldW_c, ldA_c, stB_c, toArr_one, size_one, toList_toArr, size_toArr, List.length_cons, List.length_nil, List.getElem?_cons_zero, List.getElem?_cons_succ, Nat.zero_add, Nat.add_zero, e1, e2]
    exact hX
  · have e1 : decide (cmpK p.2 q.2 < 0) = false := decide_eq_false (fun h => g1 (cmpK_lt.1 h))
    by_cases g2 : crs p.2 q.2 = crs q.2 p.2
    · have e2 : (cmpK p.2 q.2 == 0) = true := by rw [beq_iff_eq]; exact cmpK_eq.2 g2
      by_cases g3 : p.1 < q.1
      · have e3 : decide (HpS.ltP p q) = true := decide_eq_true (hlt.2 (.inr ⟨g2, g3⟩))
        have e4 : decide (((p.1 : Nat) : Int) < ((q.1 : Nat) : Int)) = true := decide_eq_true (by omega)
        try simp only [go_sem, Int.reduceBEq, Int.reduceBNe, Int.reduceNeg, reduceCtorEq, Nat.reduceEqDiff, Nat.reduceAdd, Nat.reduceLeDiff, Nat.reduceMul, Nat.reduceSub, Int.reduceToNat, Int.reduceLT, Int.reduceLE, load_w, load_a, store_b, idxS_b, set_blk, new_blk, set_next, new_next, len_s, ldW_c, ldA_c, stB_c, toArr_one, size_one, toList_toArr, size_toArr, List.length_cons, List.length_nil, List.getElem?_cons_zero, List.getElem?_cons_succ, Nat.zero_add, Nat.add_zero, e1, e2, e3, e4, hb13.at_, hb23.at_]
        exact hX
      · have e3 : decide (HpS.ltP p q) = false := decide_eq_false (fun h => by rcases hlt.1 h with h | h; omega; exact g3 h.2)
        have e4 : decide (((p.1 : Nat) : Int) < ((q.1 : Nat) : Int)) = false := decide_eq_false (by omega)
        try simp only [go_sem, Int.reduceBEq, Int.reduceBNe, Int.reduceNeg, reduceCtorEq, Nat.reduceEqDiff, Nat.reduceAdd, Nat.reduceLeDiff, Nat.reduceMul, Nat.reduceSub, Int.reduceToNat, Int.reduceLT, Int.reduceLE, load_w, load_a, store_b, idxS_b, set_blk, new_blk, set_next, new_next, len_s, ldW_c, ldA_c, stB_c, toArr_one, size_one, toList_toArr, size_toArr, List.length_cons, List.length_nil, List.getElem?_cons_zero, List.getElem?_cons_succ, Nat.zero_add, Nat.add_zero, e1, e2, e3, e4, hb13.at_, hb23.at_]
        exact hX
    · have e2 : (cmpK p.2 q.2 == 0) = false := by rw [beq_eq_false_iff_ne]; exact fun h => g2 (cmpK_eq.1 h)
      have e3 : decide (HpS.ltP p q) = false := decide_eq_false (fun h => by rcases hlt.1 h with h | h; omega; exact g2 h.1)
      try simp only [go_sem, Int.reduceBEq, Int.reduceBNe, Int.reduceNeg, reduceCtorEq, Nat.reduceEqDiff, Nat.reduceAdd, Nat.reduceLeDiff, Nat.reduceMul, Nat.reduceSub, Int.reduceToNat, Int.reduceLT, Int.reduceLE, load_w, load_a, store_b, idxS_b, set_blk, new_blk, set_next, new_next, len_s, ldW_c, ldA_c, stB_c, toArr_one, size_one, toList_toArr, size_toArr, List.length_cons, List.length_nil, List.getElem?_cons_zero, List.getElem?_cons_succ, Nat.zero_add, Nat.add_zero, e1, e2, e3]
      exact hX

theorem refKey_spec {w : List It} {v : Value} {id : Int} (h : ItsV m w v) :
    WC R F.ref06_Key [v, .int .i64 id] m fun r m' => ((∃ p ∈ w, ((p.1 : Nat) : Int) = id ∧ r = .tuple #[u64 p.2.1, u64 p.2.2, .bool true]) ∨ ((∀ p ∈ w, ((p.1 : Nat) : Int) ≠ id) ∧ r = .tuple #[u64 0#64, u64 0#64, .bool false])) ∧ m' = m := by
  refine WC.of R.ref06_Key rfl ?_
  simp only [RC.ref06_Key, go_sem, Int.reduceBEq, Int.reduceBNe, Int.reduceNeg, reduceCtorEq, Nat.reduceEqDiff, Nat.reduceAdd, Nat.reduceLeDiff, Nat.reduceMul, Nat.reduceSub, Int.reduceToNat, Int.reduceLT, Int.reduceLE]
  have hle := h.le
  refine WL.of (fun n e m' => ∃ (i : Nat), i ≤ w.length ∧ n = w.length - i ∧ e = [(0, v), (1, .int .i64 id), (7, .int .i64 ((i : Nat) : Int))] ∧ (∀ t (ht : t < w.length), t < i → ((w[t].1 : Nat) : Int) ≠ id) ∧ m' = m) w.length
    ⟨0, by omega, by omega, by simp only [go_sem, Int.reduceBEq, Int.reduceBNe, Int.reduceNeg, reduceCtorEq, Nat.reduceEqDiff, Nat.reduceAdd, Nat.reduceLeDiff, Nat.reduceMul, Nat.reduceSub, Int.reduceToNat, Int.reduceLT, Int.reduceLE] <;> rfl, fun t ht h2 => by omega, rfl⟩ ?_
  rintro _ _ _ ⟨i, hi, rfl, rfl, hno, hm⟩
  replace hm := hm.symm
  subst hm
  simp only [RB.ref06_Key_1, go_sem, Int.reduceBEq, Int.reduceBNe, Int.reduceNeg, reduceCtorEq, Nat.reduceEqDiff, Nat.reduceAdd, Nat.reduceLeDiff, Nat.reduceMul, Nat.reduceSub, Int.reduceToNat, Int.reduceLT, Int.reduceLE, load_w, load_a, store_b, idxS_b, set_blk, new_blk, set_next, new_next, len_s, ldW_c, ldA_c, stB_c, toArr_one, size_one, toList_toArr, size_toArr, List.length_cons, List.length_nil, List.getElem?_cons_zero, List.getElem?_cons_succ, Nat.zero_add, Nat.add_zero, h.sl.len]
  have s1 := st1 (show i < 1000000 by omega)
  by_cases g1 : i < w.length
  · have e1 : decide (((i : Nat) : Int) < ((w.length : Nat) : Int)) = true := decide_eq_true (by omega)
    obtain ⟨b, o, a1, a2, a3, a4⟩ := h.sl.elem itV_len (k := .i64) g1
    have a30 := a3 0 (by omega)
    have a31 := a3 1 (by omega)
    have a32 := a3 2 (by omega)
    have hmem := List.getElem_mem g1
    simp only [itV, Nat.add_zero, List.getElem?_cons_zero, List.getElem?_cons_succ] at a30 a31 a32
    by_cases g2 : ((w[i].1 : Nat) : Int) = id
    · have e2 : (((w[i].1 : Nat) : Int) == id) = true := by rw [beq_iff_eq]; exact g2
      try simp only [go_sem, Int.reduceBEq, Int.reduceBNe, Int.reduceNeg, reduceCtorEq, Nat.reduceEqDiff, Nat.reduceAdd, Nat.reduceLeDiff, Nat.reduceMul, Nat.reduceSub, Int.reduceToNat, Int.reduceLT, Int.reduceLE, load_w, load_a, store_b, idxS_b, set_blk, new_blk, set_next, new_next, len_s, ldW_c, ldA_c, stB_c, toArr_one, size_one, toList_toArr, size_toArr, List.length_cons, List.length_nil, List.getElem?_cons_zero, List.getElem?_cons_succ, Nat.zero_add, Nat.add_zero, e1, a1, a30, e2, a31, a32]
      exact .inl ⟨w[i], hmem, g2, rfl⟩
    · have e2 : (((w[i].1 : Nat) : Int) == id) = false := by rw [beq_eq_false_iff_ne]; exact g2
      try simp only [go_sem, Int.reduceBEq, Int.reduceBNe, Int.reduceNeg, reduceCtorEq, Nat.reduceEqDiff, Nat.reduceAdd, Nat.reduceLeDiff, Nat.reduceMul, Nat.reduceSub, Int.reduceToNat, Int.reduceLT, Int.reduceLE, load_w, load_a, store_b, idxS_b, set_blk, new_blk, set_next, new_next, len_s, ldW_c, ldA_c, stB_c, toArr_one, size_one, toList_toArr, size_toArr, List.length_cons, List.length_nil, List.getElem?_cons_zero, List.getElem?_cons_succ, Nat.zero_add, Nat.add_zero, e1, a1, a30, e2, s1]
      refine ⟨w.length - (i + 1), by omega, i + 1, by omega, rfl, rfl, fun t ht h2 => ?_⟩
      by_cases e : t = i
      · subst e; exact g2
      · exact hno t ht (by omega)
  · have e1 : decide (((i : Nat) : Int) < ((w.length : Nat) : Int)) = false := decide_eq_false (by omega)
    try simp only [go_sem, Int.reduceBEq, Int.reduceBNe, Int.reduceNeg, reduceCtorEq, Nat.reduceEqDiff, Nat.reduceAdd, Nat.reduceLeDiff, Nat.reduceMul, Nat.reduceSub, Int.reduceToNat, Int.reduceLT, Int.reduceLE, load_w, load_a, store_b, idxS_b, set_blk, new_blk, set_next, new_next, len_s, ldW_c, ldA_c, stB_c, toArr_one, size_one, toList_toArr, size_toArr, List.length_cons, List.length_nil, List.getElem?_cons_zero, List.getElem?_cons_succ, Nat.zero_add, Nat.add_zero, e1]
    refine .inr fun p hp => ?_
    obtain ⟨t, ht, rfl⟩ := List.getElem_of_mem hp
    exact hno t ht (by omega)

theorem ltP_trans {p q r : It} (hp : p.2.2 ≠ 0#64) (hq : q.2.2 ≠ 0#64) (hr : r.2.2 ≠ 0#64) (h1 : HpS.ltP p q) (h2 : HpS.ltP q r) : HpS.ltP p r := ltK_trans hp hq hr h1 h2

set_option maxHeartbeats 1000000 in
theorem refMin_spec {w : List It} {v : Value} (h : ItsV m w v) (hd : ∀ p ∈ w, p.2.2 ≠ 0#64) :
    WC R F.ref06_Min [v] m fun r m' => ((w.length = 0 ∧ r = .tuple #[.int .i64 0, .bool false]) ∨ (∃ p ∈ w, (∀ q ∈ w, ¬ HpS.ltP q p) ∧ r = .tuple #[.int .i64 ((p.1 : Nat) : Int), .bool true])) ∧ Ext m m' := by
  refine WC.of R.ref06_Min rfl ?_
  have hle := h.le
  simp only [RC.ref06_Min, go_sem, Int.reduceBEq, Int.reduceBNe, Int.reduceNeg, reduceCtorEq, Nat.reduceEqDiff, Nat.reduceAdd, Nat.reduceLeDiff, Nat.reduceMul, Nat.reduceSub, Int.reduceToNat, Int.reduceLT, Int.reduceLE, h.sl.len]
  by_cases g0 : w.length = 0
  · have e0 : (((w.length : Nat) : Int) == 0) = true := by rw [beq_iff_eq]; omega
    try simp only [go_sem, Int.reduceBEq, Int.reduceBNe, Int.reduceNeg, reduceCtorEq, Nat.reduceEqDiff, Nat.reduceAdd, Nat.reduceLeDiff, Nat.reduceMul, Nat.reduceSub, Int.reduceToNat, Int.reduceLT, Int.reduceLE, load_w, load_a, store_b, idxS_b, set_blk, new_blk, set_next, new_next, len_s, ldW_c, ldA_c, stB_c, toArr_one, size_one, toList_toArr, size_toArr, List.length_cons, List.length_nil, List.getElem?_cons_zero, List.getElem?_cons_succ, Nat.zero_add, Nat.add_zero, e0]
    exact ⟨.inl g0, Ext.refl _⟩
  have e0 : (((w.length : Nat) : Int) == 0) = false := by rw [beq_eq_false_iff_ne]; omega
  have g0' : 0 < w.length := by omega
  obtain ⟨b, o, a1, a2, a3, a4⟩ := h.sl.elem itV_len (k := .i64) g0'
  have a1 : aIdxS 3 v (.int .i64 0) = some (.pointer (some ⟨b, o, none⟩)) := a1
  simp only [itV] at a2
  try simp only [go_sem, Int.reduceBEq, Int.reduceBNe, Int.reduceNeg, reduceCtorEq, Nat.reduceEqDiff, Nat.reduceAdd, Nat.reduceLeDiff, Nat.reduceMul, Nat.reduceSub, Int.reduceToNat, Int.reduceLT, Int.reduceLE, load_w, load_a, store_b, idxS_b, set_blk, new_blk, set_next, new_next, len_s, ldW_c, ldA_c, stB_c, toArr_one, size_one, toList_toArr, size_toArr, List.length_cons, List.length_nil, List.getElem?_cons_zero, List.getElem?_cons_succ, Nat.zero_add, Nat.add_zero, e0, a1, a2]
  have hx1 : Ext m (m.new (.cells [.int .i64 ((w[0].1 : Nat) : Int), u64 w[0].2.1, u64 w[0].2.2] (some 3))) := Ext.new
  have hb1 : Bk (m.new (.cells [.int .i64 ((w[0].1 : Nat) : Int), u64 w[0].2.1, u64 w[0].2.2] (some 3))) m.next [.int .i64 ((w[0].1 : Nat) : Int), u64 w[0].2.1, u64 w[0].2.2] 3 := Bk.new
  generalize m.new (.cells [.int .i64 ((w[0].1 : Nat) : Int), u64 w[0].2.1, u64 w[0].2.2] (some 3)) = m1 at hx1 hb1 ⊢
  refine WL.of (fun n e m' => ∃ (i : Nat) (p : It), 1 ≤ i ∧ i ≤ w.length ∧ n = w.length - i ∧ e = [(0, v), (4, pt m.next), (5, .int .i64 ((i : Nat) : Int))] ∧ p ∈ w ∧ (∀ t (ht : t < w.length), t < i → ¬ HpS.ltP w[t] p) ∧ Bk m' m.next [.int .i64 ((p.1 : Nat) : Int), u64 p.2.1, u64 p.2.2] 3 ∧ Ext m m') (w.length - 1)
    ⟨1, w[0], by omega, by omega, by omega, by simp only [go_sem, Int.reduceBEq, Int.reduceBNe, Int.reduceNeg, reduceCtorEq, Nat.reduceEqDiff, Nat.reduceAdd, Nat.reduceLeDiff, Nat.reduceMul, Nat.reduceSub, Int.reduceToNat, Int.reduceLT, Int.reduceLE] <;> rfl, List.getElem_mem g0', fun t ht h2 => ?_, hb1, hx1⟩ ?_
  · have : t = 0 := by omega
    subst this
    exact ltK_irrefl
  rintro _ _ m2 ⟨i, p, hi1, hi, rfl, rfl, hp, hall, hb2, hx2⟩
  have h2 := h.keep hx2
  simp only [RB.ref06_Min_1, pt, go_sem, Int.reduceBEq, Int.reduceBNe, Int.reduceNeg, reduceCtorEq, Nat.reduceEqDiff, Nat.reduceAdd, Nat.reduceLeDiff, Nat.reduceMul, Nat.reduceSub, Int.reduceToNat, Int.reduceLT, Int.reduceLE, load_w, load_a, store_b, idxS_b, set_blk, new_blk, set_next, new_next, len_s, ldW_c, ldA_c, stB_c, toArr_one, size_one, toList_toArr, size_toArr, List.length_cons, List.length_nil, List.getElem?_cons_zero, List.getElem?_cons_succ, Nat.zero_add, Nat.add_zero, h2.sl.len]
  have s1 := st1 (show i < 1000000 by omega)
  by_cases g1 : i < w.length
  · have e1 : decide (((i : Nat) : Int) < ((w.length : Nat) : Int)) = true := decide_eq_true (by omega)
    obtain ⟨b', o', c1, c2, -, c4⟩ := h2.sl.elem itV_len (k := .i64) g1
    have hmem := List.getElem_mem g1
    simp only [itV] at c2
    try simp only [go_sem, Int.reduceBEq, Int.reduceBNe, Int.reduceNeg, reduceCtorEq, Nat.reduceEqDiff, Nat.reduceAdd, Nat.reduceLeDiff, Nat.reduceMul, Nat.reduceSub, Int.reduceToNat, Int.reduceLT, Int.reduceLE, load_w, load_a, store_b, idxS_b, set_blk, new_blk, set_next, new_next, len_s, ldW_c, ldA_c, stB_c, toArr_one, size_one, toList_toArr, size_toArr, List.length_cons, List.length_nil, List.getElem?_cons_zero, List.getElem?_cons_succ, Nat.zero_add, Nat.add_zero, e1, c1, c2, hb2.at_]
    refine gC.of (refahead_spec (p := w[i]) (q := p)) ?_
    rintro _ m3 ⟨rfl, hx3⟩
    by_cases g2 : HpS.ltP w[i] p
    · obtain ⟨b'', o'', d1, d2, -, d4⟩ := (h2.keep hx3).sl.elem itV_len (k := .i64) g1
      rw [c1] at d1
      cases d1
      simp only [itV] at d2
      have hb3 := hb2.keep hx3
      try simp only [go_sem, Int.reduceBEq, Int.reduceBNe, Int.reduceNeg, reduceCtorEq, Nat.reduceEqDiff, Nat.reduceAdd, Nat.reduceLeDiff, Nat.reduceMul, Nat.reduceSub, Int.reduceToNat, Int.reduceLT, Int.reduceLE, load_w, load_a, store_b, idxS_b, set_blk, new_blk, set_next, new_next, len_s, ldW_c, ldA_c, stB_c, toArr_one, size_one, toList_toArr, size_toArr, List.length_cons, List.length_nil, List.getElem?_cons_zero, List.getElem?_cons_succ, Nat.zero_add, Nat.add_zero, decide_eq_true g2, c1, d2, hb3.at_, s1]
      refine ⟨w.length - (i + 1), by omega, i + 1, w[i], by omega, by omega, rfl, rfl, hmem, fun t ht h3 => ?_, ⟨by simp [Mem.set], hb3.lt⟩, (hx2.trans hx3).set (Nat.le_refl _)⟩
      by_cases e : t = i
      · subst e; exact ltK_irrefl
      · exact fun hh => hall t ht (by omega) (ltP_trans (hd _ (List.getElem_mem ht)) (hd _ hmem) (hd _ hp) hh g2)
    · try simp only [go_sem, Int.reduceBEq, Int.reduceBNe, Int.reduceNeg, reduceCtorEq, Nat.reduceEqDiff, Nat.reduceAdd, Nat.reduceLeDiff, Nat.reduceMul, Nat.reduceSub, Int.reduceToNat, Int.reduceLT, Int.reduceLE, load_w, load_a, store_b, idxS_b, set_blk, new_blk, set_next, new_next, len_s, ldW_c, ldA_c, stB_c, toArr_one, size_one, toList_toArr, size_toArr, List.length_cons, List.length_nil, List.getElem?_cons_zero, List.getElem?_cons_succ, Nat.zero_add, Nat.add_zero, decide_eq_false g2, s1]
      refine ⟨w.length - (i + 1), by omega, i + 1, p, by omega, by omega, rfl, rfl, hp, fun t ht h3 => ?_, hb2.keep hx3, hx2.trans hx3⟩
      by_cases e : t = i
      · subst e; exact g2
      · exact hall t ht (by omega)
  · have e1 : decide (((i : Nat) : Int) < ((w.length : Nat) : Int)) = false := decide_eq_false (by omega)
    try simp only [go_sem, Int.reduceBEq, Int.reduceBNe, Int.reduceNeg, reduceCtorEq, Nat.reduceEqDiff, Nat.reduceAdd, Nat.reduceLeDiff, Nat.reduceMul, Nat.reduceSub, Int.reduceToNat, Int.reduceLT, Int.reduceLE, load_w, load_a, store_b, idxS_b, set_blk, new_blk, set_next, new_next, len_s, ldW_c, ldA_c, stB_c, toArr_one, size_one, toList_toArr, size_toArr, List.length_cons, List.length_nil, List.getElem?_cons_zero, List.getElem?_cons_succ, Nat.zero_add, Nat.add_zero, e1, hb2.at_]
    refine ⟨.inr ⟨p, hp, fun q hq => ?_, rfl⟩, hx2⟩
    obtain ⟨t, ht, rfl⟩ := List.getElem_of_mem hq
    exact hall t ht (by omega)
end Go.Am


/- HeapPlays: heap and list side by side. -/
set_option linter.unusedVariables false
set_option linter.unusedSimpArgs false
namespace Go.Am
open Classical
variable {m : Mem}

theorem gp_mono {R : Nat → Option FEnt} {a : RCode} {e : Env} {Q Q' : Ex → Env → Mem → Prop} (h1 : gp R a e m Q') (h2 : ∀ x e' m', Q' x e' m' → Q x e' m') : gp R a e m Q := wp.mono (c := a) h2 h1
theorem ItsV.upd {m m' : Mem} {w : List It} {v : Value} {fp : List Nat} (h : ItsV m w v) (hx : Upd m m' fp) (ho : ∀ b ∈ vb v, b ∉ fp) : ItsV m' w v := ⟨h.sl.upd h.lt (SlOff.vb_iff.2 ho) hx, h.lt.upd hx, h.le⟩

structure HI (m0 m : Mem) (n b : Nat) (s : HpS) (fp : List Nat) (w : List It) (wv : Value) (i : Nat) : Prop where
  hp : HpV m b s fp
  heap : s.Heap
  sz : s.keys.length = n
  rel : s.Rel w
  its : ItsV m w wv
  off : ∀ x ∈ vb wv, x ∉ fp
  ge : ∀ x ∈ fp, m0.next ≤ x
  ext : Ext m0 m
  wl : w.length ≤ i
theorem HI.keep {m0 m m' : Mem} {n b : Nat} {s : HpS} {fp : List Nat} {w : List It} {wv : Value} {i : Nat} (h : HI m0 m n b s fp w wv i) (hx : Ext m m') : HI m0 m' n b s fp w wv i :=
  ⟨h.hp.keep hx, h.heap, h.sz, h.rel, h.its.keep hx, h.off, h.ge, h.ext.trans hx, h.wl⟩
theorem HI.more {m0 m : Mem} {n b : Nat} {s : HpS} {fp : List Nat} {w : List It} {wv : Value} {i j : Nat} (h : HI m0 m n b s fp w wv i) (hj : i ≤ j) : HI m0 m n b s fp w wv j :=
  ⟨h.hp, h.heap, h.sz, h.rel, h.its, h.off, h.ge, h.ext, Nat.le_trans h.wl hj⟩
theorem HI.step {m0 m m1 m2 : Mem} {n b : Nat} {s t : HpS} {fp : List Nat} {w w' : List It} {wv wv' : Value} {i : Nat} (h : HI m0 m n b s fp w wv i) (hx : Ext m m1) (its : ItsV m1 w' wv') (off : ∀ x ∈ vb wv', x ∉ fp)
    (A : After m1 m2 b s t fp) (ht : t.keys.length = n) (hr : t.Rel w') (hl : w'.length ≤ i + 1) : ∃ fq, HI m0 m2 n b t fq w' wv' (i + 1) := by
  obtain ⟨⟨fq, a1, a2⟩, a3, a4⟩ := A
  have hn := h.ext.next
  have hn1 := hx.next
  exact ⟨fq, a1, a3, ht, hr, its.upd a4 off, fun x hx' hm => by
    rcases a2 x hm with h1 | h1
    · exact off x hx' h1
    · have := SlLt.vb_iff.1 its.lt x hx'; omega, fun x hx' => by
    rcases a2 x hx' with h1 | h1
    · exact h.ge x h1
    · omega, a4.ext_of (h.ext.trans hx) h.ge, hl⟩

theorem outL_nat {w : List It} {x : Nat} : outL w ((x : Nat) : Int) = w.filter fun p => decide (p.1 ≠ x) := by
  unfold outL
  refine List.filter_congr fun p _ => ?_
  exact decide_eq_decide.2 (by omega)
theorem outL_lt {w : List It} {id : Int} : (outL w id).length < w.length ↔ ∃ p ∈ w, ((p.1 : Nat) : Int) = id := by
  unfold outL
  constructor
  · intro h
    apply Classical.byContradiction
    intro hn
    have : w.filter (fun p => decide (((p.1 : Nat) : Int) ≠ id)) = w := List.filter_eq_self.2 fun p hp => decide_eq_true fun e => hn ⟨p, hp, e⟩
    rw [this] at h; omega
  · rintro ⟨p, hp, e⟩
    refine List.length_filter_lt_length_iff_exists.2 ⟨p, hp, ?_⟩
    simp [e]
theorem outL_self {w : List It} {id : Int} (h : ¬ ∃ p ∈ w, ((p.1 : Nat) : Int) = id) : outL w id = w := List.filter_eq_self.2 fun p hp => decide_eq_true fun e => h ⟨p, hp, e⟩
theorem has_iff {s : HpS} {w : List It} (hr : s.Rel w) {id : Int} : hasId s id ↔ ∃ p ∈ w, ((p.1 : Nat) : Int) = id := by
  unfold hasId
  rw [← hr.mem]
  constructor
  · rintro ⟨h1, h2⟩
    obtain ⟨p, hp, e⟩ := List.mem_map.1 h2
    exact ⟨p, hp, by omega⟩
  · rintro ⟨p, hp, e⟩
    exact ⟨by omega, List.mem_map.2 ⟨p, hp, by omega⟩⟩

def sqA : RCode → RCode | .seq a _ => a | c => c
def sqB : RCode → RCode | .seq _ b => b | c => c
def bkC : RCode → RCode | .block _ c _ => c | c => c
def cnA : RCode → RCode | .cond _ a _ => a | c => c
def cnB : RCode → RCode | .cond _ _ b => b | c => c
def hCond : RCode := sqA RB.law06_HeapPlays_1
def hBlk : RCode := bkC (sqA (sqB RB.law06_HeapPlays_1))
def hBox : RCode := sqA hBlk
def hSw : RCode := sqA (sqB hBlk)
def hRest : RCode := sqB (sqB hBlk)
def hInc : RCode := sqB (sqB RB.law06_HeapPlays_1)
theorem hplays_eq : RB.law06_HeapPlays_1 = .seq hCond (.seq (.block 1 (.seq hBox (.seq hSw hRest)) [0, 1, 2, 7, 9, 10]) hInc) := rfl

def hEnv (n : Nat) (lv : Value) (ask : Int) (b : Nat) (wv : Value) (i : Nat) : Env := [(0, .int .i64 ((n : Nat) : Int)), (1, lv), (2, .int .i64 ask), (7, pt b), (9, wv), (10, .int .i64 ((i : Nat) : Int))]

/-- What both tell of the first one. -/
theorem min_both {s : HpS} {w : List It} (hr : s.Rel w) (hw : s.Wf) (hh : s.Heap) : ∃ (x : Int) (ok : Bool), (if s.ids.length = 0 then Value.tuple #[.int .i64 0, .bool false] else .tuple #[.int .i64 ((s.at_ 0 : Nat) : Int), .bool true]) = .tuple #[.int .i64 x, .bool ok] ∧
    ∀ r, ((w.length = 0 ∧ r = Value.tuple #[.int .i64 0, .bool false]) ∨ (∃ p ∈ w, (∀ q ∈ w, ¬ HpS.ltP q p) ∧ r = .tuple #[.int .i64 ((p.1 : Nat) : Int), .bool true])) → r = .tuple #[.int .i64 x, .bool ok] := by
  have hlen := hr.len hw
  by_cases h0 : s.ids.length = 0
  · refine ⟨0, false, by rw [if_pos h0], ?_⟩
    rintro r (⟨-, h⟩ | ⟨p, hp, -⟩)
    · exact h
    · have := List.length_pos_of_mem hp; omega
  · refine ⟨((s.at_ 0 : Nat) : Int), true, by rw [if_neg h0], ?_⟩
    rintro r (⟨h, -⟩ | ⟨p, hp, h1, h2⟩)
    · omega
    · rw [h2, hr.min hw hh hp h1]
/-- What both tell of a key. -/
theorem key_both {s : HpS} {w : List It} (hr : s.Rel w) {id : Int} : ∃ (a c : BitVec 64) (ok : Bool), (if hasId s id then Value.tuple #[u64 (s.key id.toNat).1, u64 (s.key id.toNat).2, .bool true] else .tuple #[u64 0#64, u64 0#64, .bool false]) = .tuple #[u64 a, u64 c, .bool ok] ∧
    ∀ r, ((∃ p ∈ w, ((p.1 : Nat) : Int) = id ∧ r = Value.tuple #[u64 p.2.1, u64 p.2.2, .bool true]) ∨ ((∀ p ∈ w, ((p.1 : Nat) : Int) ≠ id) ∧ r = .tuple #[u64 0#64, u64 0#64, .bool false])) → r = .tuple #[u64 a, u64 c, .bool ok] := by
  have hi := has_iff hr (id := id)
  by_cases h0 : hasId s id
  · refine ⟨(s.key id.toNat).1, (s.key id.toNat).2, true, by rw [if_pos h0], ?_⟩
    rintro r (⟨p, hp, e, h⟩ | ⟨h, -⟩)
    · have := hr.key p hp
      rw [h, ← this, ← e, Int.toNat_natCast]
    · obtain ⟨p, hp, e⟩ := hi.1 h0
      exact absurd e (h p hp)
  · refine ⟨0#64, 0#64, false, by rw [if_neg h0], ?_⟩
    rintro r (⟨p, hp, e, h⟩ | ⟨-, h⟩)
    · exact absurd (hi.2 ⟨p, hp, e⟩) h0
    · exact h

set_option maxHeartbeats 4000000 in
theorem Heap_rest {m0 : Mem} {n b : Nat} {s : HpS} {fp : List Nat} {w : List It} {wv lv : Value} {i j : Nat} {ask : Int} (h : HI m0 m n b s fp w wv j) :
    gp R hRest (hEnv n lv ask b wv i) m fun x e' m' => x = .normal ∧ e' = hEnv n lv ask b wv i ++ [(215, .bool false)] ∧ HI m0 m' n b s fp w wv j := by
  simp only [hRest, hBlk, sqA, sqB, bkC, RB.law06_HeapPlays_1, hEnv, List.cons_append, List.nil_append, pt]
  obtain ⟨x, ok, b1, b2⟩ := min_both h.rel h.hp.wf h.heap
  obtain ⟨a, c, okk, k1, k2⟩ := key_both h.rel (id := ask)
  simp only [go_sem, Int.reduceBEq, Int.reduceBNe, Int.reduceNeg, reduceCtorEq, Nat.reduceEqDiff, Nat.reduceAdd, Nat.reduceLeDiff, Nat.reduceMul, Nat.reduceSub, Int.reduceToNat, Int.reduceLT, Int.reduceLE]
  refine gC.of (Min_spec h.hp) ?_
  rintro _ _ ⟨rfl, hm⟩
  replace hm := hm.symm
  subst hm
  have hlen := h.rel.len h.hp.wf
  rw [b1]
  simp only [go_sem, Int.reduceBEq, Int.reduceBNe, Int.reduceNeg, reduceCtorEq, Nat.reduceEqDiff, Nat.reduceAdd, Nat.reduceLeDiff, Nat.reduceMul, Nat.reduceSub, Int.reduceToNat, Int.reduceLT, Int.reduceLE, aExt0, aExt1]
  refine gC.of (refMin_spec h.its (h.rel.den h.hp.wf)) ?_
  rintro r m2 ⟨hr, hx2⟩
  rw [b2 r hr]
  have h2 := h.keep hx2
  simp only [go_sem, Int.reduceBEq, Int.reduceBNe, Int.reduceNeg, reduceCtorEq, Nat.reduceEqDiff, Nat.reduceAdd, Nat.reduceLeDiff, Nat.reduceMul, Nat.reduceSub, Int.reduceToNat, Int.reduceLT, Int.reduceLE, aExt0, aExt1]
  refine gC.of (Key_spec (id := ask) h2.hp) ?_
  rintro _ _ ⟨rfl, hm⟩
  replace hm := hm.symm
  subst hm
  rw [k1]
  simp only [go_sem, Int.reduceBEq, Int.reduceBNe, Int.reduceNeg, reduceCtorEq, Nat.reduceEqDiff, Nat.reduceAdd, Nat.reduceLeDiff, Nat.reduceMul, Nat.reduceSub, Int.reduceToNat, Int.reduceLT, Int.reduceLE, aExt0, aExt1, aExt2]
  refine gC.of (refKey_spec (id := ask) h2.its) ?_
  rintro r' _ ⟨hr', hm⟩
  replace hm := hm.symm
  subst hm
  rw [k2 r' hr']
  have f1 : (x != x) = false := by rw [bne_eq_false_iff_eq]
  have f2 : (!(ok == ok)) = false := by simp
  have f3 : (!(okk == okk)) = false := by simp
  have f4 : decide (a ≠ a) = false := by simp
  have f5 : decide (c ≠ c) = false := by simp
  have f6 : (((s.ids.length : Nat) : Int) != ((w.length : Nat) : Int)) = false := by rw [bne_eq_false_iff_eq, hlen]
  simp only [go_sem, Int.reduceBEq, Int.reduceBNe, Int.reduceNeg, reduceCtorEq, Nat.reduceEqDiff, Nat.reduceAdd, Nat.reduceLeDiff, Nat.reduceMul, Nat.reduceSub, Int.reduceToNat, Int.reduceLT, Int.reduceLE, aExt0, aExt1, aExt2, f1, f2]
  refine gC.of (Len_spec h2.hp) ?_
  rintro _ _ ⟨rfl, hm⟩
  replace hm := hm.symm
  subst hm
  simp only [go_sem, Int.reduceBEq, Int.reduceBNe, Int.reduceNeg, reduceCtorEq, Nat.reduceEqDiff, Nat.reduceAdd, Nat.reduceLeDiff, Nat.reduceMul, Nat.reduceSub, Int.reduceToNat, Int.reduceLT, Int.reduceLE, h2.its.sl.len, f6, f3, f4, f5]
  exact h2

theorem fill_it {x : Int} {a b : BitVec 64} : fillL [.int .i64 0, u64 0#64, u64 0#64] [(0, 1, .int .i64 x), (1, 1, u64 a), (2, 1, u64 b)] = some [.int .i64 x, u64 a, u64 b] := rfl
theorem ItsV.own {M m : Mem} {w : List It} {v : Value} (h : Own M m 3 w.length (w.flatMap itV) v) (hl : w.length < 100000) : ItsV m w v := ⟨h.sl, h.lt, hl⟩

def hS0 : RCode := sqA hSw
def hFront : RCode := sqA (bkC (sqB hSw))
def hPut : RCode := cnA (sqB (bkC (sqB hSw)))
def hOth : RCode := cnB (sqB (bkC (sqB hSw)))
theorem hsw_eq : hSw = .seq hS0 (.block 2 (.seq hFront (.cond (.t 72) hPut hOth)) [0, 1, 2, 7, 9, 10]) := rfl

set_option maxHeartbeats 4000000 in
theorem Heap_put {m0 : Mem} {n b d : Nat} {s : HpS} {fp : List Nat} {w : List It} {wv lv : Value} {i : Nat} {ask k id : Int} {num den : BitVec 64} (h : HI m0 m n b s fp w wv i) (hi : i < 1000) (hd : Bk m d [.int .i64 k, .int .i64 id, u64 num, u64 den] 4) :
    gp R hPut [(0, .int .i64 ((n : Nat) : Int)), (1, lv), (2, .int .i64 ask), (7, pt b), (9, wv), (10, .int .i64 ((i : Nat) : Int)), (11, pt d), (71, .int .i64 k), (72, .bool true)] m fun x e' m' => x = .normal ∧ ∃ s' fp' w' wv', e' = [(0, .int .i64 ((n : Nat) : Int)), (1, lv), (2, .int .i64 ask), (7, pt b), (9, wv'), (10, .int .i64 ((i : Nat) : Int)), (118, .bool false)] ∧ HI m0 m' n b s' fp' w' wv' (i + 1) := by
  simp only [hPut, hSw, hBlk, sqA, sqB, bkC, cnA, RB.law06_HeapPlays_1, pt]
  have hlt := h.hp.lt
  have hwl := h.wl
  by_cases hok : okPut s id den
  · obtain ⟨o1, o2, o3⟩ := hok
    have hok : okPut s id den := ⟨o1, o2, o3⟩
    obtain ⟨x, rfl⟩ : ∃ x : Nat, id = (x : Int) := ⟨id.toNat, by omega⟩
    rw [h.sz] at o2
    have e1 : decide (0 ≤ ((x : Nat) : Int)) = true := decide_eq_true o1
    have e2 : decide (((x : Nat) : Int) < ((n : Nat) : Int)) = true := decide_eq_true o2
    have e3 : decide ((0#64 : BitVec 64).toNat < den.toNat) = true := decide_eq_true (Nat.pos_of_ne_zero fun e => o3 (BitVec.eq_of_toNat_eq (by simpa using e)))
    try simp only [go_sem, Int.reduceBEq, Int.reduceBNe, Int.reduceNeg, reduceCtorEq, Nat.reduceEqDiff, Nat.reduceAdd, Nat.reduceLeDiff, Nat.reduceMul, Nat.reduceSub, Int.reduceToNat, Int.reduceLT, Int.reduceLE, load_w, load_a, store_b, idxS_b, set_blk, new_blk, set_next, new_next, len_s, ldW_c, ldA_c, stB_c, toArr_one, size_one, toList_toArr, size_toArr, List.length_cons, List.length_nil, List.getElem?_cons_zero, List.getElem?_cons_succ, Nat.zero_add, Nat.add_zero, hd.at_, e1, e2, e3, ↓fill_it]
    refine gC.of (refPut_spec (p := (x, (num, den))) h.its) ?_
    rintro wv' m1 ⟨ho, hx1⟩
    have hol := outL_len (w := w) (id := ((x : Nat) : Int))
    have hd1 := hd.keep hx1
    have hits : ItsV m1 (outL w ((x : Nat) : Int) ++ [(x, (num, den))]) wv' := ItsV.own ho (by simp; omega)
    have hoff : ∀ y ∈ vb wv', y ∉ fp := fun y hy hm => by have := ho.ge y hy; have := hlt y hm; omega
    try simp only [go_sem, Int.reduceBEq, Int.reduceBNe, Int.reduceNeg, reduceCtorEq, Nat.reduceEqDiff, Nat.reduceAdd, Nat.reduceLeDiff, Nat.reduceMul, Nat.reduceSub, Int.reduceToNat, Int.reduceLT, Int.reduceLE, load_w, load_a, store_b, idxS_b, set_blk, new_blk, set_next, new_next, len_s, ldW_c, ldA_c, stB_c, toArr_one, size_one, toList_toArr, size_toArr, List.length_cons, List.length_nil, List.getElem?_cons_zero, List.getElem?_cons_succ, Nat.zero_add, Nat.add_zero, hd1.at_]
    refine gC.of (Put_spec (id := ((x : Nat) : Int)) (num := num) (den := den) (h.hp.keep hx1) h.heap) ?_
    rintro r m2 (⟨hn, -⟩ | ⟨-, rfl, t, hA, hk1, hk2, hk3⟩)
    · exact absurd hok hn
    rw [Int.toNat_natCast] at hk2 hk3
    obtain ⟨fq, hI⟩ := h.step hx1 hits hoff hA (by rw [hk1, h.sz]) (by rw [outL_nat]; exact h.rel.put hk2 hk3) (by simp; omega)
    try simp only [go_sem, Int.reduceBEq, Int.reduceBNe, Int.reduceNeg, reduceCtorEq, Nat.reduceEqDiff, Nat.reduceAdd, Nat.reduceLeDiff, Nat.reduceMul, Nat.reduceSub, Int.reduceToNat, Int.reduceLT, Int.reduceLE, load_w, load_a, store_b, idxS_b, set_blk, new_blk, set_next, new_next, len_s, ldW_c, ldA_c, stB_c, toArr_one, size_one, toList_toArr, size_toArr, List.length_cons, List.length_nil, List.getElem?_cons_zero, List.getElem?_cons_succ, Nat.zero_add, Nat.add_zero]
    exact ⟨t, fq, _, wv', rfl, hI⟩
  · by_cases o1 : 0 ≤ id
    · by_cases o2 : id < ((n : Nat) : Int)
      · have o3 : den = 0#64 := Classical.byContradiction fun e => hok ⟨o1, by rw [h.sz]; exact o2, e⟩
        subst o3
        have e3 : decide ((0#64 : BitVec 64).toNat < (0#64 : BitVec 64).toNat) = false := by simp
        try simp only [go_sem, Int.reduceBEq, Int.reduceBNe, Int.reduceNeg, reduceCtorEq, Nat.reduceEqDiff, Nat.reduceAdd, Nat.reduceLeDiff, Nat.reduceMul, Nat.reduceSub, Int.reduceToNat, Int.reduceLT, Int.reduceLE, load_w, load_a, store_b, idxS_b, set_blk, new_blk, set_next, new_next, len_s, ldW_c, ldA_c, stB_c, toArr_one, size_one, toList_toArr, size_toArr, List.length_cons, List.length_nil, List.getElem?_cons_zero, List.getElem?_cons_succ, Nat.zero_add, Nat.add_zero, hd.at_, decide_eq_true o1, decide_eq_true o2, e3]
        refine gC.of (Put_spec (id := id) (num := num) (den := 0#64) h.hp h.heap) ?_
        rintro r m2 (⟨-, rfl, hm⟩ | ⟨hn, -⟩)
        · replace hm := hm.symm
          subst hm
          try simp only [go_sem, Int.reduceBEq, Int.reduceBNe, Int.reduceNeg, reduceCtorEq, Nat.reduceEqDiff, Nat.reduceAdd, Nat.reduceLeDiff, Nat.reduceMul, Nat.reduceSub, Int.reduceToNat, Int.reduceLT, Int.reduceLE, load_w, load_a, store_b, idxS_b, set_blk, new_blk, set_next, new_next, len_s, ldW_c, ldA_c, stB_c, toArr_one, size_one, toList_toArr, size_toArr, List.length_cons, List.length_nil, List.getElem?_cons_zero, List.getElem?_cons_succ, Nat.zero_add, Nat.add_zero]
          exact ⟨s, fp, w, wv, rfl, h.more (by omega)⟩
        · exact absurd hn hok
      · try simp only [go_sem, Int.reduceBEq, Int.reduceBNe, Int.reduceNeg, reduceCtorEq, Nat.reduceEqDiff, Nat.reduceAdd, Nat.reduceLeDiff, Nat.reduceMul, Nat.reduceSub, Int.reduceToNat, Int.reduceLT, Int.reduceLE, load_w, load_a, store_b, idxS_b, set_blk, new_blk, set_next, new_next, len_s, ldW_c, ldA_c, stB_c, toArr_one, size_one, toList_toArr, size_toArr, List.length_cons, List.length_nil, List.getElem?_cons_zero, List.getElem?_cons_succ, Nat.zero_add, Nat.add_zero, hd.at_, decide_eq_true o1, decide_eq_false o2]
        refine gC.of (Put_spec (id := id) (num := num) (den := den) h.hp h.heap) ?_
        rintro r m2 (⟨-, rfl, hm⟩ | ⟨hn, -⟩)
        · replace hm := hm.symm
          subst hm
          try simp only [go_sem, Int.reduceBEq, Int.reduceBNe, Int.reduceNeg, reduceCtorEq, Nat.reduceEqDiff, Nat.reduceAdd, Nat.reduceLeDiff, Nat.reduceMul, Nat.reduceSub, Int.reduceToNat, Int.reduceLT, Int.reduceLE, load_w, load_a, store_b, idxS_b, set_blk, new_blk, set_next, new_next, len_s, ldW_c, ldA_c, stB_c, toArr_one, size_one, toList_toArr, size_toArr, List.length_cons, List.length_nil, List.getElem?_cons_zero, List.getElem?_cons_succ, Nat.zero_add, Nat.add_zero]
          exact ⟨s, fp, w, wv, rfl, h.more (by omega)⟩
        · exact absurd hn hok
    · try simp only [go_sem, Int.reduceBEq, Int.reduceBNe, Int.reduceNeg, reduceCtorEq, Nat.reduceEqDiff, Nat.reduceAdd, Nat.reduceLeDiff, Nat.reduceMul, Nat.reduceSub, Int.reduceToNat, Int.reduceLT, Int.reduceLE, load_w, load_a, store_b, idxS_b, set_blk, new_blk, set_next, new_next, len_s, ldW_c, ldA_c, stB_c, toArr_one, size_one, toList_toArr, size_toArr, List.length_cons, List.length_nil, List.getElem?_cons_zero, List.getElem?_cons_succ, Nat.zero_add, Nat.add_zero, hd.at_, decide_eq_false o1]
      refine gC.of (Put_spec (id := id) (num := num) (den := den) h.hp h.heap) ?_
      rintro r m2 (⟨-, rfl, hm⟩ | ⟨hn, -⟩)
      · replace hm := hm.symm
        subst hm
        try simp only [go_sem, Int.reduceBEq, Int.reduceBNe, Int.reduceNeg, reduceCtorEq, Nat.reduceEqDiff, Nat.reduceAdd, Nat.reduceLeDiff, Nat.reduceMul, Nat.reduceSub, Int.reduceToNat, Int.reduceLT, Int.reduceLE, load_w, load_a, store_b, idxS_b, set_blk, new_blk, set_next, new_next, len_s, ldW_c, ldA_c, stB_c, toArr_one, size_one, toList_toArr, size_toArr, List.length_cons, List.length_nil, List.getElem?_cons_zero, List.getElem?_cons_succ, Nat.zero_add, Nat.add_zero]
        exact ⟨s, fp, w, wv, rfl, h.more (by omega)⟩
      · exact absurd hn hok

set_option maxHeartbeats 4000000 in
theorem Heap_oth {m0 : Mem} {n b d : Nat} {s : HpS} {fp : List Nat} {w : List It} {wv lv : Value} {i : Nat} {ask k id : Int} {num den : BitVec 64} (h : HI m0 m n b s fp w wv i) (hi : i < 1000) (hd : Bk m d [.int .i64 k, .int .i64 id, u64 num, u64 den] 4) :
    gp R hOth [(0, .int .i64 ((n : Nat) : Int)), (1, lv), (2, .int .i64 ask), (7, pt b), (9, wv), (10, .int .i64 ((i : Nat) : Int)), (11, pt d), (71, .int .i64 k), (72, .bool false)] m fun x e' m' => x = .normal ∧ ∃ s' fp' w' wv' rs, e' = [(0, .int .i64 ((n : Nat) : Int)), (1, lv), (2, .int .i64 ask), (7, pt b), (9, wv'), (10, .int .i64 ((i : Nat) : Int))] ++ rs ∧ HI m0 m' n b s' fp' w' wv' (i + 1) := by
  simp only [hOth, hSw, hBlk, sqA, sqB, bkC, cnB, RB.law06_HeapPlays_1, pt]
  have hlt := h.hp.lt
  have hwl := h.wl
  by_cases g2 : k = 2
  · have e1 : (k == 2) = true := by rw [beq_iff_eq]; exact g2
    try simp only [go_sem, Int.reduceBEq, Int.reduceBNe, Int.reduceNeg, reduceCtorEq, Nat.reduceEqDiff, Nat.reduceAdd, Nat.reduceLeDiff, Nat.reduceMul, Nat.reduceSub, Int.reduceToNat, Int.reduceLT, Int.reduceLE, load_w, load_a, store_b, idxS_b, set_blk, new_blk, set_next, new_next, len_s, ldW_c, ldA_c, stB_c, toArr_one, size_one, toList_toArr, size_toArr, List.length_cons, List.length_nil, List.getElem?_cons_zero, List.getElem?_cons_succ, Nat.zero_add, Nat.add_zero, hd.at_, e1]
    refine gC.of (refRemove_spec (id := id) h.its) ?_
    rintro _ m1 ⟨wv', rfl, ho, hx1⟩
    have hol := outL_len (w := w) (id := id)
    have hd1 := hd.keep hx1
    have hits : ItsV m1 (outL w id) wv' := ItsV.own ho (by omega)
    have hoff : ∀ y ∈ vb wv', y ∉ fp := fun y hy hm => by have := ho.ge y hy; have := hlt y hm; omega
    have hil := has_iff h.rel (id := id)
    have hol2 := outL_lt (w := w) (id := id)
    try simp only [go_sem, Int.reduceBEq, Int.reduceBNe, Int.reduceNeg, reduceCtorEq, Nat.reduceEqDiff, Nat.reduceAdd, Nat.reduceLeDiff, Nat.reduceMul, Nat.reduceSub, Int.reduceToNat, Int.reduceLT, Int.reduceLE, load_w, load_a, store_b, idxS_b, set_blk, new_blk, set_next, new_next, len_s, ldW_c, ldA_c, stB_c, toArr_one, size_one, toList_toArr, size_toArr, List.length_cons, List.length_nil, List.getElem?_cons_zero, List.getElem?_cons_succ, Nat.zero_add, Nat.add_zero, aExt0, aExt1, hd1.at_]
    refine gC.of (Remove_spec (id := id) (h.hp.keep hx1) h.heap) ?_
    rintro r m2 (⟨hn, rfl, hm⟩ | ⟨hn, rfl, t, hA, hk1, hk2⟩)
    · replace hm := hm.symm
      subst hm
      have hno : ¬ ∃ p ∈ w, ((p.1 : Nat) : Int) = id := fun hh => hn (hil.2 hh)
      have e2 : decide ((outL w id).length < w.length) = false := decide_eq_false (fun hh => hno (hol2.1 hh))
      try simp only [go_sem, Int.reduceBEq, Int.reduceBNe, Int.reduceNeg, reduceCtorEq, Nat.reduceEqDiff, Nat.reduceAdd, Nat.reduceLeDiff, Nat.reduceMul, Nat.reduceSub, Int.reduceToNat, Int.reduceLT, Int.reduceLE, load_w, load_a, store_b, idxS_b, set_blk, new_blk, set_next, new_next, len_s, ldW_c, ldA_c, stB_c, toArr_one, size_one, toList_toArr, size_toArr, List.length_cons, List.length_nil, List.getElem?_cons_zero, List.getElem?_cons_succ, Nat.zero_add, Nat.add_zero, e2]
      have hself := outL_self hno
      rw [hself] at hits
      exact ⟨s, fp, w, wv', _, rfl, (h.keep hx1).hp, h.heap, h.sz, h.rel, hits, hoff, h.ge, h.ext.trans hx1, by omega⟩
    · have hyes := hil.1 hn
      have e2 : decide ((outL w id).length < w.length) = true := decide_eq_true (hol2.2 hyes)
      obtain ⟨x, rfl⟩ : ∃ x : Nat, id = (x : Int) := ⟨id.toNat, by have := hn.1; omega⟩
      rw [Int.toNat_natCast] at hk2
      obtain ⟨fq, hI⟩ := h.step hx1 hits hoff hA (by rw [hk1, h.sz]) (by rw [outL_nat]; exact h.rel.out hk1 hk2) (by omega)
      try simp only [go_sem, Int.reduceBEq, Int.reduceBNe, Int.reduceNeg, reduceCtorEq, Nat.reduceEqDiff, Nat.reduceAdd, Nat.reduceLeDiff, Nat.reduceMul, Nat.reduceSub, Int.reduceToNat, Int.reduceLT, Int.reduceLE, load_w, load_a, store_b, idxS_b, set_blk, new_blk, set_next, new_next, len_s, ldW_c, ldA_c, stB_c, toArr_one, size_one, toList_toArr, size_toArr, List.length_cons, List.length_nil, List.getElem?_cons_zero, List.getElem?_cons_succ, Nat.zero_add, Nat.add_zero, e2]
      exact ⟨t, fq, _, wv', _, rfl, hI⟩
  · have e1 : (k == 2) = false := by rw [beq_eq_false_iff_ne]; exact g2
    by_cases g3 : k = 3
    · have e3 : (k == 3) = true := by rw [beq_iff_eq]; exact g3
      have hlen := h.rel.len h.hp.wf
      try simp only [go_sem, Int.reduceBEq, Int.reduceBNe, Int.reduceNeg, reduceCtorEq, Nat.reduceEqDiff, Nat.reduceAdd, Nat.reduceLeDiff, Nat.reduceMul, Nat.reduceSub, Int.reduceToNat, Int.reduceLT, Int.reduceLE, load_w, load_a, store_b, idxS_b, set_blk, new_blk, set_next, new_next, len_s, ldW_c, ldA_c, stB_c, toArr_one, size_one, toList_toArr, size_toArr, List.length_cons, List.length_nil, List.getElem?_cons_zero, List.getElem?_cons_succ, Nat.zero_add, Nat.add_zero, e1, e3]
      refine gC.of (refMin_spec h.its (h.rel.den h.hp.wf)) ?_
      rintro r m1 ⟨⟨h0, rfl⟩ | ⟨p, hp, hmin, rfl⟩, hx1⟩
      · try simp only [go_sem, Int.reduceBEq, Int.reduceBNe, Int.reduceNeg, reduceCtorEq, Nat.reduceEqDiff, Nat.reduceAdd, Nat.reduceLeDiff, Nat.reduceMul, Nat.reduceSub, Int.reduceToNat, Int.reduceLT, Int.reduceLE, load_w, load_a, store_b, idxS_b, set_blk, new_blk, set_next, new_next, len_s, ldW_c, ldA_c, stB_c, toArr_one, size_one, toList_toArr, size_toArr, List.length_cons, List.length_nil, List.getElem?_cons_zero, List.getElem?_cons_succ, Nat.zero_add, Nat.add_zero, aExt0, aExt1]
        refine gC.of (Pop_spec (h.hp.keep hx1) h.heap) ?_
        rintro r m2 (⟨-, rfl, hm⟩ | ⟨hn, -⟩)
        · replace hm := hm.symm
          subst hm
          try simp only [go_sem, Int.reduceBEq, Int.reduceBNe, Int.reduceNeg, reduceCtorEq, Nat.reduceEqDiff, Nat.reduceAdd, Nat.reduceLeDiff, Nat.reduceMul, Nat.reduceSub, Int.reduceToNat, Int.reduceLT, Int.reduceLE, load_w, load_a, store_b, idxS_b, set_blk, new_blk, set_next, new_next, len_s, ldW_c, ldA_c, stB_c, toArr_one, size_one, toList_toArr, size_toArr, List.length_cons, List.length_nil, List.getElem?_cons_zero, List.getElem?_cons_succ, Nat.zero_add, Nat.add_zero, aExt0, aExt1]
          exact ⟨s, fp, w, wv, _, rfl, (h.keep hx1).more (by omega)⟩
        · omega
      · have hx := h.rel.min h.hp.wf h.heap hp hmin
        have hpos : 0 < s.ids.length := by have := List.length_pos_of_mem hp; omega
        try simp only [go_sem, Int.reduceBEq, Int.reduceBNe, Int.reduceNeg, reduceCtorEq, Nat.reduceEqDiff, Nat.reduceAdd, Nat.reduceLeDiff, Nat.reduceMul, Nat.reduceSub, Int.reduceToNat, Int.reduceLT, Int.reduceLE, load_w, load_a, store_b, idxS_b, set_blk, new_blk, set_next, new_next, len_s, ldW_c, ldA_c, stB_c, toArr_one, size_one, toList_toArr, size_toArr, List.length_cons, List.length_nil, List.getElem?_cons_zero, List.getElem?_cons_succ, Nat.zero_add, Nat.add_zero, aExt0, aExt1]
        refine gC.of (refRemove_spec (id := ((p.1 : Nat) : Int)) (h.its.keep hx1)) ?_
        rintro _ m2 ⟨wv', rfl, ho, hx2⟩
        have hx12 := hx1.trans hx2
        have hol := outL_len (w := w) (id := ((p.1 : Nat) : Int))
        have hits : ItsV m2 (outL w ((p.1 : Nat) : Int)) wv' := ItsV.own ho (by omega)
        have hn1 := hx1.next
        have hoff : ∀ y ∈ vb wv', y ∉ fp := fun y hy hm => by have := ho.ge y hy; have := hlt y hm; omega
        try simp only [go_sem, Int.reduceBEq, Int.reduceBNe, Int.reduceNeg, reduceCtorEq, Nat.reduceEqDiff, Nat.reduceAdd, Nat.reduceLeDiff, Nat.reduceMul, Nat.reduceSub, Int.reduceToNat, Int.reduceLT, Int.reduceLE, load_w, load_a, store_b, idxS_b, set_blk, new_blk, set_next, new_next, len_s, ldW_c, ldA_c, stB_c, toArr_one, size_one, toList_toArr, size_toArr, List.length_cons, List.length_nil, List.getElem?_cons_zero, List.getElem?_cons_succ, Nat.zero_add, Nat.add_zero, aExt0, aExt1]
        refine gC.of (Pop_spec (h.hp.keep hx12) h.heap) ?_
        rintro r m3 (⟨hn, -⟩ | ⟨-, rfl, t, hA, hk1, hk2⟩)
        · omega
        rw [← hx] at hk2 ⊢
        obtain ⟨fq, hI⟩ := h.step hx12 hits hoff hA (by rw [hk1, h.sz]) (by rw [outL_nat]; exact h.rel.out hk1 hk2) (by omega)
        have e4 : (((p.1 : Nat) : Int) != ((p.1 : Nat) : Int)) = false := by rw [bne_eq_false_iff_eq]
        try simp only [go_sem, Int.reduceBEq, Int.reduceBNe, Int.reduceNeg, reduceCtorEq, Nat.reduceEqDiff, Nat.reduceAdd, Nat.reduceLeDiff, Nat.reduceMul, Nat.reduceSub, Int.reduceToNat, Int.reduceLT, Int.reduceLE, load_w, load_a, store_b, idxS_b, set_blk, new_blk, set_next, new_next, len_s, ldW_c, ldA_c, stB_c, toArr_one, size_one, toList_toArr, size_toArr, List.length_cons, List.length_nil, List.getElem?_cons_zero, List.getElem?_cons_succ, Nat.zero_add, Nat.add_zero, aExt0, aExt1, e4]
        exact ⟨t, fq, _, wv', _, rfl, hI⟩
    · have e3 : (k == 3) = false := by rw [beq_eq_false_iff_ne]; exact g3
      try simp only [go_sem, Int.reduceBEq, Int.reduceBNe, Int.reduceNeg, reduceCtorEq, Nat.reduceEqDiff, Nat.reduceAdd, Nat.reduceLeDiff, Nat.reduceMul, Nat.reduceSub, Int.reduceToNat, Int.reduceLT, Int.reduceLE, load_w, load_a, store_b, idxS_b, set_blk, new_blk, set_next, new_next, len_s, ldW_c, ldA_c, stB_c, toArr_one, size_one, toList_toArr, size_toArr, List.length_cons, List.length_nil, List.getElem?_cons_zero, List.getElem?_cons_succ, Nat.zero_add, Nat.add_zero, e1, e3]
      exact ⟨s, fp, w, wv, _, rfl, h.more (by omega)⟩

set_option maxHeartbeats 4000000 in
theorem Heap_sw {m0 : Mem} {n b d : Nat} {s : HpS} {fp : List Nat} {w : List It} {wv lv : Value} {i : Nat} {ask k id : Int} {num den : BitVec 64} (h : HI m0 m n b s fp w wv i) (hi : i < 1000) (hd : Bk m d [.int .i64 k, .int .i64 id, u64 num, u64 den] 4) :
    gp R hSw [(0, .int .i64 ((n : Nat) : Int)), (1, lv), (2, .int .i64 ask), (7, pt b), (9, wv), (10, .int .i64 ((i : Nat) : Int)), (11, pt d)] m fun x e' m' => x = .normal ∧ ∃ s' fp' w' wv', e' = [(0, .int .i64 ((n : Nat) : Int)), (1, lv), (2, .int .i64 ask), (7, pt b), (9, wv'), (10, .int .i64 ((i : Nat) : Int))] ∧ HI m0 m' n b s' fp' w' wv' (i + 1) := by
  rw [hsw_eq]
  simp only [hS0, hSw, hBlk, sqA, sqB, bkC, RB.law06_HeapPlays_1, pt]
  try simp only [go_sem, Int.reduceBEq, Int.reduceBNe, Int.reduceNeg, reduceCtorEq, Nat.reduceEqDiff, Nat.reduceAdd, Nat.reduceLeDiff, Nat.reduceMul, Nat.reduceSub, Int.reduceToNat, Int.reduceLT, Int.reduceLE, load_w, load_a, store_b, idxS_b, set_blk, new_blk, set_next, new_next, len_s, ldW_c, ldA_c, stB_c, toArr_one, size_one, toList_toArr, size_toArr, List.length_cons, List.length_nil, List.getElem?_cons_zero, List.getElem?_cons_succ, Nat.zero_add, Nat.add_zero, hd.at_]
  refine gp_mono (Q' := fun x e' m' => x = .normal ∧ m' = m ∧ e' = [(0, .int .i64 ((n : Nat) : Int)), (1, lv), (2, .int .i64 ask), (7, pt b), (9, wv), (10, .int .i64 ((i : Nat) : Int)), (11, pt d), (71, .int .i64 k), (72, .bool (decide (k = 0 ∨ k = 1)))]) ?_ ?_
  · simp only [hFront, hSw, hBlk, sqA, sqB, bkC, RB.law06_HeapPlays_1, pt]
    try simp only [go_sem, Int.reduceBEq, Int.reduceBNe, Int.reduceNeg, reduceCtorEq, Nat.reduceEqDiff, Nat.reduceAdd, Nat.reduceLeDiff, Nat.reduceMul, Nat.reduceSub, Int.reduceToNat, Int.reduceLT, Int.reduceLE, load_w, load_a, store_b, idxS_b, set_blk, new_blk, set_next, new_next, len_s, ldW_c, ldA_c, stB_c, toArr_one, size_one, toList_toArr, size_toArr, List.length_cons, List.length_nil, List.getElem?_cons_zero, List.getElem?_cons_succ, Nat.zero_add, Nat.add_zero]
    refine gT.of (fun h0' => ?_) (fun h0' => ?_) <;> (have h0 := h0'; try simp only [decide_eq_true_eq, decide_eq_false_iff_not, beq_iff_eq, bne_iff_ne, beq_eq_false_iff_ne, ne_eq, Bool.not_eq_true', Bool.not_eq_false', bne_eq_false_iff_eq, Int.not_lt, Int.not_le] at h0)
    · have : (k = 0 ∨ k = 1) := .inl h0
      try simp only [go_sem, Int.reduceBEq, Int.reduceBNe, Int.reduceNeg, reduceCtorEq, Nat.reduceEqDiff, Nat.reduceAdd, Nat.reduceLeDiff, Nat.reduceMul, Nat.reduceSub, Int.reduceToNat, Int.reduceLT, Int.reduceLE, load_w, load_a, store_b, idxS_b, set_blk, new_blk, set_next, new_next, len_s, ldW_c, ldA_c, stB_c, toArr_one, size_one, toList_toArr, size_toArr, List.length_cons, List.length_nil, List.getElem?_cons_zero, List.getElem?_cons_succ, Nat.zero_add, Nat.add_zero, h0', decide_eq_true this]
    · have e : (k == 1) = decide (k = 0 ∨ k = 1) := by rw [Bool.eq_iff_iff]; simp [h0]
      try simp only [go_sem, Int.reduceBEq, Int.reduceBNe, Int.reduceNeg, reduceCtorEq, Nat.reduceEqDiff, Nat.reduceAdd, Nat.reduceLeDiff, Nat.reduceMul, Nat.reduceSub, Int.reduceToNat, Int.reduceLT, Int.reduceLE, load_w, load_a, store_b, idxS_b, set_blk, new_blk, set_next, new_next, len_s, ldW_c, ldA_c, stB_c, toArr_one, size_one, toList_toArr, size_toArr, List.length_cons, List.length_nil, List.getElem?_cons_zero, List.getElem?_cons_succ, Nat.zero_add, Nat.add_zero, h0', e]
  rintro _ _ m1 ⟨rfl, hm, rfl⟩
  replace hm := hm.symm
  subst hm
  by_cases hk : k = 0 ∨ k = 1
  · simp only [go_sem, Int.reduceBEq, Int.reduceBNe, Int.reduceNeg, reduceCtorEq, Nat.reduceEqDiff, Nat.reduceAdd, Nat.reduceLeDiff, Nat.reduceMul, Nat.reduceSub, Int.reduceToNat, Int.reduceLT, Int.reduceLE, decide_eq_true hk, pt]
    refine gp_mono (Heap_put h hi hd) ?_
    rintro _ _ m2 ⟨rfl, s', fp', w', wv', rfl, hI⟩
    try simp only [go_sem, Int.reduceBEq, Int.reduceBNe, Int.reduceNeg, reduceCtorEq, Nat.reduceEqDiff, Nat.reduceAdd, Nat.reduceLeDiff, Nat.reduceMul, Nat.reduceSub, Int.reduceToNat, Int.reduceLT, Int.reduceLE, load_w, load_a, store_b, idxS_b, set_blk, new_blk, set_next, new_next, len_s, ldW_c, ldA_c, stB_c, toArr_one, size_one, toList_toArr, size_toArr, List.length_cons, List.length_nil, List.getElem?_cons_zero, List.getElem?_cons_succ, Nat.zero_add, Nat.add_zero]
    exact ⟨s', fp', w', wv', rfl, hI⟩
  · simp only [go_sem, Int.reduceBEq, Int.reduceBNe, Int.reduceNeg, reduceCtorEq, Nat.reduceEqDiff, Nat.reduceAdd, Nat.reduceLeDiff, Nat.reduceMul, Nat.reduceSub, Int.reduceToNat, Int.reduceLT, Int.reduceLE, decide_eq_false hk, pt]
    refine gp_mono (Heap_oth h hi hd) ?_
    rintro _ _ m2 ⟨rfl, s', fp', w', wv', rs, rfl, hI⟩
    try simp only [go_sem, Int.reduceBEq, Int.reduceBNe, Int.reduceNeg, reduceCtorEq, Nat.reduceEqDiff, Nat.reduceAdd, Nat.reduceLeDiff, Nat.reduceMul, Nat.reduceSub, Int.reduceToNat, Int.reduceLT, Int.reduceLE, load_w, load_a, store_b, idxS_b, set_blk, new_blk, set_next, new_next, len_s, ldW_c, ldA_c, stB_c, toArr_one, size_one, toList_toArr, size_toArr, List.length_cons, List.length_nil, List.getElem?_cons_zero, List.getElem?_cons_succ, Nat.zero_add, Nat.add_zero]
    exact ⟨s', fp', w', wv', rfl, hI⟩
end Go.Am


/- The law HeapPlays. -/
set_option linter.unusedVariables false
set_option linter.unusedSimpArgs false
namespace Go.Am
open Classical
variable {m : Mem}

structure HAct where
  kind : Int
  id : Int
  num : BitVec 64
  den : BitVec 64
def haV (a : HAct) : List Value := [.int .i64 a.kind, .int .i64 a.id, u64 a.num, u64 a.den]
theorem haV_len (a : HAct) : (haV a).length = 4 := rfl

set_option maxHeartbeats 4000000 in
theorem HeapPlays_loop {m0 : Mem} {l : List HAct} {lv : Value} {n b : Nat} {ask : Int} (hs : Sl m0 4 l.length (l.flatMap haV) lv) (hb : SlLt m0 lv) {fp0 : List Nat} (h0 : HI m0 m n b (empS n) fp0 [] (.slice none 0 0) 0) :
    WL R [0, 1, 2, 7, 9, 10] RB.law06_HeapPlays_1 (hEnv n lv ask b (.slice none 0 0) 0) m fun y e m' => y = .exit 0 := by
  refine WL.of (fun k e m' => ∃ (i : Nat) (s : HpS) (fp : List Nat) (w : List It) (wv : Value), i ≤ l.length ∧ i ≤ 60 ∧ k = l.length - i ∧ e = hEnv n lv ask b wv i ∧ HI m0 m' n b s fp w wv i) l.length
    ⟨0, empS n, fp0, [], _, by omega, by omega, by omega, by simp only [hEnv, go_sem, Int.reduceBEq, Int.reduceBNe, Int.reduceNeg, reduceCtorEq, Nat.reduceEqDiff, Nat.reduceAdd, Nat.reduceLeDiff, Nat.reduceMul, Nat.reduceSub, Int.reduceToNat, Int.reduceLT, Int.reduceLE], h0⟩ ?_
  rintro _ _ m1 ⟨i, s, fp, w, wv, hi, hi60, rfl, rfl, h⟩
  rw [hplays_eq]
  have hs1 := hs.keep hb h.ext
  simp only [hCond, sqA, sqB, RB.law06_HeapPlays_1, hEnv, pt, go_sem, Int.reduceBEq, Int.reduceBNe, Int.reduceNeg, reduceCtorEq, Nat.reduceEqDiff, Nat.reduceAdd, Nat.reduceLeDiff, Nat.reduceMul, Nat.reduceSub, Int.reduceToNat, Int.reduceLT, Int.reduceLE, load_w, load_a, store_b, idxS_b, set_blk, new_blk, set_next, new_next, len_s, ldW_c, ldA_c, stB_c, toArr_one, size_one, toList_toArr, size_toArr, List.length_cons, List.length_nil, List.getElem?_cons_zero, List.getElem?_cons_succ, Nat.zero_add, Nat.add_zero, hs1.len]
  have s1 := st1 (show i < 1000000 by omega)
  by_cases g1 : i < l.length
  · have e1 : decide (((i : Nat) : Int) < ((l.length : Nat) : Int)) = true := decide_eq_true (by omega)
    by_cases g2 : i < 60
    · have e2 : decide (((i : Nat) : Int) < 60) = true := decide_eq_true (by omega)
      obtain ⟨bb, oo, a1, a2, -, -⟩ := hs1.elem haV_len (k := .i64) g1
      simp only [haV] at a2
      simp only [go_sem, Int.reduceBEq, Int.reduceBNe, Int.reduceNeg, reduceCtorEq, Nat.reduceEqDiff, Nat.reduceAdd, Nat.reduceLeDiff, Nat.reduceMul, Nat.reduceSub, Int.reduceToNat, Int.reduceLT, Int.reduceLE, e1, e2]
      simp only [hBox, hBlk, sqA, sqB, bkC, RB.law06_HeapPlays_1]
      try simp only [go_sem, Int.reduceBEq, Int.reduceBNe, Int.reduceNeg, reduceCtorEq, Nat.reduceEqDiff, Nat.reduceAdd, Nat.reduceLeDiff, Nat.reduceMul, Nat.reduceSub, Int.reduceToNat, Int.reduceLT, Int.reduceLE, load_w, load_a, store_b, idxS_b, set_blk, new_blk, set_next, new_next, len_s, ldW_c, ldA_c, stB_c, toArr_one, size_one, toList_toArr, size_toArr, List.length_cons, List.length_nil, List.getElem?_cons_zero, List.getElem?_cons_succ, Nat.zero_add, Nat.add_zero, a1, a2]
      have hx2 : Ext m1 (m1.new (.cells [.int .i64 l[i].kind, .int .i64 l[i].id, u64 l[i].num, u64 l[i].den] (some 4))) := Ext.new
      have hb2 : Bk (m1.new (.cells [.int .i64 l[i].kind, .int .i64 l[i].id, u64 l[i].num, u64 l[i].den] (some 4))) m1.next [.int .i64 l[i].kind, .int .i64 l[i].id, u64 l[i].num, u64 l[i].den] 4 := Bk.new
      generalize m1.new (.cells [.int .i64 l[i].kind, .int .i64 l[i].id, u64 l[i].num, u64 l[i].den] (some 4)) = m2 at hx2 hb2 ⊢
      refine gp_mono (Heap_sw (ask := ask) (lv := lv) (h.keep hx2) (by omega) hb2) ?_
      rintro _ _ m3 ⟨rfl, s', fp', w', wv', rfl, hI⟩
      simp only [go_sem, Int.reduceBEq, Int.reduceBNe, Int.reduceNeg, reduceCtorEq, Nat.reduceEqDiff, Nat.reduceAdd, Nat.reduceLeDiff, Nat.reduceMul, Nat.reduceSub, Int.reduceToNat, Int.reduceLT, Int.reduceLE]
      refine gp_mono (Heap_rest (i := i) (ask := ask) (lv := lv) hI) ?_
      rintro _ _ m4 ⟨rfl, rfl, hI4⟩
      simp only [hEnv, hInc, sqB, RB.law06_HeapPlays_1, List.cons_append, List.nil_append, pt]
      try simp only [go_sem, Int.reduceBEq, Int.reduceBNe, Int.reduceNeg, reduceCtorEq, Nat.reduceEqDiff, Nat.reduceAdd, Nat.reduceLeDiff, Nat.reduceMul, Nat.reduceSub, Int.reduceToNat, Int.reduceLT, Int.reduceLE, load_w, load_a, store_b, idxS_b, set_blk, new_blk, set_next, new_next, len_s, ldW_c, ldA_c, stB_c, toArr_one, size_one, toList_toArr, size_toArr, List.length_cons, List.length_nil, List.getElem?_cons_zero, List.getElem?_cons_succ, Nat.zero_add, Nat.add_zero, s1]
      exact ⟨l.length - (i + 1), by omega, i + 1, s', fp', w', wv', by omega, by omega, rfl, rfl, hI4⟩
    · have e2 : decide (((i : Nat) : Int) < 60) = false := decide_eq_false (by omega)
      try simp only [go_sem, Int.reduceBEq, Int.reduceBNe, Int.reduceNeg, reduceCtorEq, Nat.reduceEqDiff, Nat.reduceAdd, Nat.reduceLeDiff, Nat.reduceMul, Nat.reduceSub, Int.reduceToNat, Int.reduceLT, Int.reduceLE, load_w, load_a, store_b, idxS_b, set_blk, new_blk, set_next, new_next, len_s, ldW_c, ldA_c, stB_c, toArr_one, size_one, toList_toArr, size_toArr, List.length_cons, List.length_nil, List.getElem?_cons_zero, List.getElem?_cons_succ, Nat.zero_add, Nat.add_zero, e1, e2]
  · have e1 : decide (((i : Nat) : Int) < ((l.length : Nat) : Int)) = false := decide_eq_false (by omega)
    try simp only [go_sem, Int.reduceBEq, Int.reduceBNe, Int.reduceNeg, reduceCtorEq, Nat.reduceEqDiff, Nat.reduceAdd, Nat.reduceLeDiff, Nat.reduceMul, Nat.reduceSub, Int.reduceToNat, Int.reduceLT, Int.reduceLE, load_w, load_a, store_b, idxS_b, set_blk, new_blk, set_next, new_next, len_s, ldW_c, ldA_c, stB_c, toArr_one, size_one, toList_toArr, size_toArr, List.length_cons, List.length_nil, List.getElem?_cons_zero, List.getElem?_cons_succ, Nat.zero_add, Nat.add_zero, e1]

theorem HeapPlays_spec {l : List HAct} {lv : Value} {n ask : Int} (hs : Sl m 4 l.length (l.flatMap haV) lv) (hb : SlLt m lv) : WC R F.law06_HeapPlays [.int .i64 n, lv, .int .i64 ask] m fun r m' => r = .bool true := by
  refine WC.of R.law06_HeapPlays rfl ?_
  simp only [RC.law06_HeapPlays, go_sem, Int.reduceBEq, Int.reduceBNe, Int.reduceNeg, reduceCtorEq, Nat.reduceEqDiff, Nat.reduceAdd, Nat.reduceLeDiff, Nat.reduceMul, Nat.reduceSub, Int.reduceToNat, Int.reduceLT, Int.reduceLE]
  refine gC.of (New_spec (n := n)) ?_
  rintro _ m1 (⟨hn, rfl, hx1⟩ | ⟨n1, n2, b, fp, rfl, hV, hge, hx1⟩)
  · by_cases g1 : n < 1
    · try simp only [go_sem, Int.reduceBEq, Int.reduceBNe, Int.reduceNeg, reduceCtorEq, Nat.reduceEqDiff, Nat.reduceAdd, Nat.reduceLeDiff, Nat.reduceMul, Nat.reduceSub, Int.reduceToNat, Int.reduceLT, Int.reduceLE, load_w, load_a, store_b, idxS_b, set_blk, new_blk, set_next, new_next, len_s, ldW_c, ldA_c, stB_c, toArr_one, size_one, toList_toArr, size_toArr, List.length_cons, List.length_nil, List.getElem?_cons_zero, List.getElem?_cons_succ, Nat.zero_add, Nat.add_zero, decide_eq_true g1, aExt0, aExt1, Option.isNone_none]
      refine gC.of (ok_spec R.law06_awake) ?_
      rintro _ m_ ⟨rfl, hm_⟩
      replace hm_ := hm_.symm
      subst hm_
      simp only [go_sem, Int.reduceBEq, Int.reduceBNe, Int.reduceNeg, reduceCtorEq, Nat.reduceEqDiff, Nat.reduceAdd, Nat.reduceLeDiff, Nat.reduceMul, Nat.reduceSub, Int.reduceToNat, Int.reduceLT, Int.reduceLE]
      try simp only [go_sem, Int.reduceBEq, Int.reduceBNe, Int.reduceNeg, reduceCtorEq, Nat.reduceEqDiff, Nat.reduceAdd, Nat.reduceLeDiff, Nat.reduceMul, Nat.reduceSub, Int.reduceToNat, Int.reduceLT, Int.reduceLE, load_w, load_a, store_b, idxS_b, set_blk, new_blk, set_next, new_next, len_s, ldW_c, ldA_c, stB_c, toArr_one, size_one, toList_toArr, size_toArr, List.length_cons, List.length_nil, List.getElem?_cons_zero, List.getElem?_cons_succ, Nat.zero_add, Nat.add_zero]
    · have g2 : 1024 < n := by omega
      try simp only [go_sem, Int.reduceBEq, Int.reduceBNe, Int.reduceNeg, reduceCtorEq, Nat.reduceEqDiff, Nat.reduceAdd, Nat.reduceLeDiff, Nat.reduceMul, Nat.reduceSub, Int.reduceToNat, Int.reduceLT, Int.reduceLE, load_w, load_a, store_b, idxS_b, set_blk, new_blk, set_next, new_next, len_s, ldW_c, ldA_c, stB_c, toArr_one, size_one, toList_toArr, size_toArr, List.length_cons, List.length_nil, List.getElem?_cons_zero, List.getElem?_cons_succ, Nat.zero_add, Nat.add_zero, decide_eq_false g1, decide_eq_true g2, aExt0, aExt1, Option.isNone_none]
      refine gC.of (ok_spec R.law06_awake) ?_
      rintro _ m_ ⟨rfl, hm_⟩
      replace hm_ := hm_.symm
      subst hm_
      simp only [go_sem, Int.reduceBEq, Int.reduceBNe, Int.reduceNeg, reduceCtorEq, Nat.reduceEqDiff, Nat.reduceAdd, Nat.reduceLeDiff, Nat.reduceMul, Nat.reduceSub, Int.reduceToNat, Int.reduceLT, Int.reduceLE]
      try simp only [go_sem, Int.reduceBEq, Int.reduceBNe, Int.reduceNeg, reduceCtorEq, Nat.reduceEqDiff, Nat.reduceAdd, Nat.reduceLeDiff, Nat.reduceMul, Nat.reduceSub, Int.reduceToNat, Int.reduceLT, Int.reduceLE, load_w, load_a, store_b, idxS_b, set_blk, new_blk, set_next, new_next, len_s, ldW_c, ldA_c, stB_c, toArr_one, size_one, toList_toArr, size_toArr, List.length_cons, List.length_nil, List.getElem?_cons_zero, List.getElem?_cons_succ, Nat.zero_add, Nat.add_zero]
  · obtain ⟨k, rfl⟩ : ∃ k : Nat, n = (k : Int) := ⟨n.toNat, by omega⟩
    rw [Int.toNat_natCast] at hV
    have e1 : decide (((k : Nat) : Int) < 1) = false := decide_eq_false (by omega)
    have e2 : decide ((1024 : Int) < ((k : Nat) : Int)) = false := decide_eq_false (by omega)
    simp only [pt]
    try simp only [go_sem, Int.reduceBEq, Int.reduceBNe, Int.reduceNeg, reduceCtorEq, Nat.reduceEqDiff, Nat.reduceAdd, Nat.reduceLeDiff, Nat.reduceMul, Nat.reduceSub, Int.reduceToNat, Int.reduceLT, Int.reduceLE, load_w, load_a, store_b, idxS_b, set_blk, new_blk, set_next, new_next, len_s, ldW_c, ldA_c, stB_c, toArr_one, size_one, toList_toArr, size_toArr, List.length_cons, List.length_nil, List.getElem?_cons_zero, List.getElem?_cons_succ, Nat.zero_add, Nat.add_zero, e1, e2, aExt0, aExt1]
    have h0 : HI m m1 k b (empS k) fp [] (.slice none 0 0) 0 := ⟨hV, empS_heap, by simp [empS], ⟨by simp, fun x => by simp [empS], fun p hp => by simp at hp⟩, ⟨.nil rfl rfl, trivial, by simp⟩, fun x hx => by simp [vb] at hx, hge, hx1, by simp⟩
    refine WL.mono (HeapPlays_loop hs hb (ask := ask) h0) ?_
    rintro _ _ m2 rfl
    try simp only [go_sem, Int.reduceBEq, Int.reduceBNe, Int.reduceNeg, reduceCtorEq, Nat.reduceEqDiff, Nat.reduceAdd, Nat.reduceLeDiff, Nat.reduceMul, Nat.reduceSub, Int.reduceToNat, Int.reduceLT, Int.reduceLE, load_w, load_a, store_b, idxS_b, set_blk, new_blk, set_next, new_next, len_s, ldW_c, ldA_c, stB_c, toArr_one, size_one, toList_toArr, size_toArr, List.length_cons, List.length_nil, List.getElem?_cons_zero, List.getElem?_cons_succ, Nat.zero_add, Nat.add_zero]
    refine gC.of (ok_spec R.law06_awake) ?_
    rintro _ m_ ⟨rfl, hm_⟩
    replace hm_ := hm_.symm
    subst hm_
    simp only [go_sem, Int.reduceBEq, Int.reduceBNe, Int.reduceNeg, reduceCtorEq, Nat.reduceEqDiff, Nat.reduceAdd, Nat.reduceLeDiff, Nat.reduceMul, Nat.reduceSub, Int.reduceToNat, Int.reduceLT, Int.reduceLE]
    try simp only [go_sem, Int.reduceBEq, Int.reduceBNe, Int.reduceNeg, reduceCtorEq, Nat.reduceEqDiff, Nat.reduceAdd, Nat.reduceLeDiff, Nat.reduceMul, Nat.reduceSub, Int.reduceToNat, Int.reduceLT, Int.reduceLE, load_w, load_a, store_b, idxS_b, set_blk, new_blk, set_next, new_next, len_s, ldW_c, ldA_c, stB_c, toArr_one, size_one, toList_toArr, size_toArr, List.length_cons, List.length_nil, List.getElem?_cons_zero, List.getElem?_cons_succ, Nat.zero_add, Nat.add_zero]
end Go.Am
