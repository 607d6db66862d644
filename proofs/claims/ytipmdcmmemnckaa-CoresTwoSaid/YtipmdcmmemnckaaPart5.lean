/- Parts of the proofs of the statements of this seat: CoresW3, CoresR, CoresR2, CoresStep, CoresNever, CoresPlay, WCoresPlay, WCoresNever, CoresTwo, WCoresTwo. No conditions. -/
import Derived.Test.YtipmdcmmemnckaaPart4
set_option linter.unusedVariables false
set_option linter.unusedSimpArgs false

/- Cores: walks of what makes. -/
set_option linter.unusedVariables false
set_option linter.unusedSimpArgs false
namespace Go.Am
variable {m : Mem}

theorem ints_one {l : List Int} : oneCells (intsZ l) = true := by
  unfold oneCells intsZ; rw [List.all_eq_true]; intro x hx
  obtain ⟨t, -, rfl⟩ := List.mem_map.1 hx; rfl

theorem Clone_spec {L : List Int} {b o c : Nat} (hs : Sl m 1 L.length (intsZ L) (.slice (some ⟨b, o, none⟩) L.length c)) (hl : L.length < 1000000) (hb : b < m.next) (hne : L ≠ []) : WC R F.slices_Clone_int_int [.slice (some ⟨b, o, none⟩) L.length c] m fun r m' =>
    ∃ cl, r = .slice (some ⟨cl, 0, none⟩) L.length L.length ∧ m.next ≤ cl ∧ cl < m'.next ∧ m'.blk cl = some (.cells (intsZ L) (some 1)) ∧ Ext m m' := by
  refine WC.of R.slices_Clone_int_int rfl ?_
  have hs2 : Sl (m.new (.cells [] (some 1))) 1 L.length (intsZ L) (.slice (some ⟨b, o, none⟩) L.length c) := hs.keep hb Ext.new
  obtain ⟨m', p1, p2, p3, p4⟩ := app_copy_at (by_ := 8) hs2 ints_one (by omega) (by omega) (by simpa using hne)
  simp only [RC.slices_Clone_int_int, go_sem, Int.reduceBEq, Int.reduceBNe, Int.reduceNeg, not_true_eq_false, beq_self_eq_true, bne_self_eq_false, Bool.false_eq_true, if_false, if_true, Int.cast_ofNat_Int, decide_true, decide_false, reduceCtorEq, Nat.reduceEqDiff, Nat.reduceAdd, ne_eq, not_false_eq_true, Option.map_some, Option.bind_some, Option.map_none, Option.bind_none, true_and, and_true, Bool.not_true, Bool.not_false, Nat.reduceLeDiff, Nat.reduceMul, Nat.reduceSub, Nat.le_refl, Int.reduceToNat, Int.reduceLT, Int.reduceLE, Nat.one_mul, Nat.mul_one, p1]
  exact ⟨_, rfl, by omega, by omega, p2, p4⟩

theorem CS.sl {b bl : Nat} {L : List Int} (h : CS m b bl L) : Sl m 1 L.length (intsZ L) (.slice (some ⟨bl, 0, none⟩) L.length L.length) := by
  refine .at (Nat.le_refl _) ?_
  unfold aCells
  rw [h.2.1]
  simp [intsZ_len]
  rw [← intsZ_len (l := L), List.take_length]

theorem CS.mk {m m1 : Mem} {cl : Nat} {L : List Int} (h1 : cl < m1.next) (h2 : m1.blk cl = some (.cells (intsZ L) (some 1))) : CS (m1.new (.cells [.slice (some ⟨cl, 0, none⟩) L.length L.length] (some 1))) m1.next cl L := by
  refine ⟨by rw [new_blk, if_pos rfl], by rw [new_blk, if_neg (by omega)]; exact h2, by omega, by rw [new_next]; omega, by rw [new_next]; omega⟩

theorem Fork_spec {b bl : Nat} {L : List Int} (h : CS m b bl L) (h16 : L.length ≤ 16) (hne : L ≠ []) : WC R F.cores_Set_Fork [pt b] m fun r m' => ∃ c cl, r = pt c ∧ CS m' c cl L ∧ m.next ≤ c ∧ m.next ≤ cl ∧ Ext m m' := by
  refine WC.of R.cores_Set_Fork rfl ?_
  have hpos : 0 < L.length := List.length_pos_iff.2 hne
  have hz : ((L.length : Int) == 0) = false := by rw [beq_eq_false_iff_ne]; omega
  simp only [RC.cores_Set_Fork, go_sem, Int.reduceBEq, Int.reduceBNe, Int.reduceNeg, not_true_eq_false, beq_self_eq_true, bne_self_eq_false, Bool.false_eq_true, if_false, if_true, Int.cast_ofNat_Int, decide_true, decide_false, reduceCtorEq, Nat.reduceEqDiff, Nat.reduceAdd, ne_eq, not_false_eq_true, Option.map_some, Option.bind_some, Option.map_none, Option.bind_none, true_and, and_true, Bool.not_true, Bool.not_false, Nat.reduceLeDiff, Nat.reduceMul, Nat.reduceSub, Nat.le_refl, Int.reduceToNat, Int.reduceLT, Int.reduceLE, Nat.one_mul, Nat.mul_one]
  refine gC.of (Len_spec h) ?_
  rintro _ m_ ⟨rfl, hm_⟩
  replace hm_ := hm_.symm
  subst hm_
  simp only [go_sem, Int.reduceBEq, Int.reduceBNe, Int.reduceNeg, not_true_eq_false, beq_self_eq_true, bne_self_eq_false, Bool.false_eq_true, if_false, if_true, Int.cast_ofNat_Int, decide_true, decide_false, reduceCtorEq, Nat.reduceEqDiff, Nat.reduceAdd, ne_eq, not_false_eq_true, Option.map_some, Option.bind_some, Option.map_none, Option.bind_none, true_and, and_true, Bool.not_true, Bool.not_false, Nat.reduceLeDiff, Nat.reduceMul, Nat.reduceSub, Nat.le_refl, Int.reduceToNat, Int.reduceLT, Int.reduceLE, Nat.one_mul, Nat.mul_one]
  simp only [pt, go_sem, Int.reduceBEq, Int.reduceBNe, Int.reduceNeg, not_true_eq_false, beq_self_eq_true, bne_self_eq_false, Bool.false_eq_true, if_false, if_true, Int.cast_ofNat_Int, decide_true, decide_false, reduceCtorEq, Nat.reduceEqDiff, Nat.reduceAdd, ne_eq, not_false_eq_true, Option.map_some, Option.bind_some, Option.map_none, Option.bind_none, true_and, and_true, Bool.not_true, Bool.not_false, Nat.reduceLeDiff, Nat.reduceMul, Nat.reduceSub, Nat.le_refl, Int.reduceToNat, Int.reduceLT, Int.reduceLE, Nat.one_mul, Nat.mul_one, hz, load_w, load_a, store_b, idxS_b, set_blk, new_blk, set_next, new_next, len_s, ldW_c, ldA_c, stB_c, toArr_one, size_one, toList_toArr, size_toArr, List.length_cons, List.length_nil, List.getElem?_cons_zero, List.getElem?_cons_succ, Nat.zero_add, Nat.add_zero, h.1]
  refine gC.of (Clone_spec h.sl (by omega) h.2.2.2.2 hne) ?_
  rintro r m1 ⟨cl, rfl, a1, a2, a3, a4⟩
  simp only [go_sem, Int.reduceBEq, Int.reduceBNe, Int.reduceNeg, not_true_eq_false, beq_self_eq_true, bne_self_eq_false, Bool.false_eq_true, if_false, if_true, Int.cast_ofNat_Int, decide_true, decide_false, reduceCtorEq, Nat.reduceEqDiff, Nat.reduceAdd, ne_eq, not_false_eq_true, Option.map_some, Option.bind_some, Option.map_none, Option.bind_none, true_and, and_true, Bool.not_true, Bool.not_false, Nat.reduceLeDiff, Nat.reduceMul, Nat.reduceSub, Nat.le_refl, Int.reduceToNat, Int.reduceLT, Int.reduceLE, Nat.one_mul, Nat.mul_one]
  exact ⟨m1.next, cl, rfl, CS.mk (m := m) a2 a3, a4.next, a1, a4.trans Ext.new⟩

/-- Some ones. -/
theorem Repeat_spec {v : Value} {n : Nat} (hs : Sl m 1 1 [.int .i64 1] v) (hb : SlLt m v) (h1 : 1 ≤ n) (h16 : n ≤ 16) : WC R F.slices_Repeat_int_int [v, .int .i64 n] m fun r m' =>
    ∃ cl, r = .slice (some ⟨cl, 0, none⟩) n n ∧ m.next ≤ cl ∧ cl < m'.next ∧ m'.blk cl = some (.cells (intsZ (List.replicate n 1)) (some 1)) ∧ Ext m m' := by
  refine WC.of R.slices_Repeat_int_int rfl ?_
  have q1 : ¬ (n : Int) < 0 := by omega
  simp only [RC.slices_Repeat_int_int, go_sem, Int.reduceBEq, Int.reduceBNe, Int.reduceNeg, not_true_eq_false, beq_self_eq_true, bne_self_eq_false, Bool.false_eq_true, if_false, if_true, Int.cast_ofNat_Int, decide_true, decide_false, reduceCtorEq, Nat.reduceEqDiff, Nat.reduceAdd, ne_eq, not_false_eq_true, Option.map_some, Option.bind_some, Option.map_none, Option.bind_none, true_and, and_true, Bool.not_true, Bool.not_false, Nat.reduceLeDiff, Nat.reduceMul, Nat.reduceSub, Nat.le_refl, Int.reduceToNat, Int.reduceLT, Int.reduceLE, Nat.one_mul, Nat.mul_one, q1, hs.len]
  refine gC.of Mul_spec ?_
  rintro _ m_ ⟨rfl, hm_⟩
  replace hm_ := hm_.symm
  subst hm_
  simp only [go_sem, Int.reduceBEq, Int.reduceBNe, Int.reduceNeg, not_true_eq_false, beq_self_eq_true, bne_self_eq_false, Bool.false_eq_true, if_false, if_true, Int.cast_ofNat_Int, decide_true, decide_false, reduceCtorEq, Nat.reduceEqDiff, Nat.reduceAdd, ne_eq, not_false_eq_true, Option.map_some, Option.bind_some, Option.map_none, Option.bind_none, true_and, and_true, Bool.not_true, Bool.not_false, Nat.reduceLeDiff, Nat.reduceMul, Nat.reduceSub, Nat.le_refl, Int.reduceToNat, Int.reduceLT, Int.reduceLE, Nat.one_mul, Nat.mul_one]
  have e1 : hiW (BitVec.ofInt 64 1) (BitVec.ofInt 64 (n : Int)) = 0#64 := by
    apply BitVec.eq_of_toNat_eq
    rw [hiW_spec]
    simp <;> omega
  have e2 : BitVec.ofInt 64 1 * BitVec.ofInt 64 (n : Int) = BitVec.ofNat 64 n := by
    apply BitVec.eq_of_toNat_eq
    simp
  have e3 : (BitVec.ofNat 64 n).toNat = n := by rw [BitVec.toNat_ofNat]; omega
  have q2 : ¬ 9223372036854775807 < n := by omega
  have q3 : IntKind.wrap .i64 (n : Int) = n := wrap_i64 (by omega) (by omega)
  simp only [e1, e2, go_sem, Int.reduceBEq, Int.reduceBNe, Int.reduceNeg, not_true_eq_false, beq_self_eq_true, bne_self_eq_false, Bool.false_eq_true, if_false, if_true, Int.cast_ofNat_Int, decide_true, decide_false, reduceCtorEq, Nat.reduceEqDiff, Nat.reduceAdd, ne_eq, not_false_eq_true, Option.map_some, Option.bind_some, Option.map_none, Option.bind_none, true_and, and_true, Bool.not_true, Bool.not_false, Nat.reduceLeDiff, Nat.reduceMul, Nat.reduceSub, Nat.le_refl, Int.reduceToNat, Int.reduceLT, Int.reduceLE, Nat.one_mul, Nat.mul_one, e3, BitVec.toNat_ofNat, Nat.reducePow, Nat.reduceMod, Nat.lt_irrefl, q2, q3]
  rw [make_eq (u := 1) (z := [.int .i64 0]) (by omega) (by omega) rfl rfl, zeros_int]
  have hx0 : Ext m (m.new (.cells (intsZ (List.replicate n 0)) (some 1))) := Ext.new
  have hm0 : (m.new (.cells (intsZ (List.replicate n 0)) (some 1))).blk m.next = some (.cells (intsZ (List.replicate n 0)) (some 1)) := by simp [Mem.new]
  have hn0 : m.next < (m.new (.cells (intsZ (List.replicate n 0)) (some 1))).next := by simp [Mem.new]
  have hv := hs.keep hb hx0
  generalize m.new (.cells (intsZ (List.replicate n 0)) (some 1)) = m1 at *
  have hw : ∀ k j, k + j ≤ n → 0 < k → writeL (intsZ (List.replicate k 1 ++ List.replicate (n - k) 0)) k (intsZ (List.replicate j 1)) = intsZ (List.replicate (k + j) 1 ++ List.replicate (n - (k + j)) 0) := by
    intro k j hk h0
    unfold writeL intsZ
    rw [← List.map_take, ← List.map_drop]
    simp only [List.length_map, List.length_replicate]
    rw [← List.map_append, ← List.map_append]
    congr 1
    rw [List.take_left' (by simp), List.drop_append, List.length_replicate, List.drop_of_length_le (by simp), List.nil_append, List.drop_replicate, ← List.replicate_append_replicate, show n - k - (k + j - k) = n - (k + j) by omega]
  have c1 := copy_into (o := 0) (n := n) (c := n) (k := 1) (x := v) (xs := [.int .i64 1]) hm0 (by rw [show Nat.min 1 n = 1 from Nat.min_eq_left h1]; exact hv.src.1) hv.src.2 rfl (by rw [show Nat.min 1 n = 1 from Nat.min_eq_left h1]; rfl) (by simp [intsZ_len])
  rw [show Nat.min 1 n = 1 from Nat.min_eq_left h1] at c1
  have w1 : writeL (intsZ (List.replicate n 0)) 0 [.int .i64 1] = intsZ (List.replicate 1 1 ++ List.replicate (n - 1) 0) := by
    obtain ⟨j, rfl⟩ : ∃ j, n = j + 1 := ⟨n - 1, by omega⟩
    simp [writeL, intsZ, List.replicate_succ]
  rw [w1] at c1
  simp only [go_sem, Int.reduceBEq, Int.reduceBNe, Int.reduceNeg, not_true_eq_false, beq_self_eq_true, bne_self_eq_false, Bool.false_eq_true, if_false, if_true, Int.cast_ofNat_Int, decide_true, decide_false, reduceCtorEq, Nat.reduceEqDiff, Nat.reduceAdd, ne_eq, not_false_eq_true, Option.map_some, Option.bind_some, Option.map_none, Option.bind_none, true_and, and_true, Bool.not_true, Bool.not_false, Nat.reduceLeDiff, Nat.reduceMul, Nat.reduceSub, Nat.le_refl, Int.reduceToNat, Int.reduceLT, Int.reduceLE, Nat.one_mul, Nat.mul_one, c1]
  refine WL.of (fun r e m' => ∃ k : Nat, 1 ≤ k ∧ k ≤ n ∧ r = n - k ∧ e = [(7, .slice (some ⟨m.next, 0, none⟩) n n), (8, .int .i64 k)] ∧ m'.blk m.next = some (.cells (intsZ (List.replicate k 1 ++ List.replicate (n - k) 0)) (some 1)) ∧ m.next < m'.next ∧ Ext m m') (n - 1)
    ⟨1, by omega, by omega, by omega, by simp only [go_sem, Int.reduceBEq, Int.reduceBNe, Int.reduceNeg, not_true_eq_false, beq_self_eq_true, bne_self_eq_false, Bool.false_eq_true, if_false, if_true, Int.cast_ofNat_Int, decide_true, decide_false, reduceCtorEq, Nat.reduceEqDiff, Nat.reduceAdd, ne_eq, not_false_eq_true, Option.map_some, Option.bind_some, Option.map_none, Option.bind_none, true_and, and_true, Bool.not_true, Bool.not_false, Nat.reduceLeDiff, Nat.reduceMul, Nat.reduceSub, Nat.le_refl, Int.reduceToNat, Int.reduceLT, Int.reduceLE, Nat.one_mul, Nat.mul_one] <;> rfl, by simp, hn0, hx0.set (Nat.le_refl _)⟩ ?_
  rintro _ _ m2 ⟨k, hk1, hkn, rfl, rfl, hm2, hn2, hx2⟩
  simp only [go_sem, Int.reduceBEq, Int.reduceBNe, Int.reduceNeg, not_true_eq_false, beq_self_eq_true, bne_self_eq_false, Bool.false_eq_true, if_false, if_true, Int.cast_ofNat_Int, decide_true, decide_false, reduceCtorEq, Nat.reduceEqDiff, Nat.reduceAdd, ne_eq, not_false_eq_true, Option.map_some, Option.bind_some, Option.map_none, Option.bind_none, true_and, and_true, Bool.not_true, Bool.not_false, Nat.reduceLeDiff, Nat.reduceMul, Nat.reduceSub, Nat.le_refl, Int.reduceToNat, Int.reduceLT, Int.reduceLE, Nat.one_mul, Nat.mul_one, len_s]
  refine gT.of (fun hd => ?_) (fun hd => ?_)
  · simp only [decide_eq_true_eq] at hd
    have hkl : k < n := by omega
    have hu := unitOk_own hm2
    obtain ⟨j, hj⟩ : ∃ j, j = Nat.min k (n - k) := ⟨_, rfl⟩
    have hj1 : 1 ≤ j := by rw [hj]; exact Nat.le_min.2 ⟨hk1, by omega⟩
    have hjk : j ≤ k := by rw [hj]; exact Nat.min_le_left _ _
    have hjn : k + j ≤ n := by have : j ≤ n - k := by rw [hj]; exact Nat.min_le_right _ _
                               omega
    have hsrc : aSrc 1 j m2 (.slice (some ⟨m.next, 0, none⟩) k n) = some (intsZ (List.replicate j 1)) := by
      simp only [aSrc]
      rw [if_neg (by omega), if_pos hjk]
      unfold aCells
      rw [hm2]
      simp only [intsZ_len]
      rw [if_pos (by simp; omega)]
      unfold intsZ
      rw [List.drop_zero, ← List.map_take, List.take_append_of_le_length (by simp; omega), Nat.mul_one, List.take_replicate, Nat.min_eq_left hjk]
    have cc := copy_into (o := k) (n := n - k) (c := n - k) (k := k) (x := .slice (some ⟨m.next, 0, none⟩) k n) hm2 (by rw [← hj]; exact hsrc) rfl ints_one (by rw [← hj]; simp [intsZ_len]) (by simp [intsZ_len] <;> omega)
    rw [← hj, hw k j hjn (by omega)] at cc
    have s1 := sub_from (k := .i64) (o := 0) hu hkn (Nat.le_refl n)
    rw [Nat.zero_add, Nat.mul_one] at s1
    have s2 := sub_to (n := n) (k := .i64) (o := 0) hu hkn
    have e5 : IntKind.wrap .i64 ((k : Int) + (j : Int)) = ((k + j : Nat) : Int) := by rw [wrap_i64 (by omega) (by omega)]; rfl
    simp only [go_sem, Int.reduceBEq, Int.reduceBNe, Int.reduceNeg, not_true_eq_false, beq_self_eq_true, bne_self_eq_false, Bool.false_eq_true, if_false, if_true, Int.cast_ofNat_Int, decide_true, decide_false, reduceCtorEq, Nat.reduceEqDiff, Nat.reduceAdd, ne_eq, not_false_eq_true, Option.map_some, Option.bind_some, Option.map_none, Option.bind_none, true_and, and_true, Bool.not_true, Bool.not_false, Nat.reduceLeDiff, Nat.reduceMul, Nat.reduceSub, Nat.le_refl, Int.reduceToNat, Int.reduceLT, Int.reduceLE, Nat.one_mul, Nat.mul_one, s1, s2, cc, e5]
    exact ⟨n - (k + j), by omega, k + j, by omega, hjn, rfl, rfl, by simp, hn2, hx2.set (Nat.le_refl _)⟩
  · simp only [go_sem, Int.reduceBEq, Int.reduceBNe, Int.reduceNeg, not_true_eq_false, beq_self_eq_true, bne_self_eq_false, Bool.false_eq_true, if_false, if_true, Int.cast_ofNat_Int, decide_true, decide_false, reduceCtorEq, Nat.reduceEqDiff, Nat.reduceAdd, ne_eq, not_false_eq_true, Option.map_some, Option.bind_some, Option.map_none, Option.bind_none, true_and, and_true, Bool.not_true, Bool.not_false, Nat.reduceLeDiff, Nat.reduceMul, Nat.reduceSub, Nat.le_refl, Int.reduceToNat, Int.reduceLT, Int.reduceLE, Nat.one_mul, Nat.mul_one]
    simp only [decide_eq_false_iff_not] at hd
    have : k = n := by omega
    subst this
    refine ⟨_, rfl, Nat.le_refl _, hn2, ?_, hx2⟩
    rw [hm2, Nat.sub_self]; simp

theorem New_spec {n : Int} : WC R F.cores_New [.int .i64 n] m fun r m' => ((n < 1 ∨ 16 < n) ∧ r = .tuple #[.pointer none, .int .i64 1] ∧ m' = m) ∨
    (∃ (k c cl : Nat), n = k ∧ 1 ≤ k ∧ k ≤ 16 ∧ r = .tuple #[pt c, .int .i64 0] ∧ CS m' c cl (List.replicate k 1) ∧ m.next ≤ c ∧ m.next ≤ cl ∧ Ext m m') := by
  refine WC.of R.cores_New rfl ?_
  simp only [RC.cores_New, go_sem, Int.reduceBEq, Int.reduceBNe, Int.reduceNeg, not_true_eq_false, beq_self_eq_true, bne_self_eq_false, Bool.false_eq_true, if_false, if_true, Int.cast_ofNat_Int, decide_true, decide_false, reduceCtorEq, Nat.reduceEqDiff, Nat.reduceAdd, ne_eq, not_false_eq_true, Option.map_some, Option.bind_some, Option.map_none, Option.bind_none, true_and, and_true, Bool.not_true, Bool.not_false, Nat.reduceLeDiff, Nat.reduceMul, Nat.reduceSub, Nat.le_refl, Int.reduceToNat, Int.reduceLT, Int.reduceLE, Nat.one_mul, Nat.mul_one]
  refine gT.of (fun h1 => ?_) (fun h1 => ?_)
  · simp only [go_sem, Int.reduceBEq, Int.reduceBNe, Int.reduceNeg, not_true_eq_false, beq_self_eq_true, bne_self_eq_false, Bool.false_eq_true, if_false, if_true, Int.cast_ofNat_Int, decide_true, decide_false, reduceCtorEq, Nat.reduceEqDiff, Nat.reduceAdd, ne_eq, not_false_eq_true, Option.map_some, Option.bind_some, Option.map_none, Option.bind_none, true_and, and_true, Bool.not_true, Bool.not_false, Nat.reduceLeDiff, Nat.reduceMul, Nat.reduceSub, Nat.le_refl, Int.reduceToNat, Int.reduceLT, Int.reduceLE, Nat.one_mul, Nat.mul_one, h1]
    simp only [decide_eq_true_eq] at h1
    exact .inl (.inl h1)
  · simp only [go_sem, Int.reduceBEq, Int.reduceBNe, Int.reduceNeg, not_true_eq_false, beq_self_eq_true, bne_self_eq_false, Bool.false_eq_true, if_false, if_true, Int.cast_ofNat_Int, decide_true, decide_false, reduceCtorEq, Nat.reduceEqDiff, Nat.reduceAdd, ne_eq, not_false_eq_true, Option.map_some, Option.bind_some, Option.map_none, Option.bind_none, true_and, and_true, Bool.not_true, Bool.not_false, Nat.reduceLeDiff, Nat.reduceMul, Nat.reduceSub, Nat.le_refl, Int.reduceToNat, Int.reduceLT, Int.reduceLE, Nat.one_mul, Nat.mul_one, h1]
    refine gT.of (fun h2 => ?_) (fun h2 => ?_)
    · simp only [decide_eq_true_eq] at h2
      simp only [go_sem, Int.reduceBEq, Int.reduceBNe, Int.reduceNeg, not_true_eq_false, beq_self_eq_true, bne_self_eq_false, Bool.false_eq_true, if_false, if_true, Int.cast_ofNat_Int, decide_true, decide_false, reduceCtorEq, Nat.reduceEqDiff, Nat.reduceAdd, ne_eq, not_false_eq_true, Option.map_some, Option.bind_some, Option.map_none, Option.bind_none, true_and, and_true, Bool.not_true, Bool.not_false, Nat.reduceLeDiff, Nat.reduceMul, Nat.reduceSub, Nat.le_refl, Int.reduceToNat, Int.reduceLT, Int.reduceLE, Nat.one_mul, Nat.mul_one]
      exact .inl (.inr h2)
    · simp only [decide_eq_false_iff_not] at h1 h2
      obtain ⟨k, rfl⟩ : ∃ k : Nat, n = k := ⟨n.toNat, by omega⟩
      simp only [go_sem, Int.reduceBEq, Int.reduceBNe, Int.reduceNeg, not_true_eq_false, beq_self_eq_true, bne_self_eq_false, Bool.false_eq_true, if_false, if_true, Int.cast_ofNat_Int, decide_true, decide_false, reduceCtorEq, Nat.reduceEqDiff, Nat.reduceAdd, ne_eq, not_false_eq_true, Option.map_some, Option.bind_some, Option.map_none, Option.bind_none, true_and, and_true, Bool.not_true, Bool.not_false, Nat.reduceLeDiff, Nat.reduceMul, Nat.reduceSub, Nat.le_refl, Int.reduceToNat, Int.reduceLT, Int.reduceLE, Nat.one_mul, Nat.mul_one]
      refine gC.of (Repeat_spec (n := k) (Sl.fresh rfl) (by simp [SlLt, Mem.new]) (by omega) (by omega)) ?_
      rintro r m1 ⟨cl, rfl, a1, a2, a3, a4⟩
      simp only [go_sem, Int.reduceBEq, Int.reduceBNe, Int.reduceNeg, not_true_eq_false, beq_self_eq_true, bne_self_eq_false, Bool.false_eq_true, if_false, if_true, Int.cast_ofNat_Int, decide_true, decide_false, reduceCtorEq, Nat.reduceEqDiff, Nat.reduceAdd, ne_eq, not_false_eq_true, Option.map_some, Option.bind_some, Option.map_none, Option.bind_none, true_and, and_true, Bool.not_true, Bool.not_false, Nat.reduceLeDiff, Nat.reduceMul, Nat.reduceSub, Nat.le_refl, Int.reduceToNat, Int.reduceLT, Int.reduceLE, Nat.one_mul, Nat.mul_one]
      have hl : (List.replicate k (1 : Int)).length = k := List.length_replicate
      have := CS.mk (m := m) (L := List.replicate k 1) a2 a3
      rw [hl] at this
      refine .inr ⟨k, m1.next, cl, rfl, by omega, by omega, rfl, this, ?_, ?_, ?_⟩
      · have := a4.next; simp [Mem.new] at this; omega
      · simp [Mem.new] at a1; omega
      · exact (Ext.new.trans a4).trans Ext.new
end Go.Am


/- Cores: walks of the document's answer. -/
set_option linter.unusedVariables false
set_option linter.unusedSimpArgs false
namespace Go.Am
variable {m : Mem}

theorem RBits_spec {v : Value} {L : List Int} {x : Int} (hs : Sl m 1 L.length (intsZ L) v) (h16 : L.length ≤ 16) : WC R F.ref27_Bits [v, .int .i64 x] m fun r m' => r = u32 (mk32 (fun y => y == x) L) ∧ m' = m := by
  refine WC.of R.ref27_Bits rfl ?_
  simp only [RC.ref27_Bits, go_sem, Int.reduceBEq, Int.reduceBNe, Int.reduceNeg, not_true_eq_false, beq_self_eq_true, bne_self_eq_false, Bool.false_eq_true, if_false, if_true, Int.cast_ofNat_Int, decide_true, decide_false, reduceCtorEq, Nat.reduceEqDiff, Nat.reduceAdd, ne_eq, not_false_eq_true, Option.map_some, Option.bind_some, Option.map_none, Option.bind_none, true_and, and_true, Bool.not_true, Bool.not_false, Nat.reduceLeDiff, Nat.reduceMul, Nat.reduceSub, Nat.le_refl, Int.reduceToNat, Int.reduceLT, Int.reduceLE, Nat.one_mul, Nat.mul_one]
  refine WL.of (fun n e m' => ∃ i : Nat, i ≤ L.length ∧ n = L.length - i ∧ e = [(0, v), (1, .int .i64 x), (5, u32 (mk32 (fun y => y == x) (L.take i))), (6, u32 (BitVec.ofNat 32 (2 ^ i))), (7, .int .i64 i)] ∧ m' = m) L.length ⟨0, by omega, by omega, by simp only [go_sem, Int.reduceBEq, Int.reduceBNe, Int.reduceNeg, not_true_eq_false, beq_self_eq_true, bne_self_eq_false, Bool.false_eq_true, if_false, if_true, Int.cast_ofNat_Int, decide_true, decide_false, reduceCtorEq, Nat.reduceEqDiff, Nat.reduceAdd, ne_eq, not_false_eq_true, Option.map_some, Option.bind_some, Option.map_none, Option.bind_none, true_and, and_true, Bool.not_true, Bool.not_false, Nat.reduceLeDiff, Nat.reduceMul, Nat.reduceSub, Nat.le_refl, Int.reduceToNat, Int.reduceLT, Int.reduceLE, Nat.one_mul, Nat.mul_one] <;> rfl, rfl⟩ ?_
  rintro _ _ _ ⟨i, hi, rfl, rfl, rfl⟩
  simp only [go_sem, Int.reduceBEq, Int.reduceBNe, Int.reduceNeg, not_true_eq_false, beq_self_eq_true, bne_self_eq_false, Bool.false_eq_true, if_false, if_true, Int.cast_ofNat_Int, decide_true, decide_false, reduceCtorEq, Nat.reduceEqDiff, Nat.reduceAdd, ne_eq, not_false_eq_true, Option.map_some, Option.bind_some, Option.map_none, Option.bind_none, true_and, and_true, Bool.not_true, Bool.not_false, Nat.reduceLeDiff, Nat.reduceMul, Nat.reduceSub, Nat.le_refl, Int.reduceToNat, Int.reduceLT, Int.reduceLE, Nat.one_mul, Nat.mul_one, hs.len]
  refine gT.of (fun h1 => ?_) (fun h1 => ?_)
  · simp only [decide_eq_true_eq] at h1
    have hil : i < L.length := by omega
    have e1 : IntKind.wrap .i64 ((i : Int) + 1) = ((i + 1 : Nat) : Int) := by rw [wrap_i64 (by omega) (by omega)]; rfl
    have e2 : (2#32 : BitVec 32) * BitVec.ofNat 32 (2 ^ i) = BitVec.ofNat 32 (2 ^ (i + 1)) := by
      rw [← BitVec.ofNat_mul, Nat.pow_succ, Nat.mul_comm]
    obtain ⟨p, a1, a2⟩ := hs.get (k := .i64) (i := i) hil
    rw [intsZ_get' hil] at a2
    simp only [go_sem, Int.reduceBEq, Int.reduceBNe, Int.reduceNeg, not_true_eq_false, beq_self_eq_true, bne_self_eq_false, Bool.false_eq_true, if_false, if_true, Int.cast_ofNat_Int, decide_true, decide_false, reduceCtorEq, Nat.reduceEqDiff, Nat.reduceAdd, ne_eq, not_false_eq_true, Option.map_some, Option.bind_some, Option.map_none, Option.bind_none, true_and, and_true, Bool.not_true, Bool.not_false, Nat.reduceLeDiff, Nat.reduceMul, Nat.reduceSub, Nat.le_refl, Int.reduceToNat, Int.reduceLT, Int.reduceLE, Nat.one_mul, Nat.mul_one, a1, a2]
    refine gT.of (fun h2 => ?_) (fun h2 => ?_)
    · simp only [go_sem, Int.reduceBEq, Int.reduceBNe, Int.reduceNeg, not_true_eq_false, beq_self_eq_true, bne_self_eq_false, Bool.false_eq_true, if_false, if_true, Int.cast_ofNat_Int, decide_true, decide_false, reduceCtorEq, Nat.reduceEqDiff, Nat.reduceAdd, ne_eq, not_false_eq_true, Option.map_some, Option.bind_some, Option.map_none, Option.bind_none, true_and, and_true, Bool.not_true, Bool.not_false, Nat.reduceLeDiff, Nat.reduceMul, Nat.reduceSub, Nat.le_refl, Int.reduceToNat, Int.reduceLT, Int.reduceLE, Nat.one_mul, Nat.mul_one, h2, e1, e2]
      refine ⟨L.length - (i + 1), by omega, i + 1, by omega, rfl, ?_⟩
      rw [mk_add (p := fun y => y == x) hil h2]
    · simp only [go_sem, Int.reduceBEq, Int.reduceBNe, Int.reduceNeg, not_true_eq_false, beq_self_eq_true, bne_self_eq_false, Bool.false_eq_true, if_false, if_true, Int.cast_ofNat_Int, decide_true, decide_false, reduceCtorEq, Nat.reduceEqDiff, Nat.reduceAdd, ne_eq, not_false_eq_true, Option.map_some, Option.bind_some, Option.map_none, Option.bind_none, true_and, and_true, Bool.not_true, Bool.not_false, Nat.reduceLeDiff, Nat.reduceMul, Nat.reduceSub, Nat.le_refl, Int.reduceToNat, Int.reduceLT, Int.reduceLE, Nat.one_mul, Nat.mul_one, h2, e1, e2]
      refine ⟨L.length - (i + 1), by omega, i + 1, by omega, rfl, ?_⟩
      rw [mk_skip (p := fun y => y == x) hil h2]
  · simp only [go_sem, Int.reduceBEq, Int.reduceBNe, Int.reduceNeg, not_true_eq_false, beq_self_eq_true, bne_self_eq_false, Bool.false_eq_true, if_false, if_true, Int.cast_ofNat_Int, decide_true, decide_false, reduceCtorEq, Nat.reduceEqDiff, Nat.reduceAdd, ne_eq, not_false_eq_true, Option.map_some, Option.bind_some, Option.map_none, Option.bind_none, true_and, and_true, Bool.not_true, Bool.not_false, Nat.reduceLeDiff, Nat.reduceMul, Nat.reduceSub, Nat.le_refl, Int.reduceToNat, Int.reduceLT, Int.reduceLE, Nat.one_mul, Nat.mul_one]
    simp only [decide_eq_false_iff_not] at h1
    rw [List.take_of_length_le (by omega)]

theorem RCount_spec {v : Value} {L : List Int} {x : Int} (hs : Sl m 1 L.length (intsZ L) v) (hl : L.length < 1000000) : WC R F.ref27_Count [v, .int .i64 x] m fun r m' => r = .int .i64 (L.countP (fun y => y == x) : Nat) ∧ m' = m := by
  refine WC.of R.ref27_Count rfl ?_
  simp only [RC.ref27_Count, go_sem, Int.reduceBEq, Int.reduceBNe, Int.reduceNeg, not_true_eq_false, beq_self_eq_true, bne_self_eq_false, Bool.false_eq_true, if_false, if_true, Int.cast_ofNat_Int, decide_true, decide_false, reduceCtorEq, Nat.reduceEqDiff, Nat.reduceAdd, ne_eq, not_false_eq_true, Option.map_some, Option.bind_some, Option.map_none, Option.bind_none, true_and, and_true, Bool.not_true, Bool.not_false, Nat.reduceLeDiff, Nat.reduceMul, Nat.reduceSub, Nat.le_refl, Int.reduceToNat, Int.reduceLT, Int.reduceLE, Nat.one_mul, Nat.mul_one]
  refine WL.of (fun n e m' => ∃ i : Nat, i ≤ L.length ∧ n = L.length - i ∧ e = [(0, v), (1, .int .i64 x), (5, .int .i64 ((L.take i).countP (fun y => y == x) : Nat)), (6, .int .i64 i)] ∧ m' = m) L.length ⟨0, by omega, by omega, by simp only [go_sem, Int.reduceBEq, Int.reduceBNe, Int.reduceNeg, not_true_eq_false, beq_self_eq_true, bne_self_eq_false, Bool.false_eq_true, if_false, if_true, Int.cast_ofNat_Int, decide_true, decide_false, reduceCtorEq, Nat.reduceEqDiff, Nat.reduceAdd, ne_eq, not_false_eq_true, Option.map_some, Option.bind_some, Option.map_none, Option.bind_none, true_and, and_true, Bool.not_true, Bool.not_false, Nat.reduceLeDiff, Nat.reduceMul, Nat.reduceSub, Nat.le_refl, Int.reduceToNat, Int.reduceLT, Int.reduceLE, Nat.one_mul, Nat.mul_one] <;> rfl, rfl⟩ ?_
  rintro _ _ _ ⟨i, hi, rfl, rfl, rfl⟩
  simp only [go_sem, Int.reduceBEq, Int.reduceBNe, Int.reduceNeg, not_true_eq_false, beq_self_eq_true, bne_self_eq_false, Bool.false_eq_true, if_false, if_true, Int.cast_ofNat_Int, decide_true, decide_false, reduceCtorEq, Nat.reduceEqDiff, Nat.reduceAdd, ne_eq, not_false_eq_true, Option.map_some, Option.bind_some, Option.map_none, Option.bind_none, true_and, and_true, Bool.not_true, Bool.not_false, Nat.reduceLeDiff, Nat.reduceMul, Nat.reduceSub, Nat.le_refl, Int.reduceToNat, Int.reduceLT, Int.reduceLE, Nat.one_mul, Nat.mul_one, hs.len]
  refine gT.of (fun h1 => ?_) (fun h1 => ?_)
  · simp only [decide_eq_true_eq] at h1
    have hil : i < L.length := by omega
    have e1 : IntKind.wrap .i64 ((i : Int) + 1) = ((i + 1 : Nat) : Int) := by rw [wrap_i64 (by omega) (by omega)]; rfl
    have cl : (L.take i).countP (fun y => y == x) ≤ i := Nat.le_trans List.countP_le_length (by simp; omega)
    have e2 : IntKind.wrap .i64 (((L.take i).countP (fun y => y == x) : Nat) + 1 : Int) = (((L.take i).countP (fun y => y == x) + 1 : Nat) : Int) := by rw [wrap_i64 (by omega) (by omega)]; rfl
    obtain ⟨p, a1, a2⟩ := hs.get (k := .i64) (i := i) hil
    rw [intsZ_get' hil] at a2
    simp only [go_sem, Int.reduceBEq, Int.reduceBNe, Int.reduceNeg, not_true_eq_false, beq_self_eq_true, bne_self_eq_false, Bool.false_eq_true, if_false, if_true, Int.cast_ofNat_Int, decide_true, decide_false, reduceCtorEq, Nat.reduceEqDiff, Nat.reduceAdd, ne_eq, not_false_eq_true, Option.map_some, Option.bind_some, Option.map_none, Option.bind_none, true_and, and_true, Bool.not_true, Bool.not_false, Nat.reduceLeDiff, Nat.reduceMul, Nat.reduceSub, Nat.le_refl, Int.reduceToNat, Int.reduceLT, Int.reduceLE, Nat.one_mul, Nat.mul_one, a1, a2]
    have st : (L.take (i + 1)).countP (fun y => y == x) = (L.take i).countP (fun y => y == x) + (if (L[i] == x) = true then 1 else 0) := by
      rw [List.take_succ_eq_append_getElem hil, List.countP_append]; simp [List.countP_cons]
    refine gT.of (fun h2 => ?_) (fun h2 => ?_)
    · simp only [go_sem, Int.reduceBEq, Int.reduceBNe, Int.reduceNeg, not_true_eq_false, beq_self_eq_true, bne_self_eq_false, Bool.false_eq_true, if_false, if_true, Int.cast_ofNat_Int, decide_true, decide_false, reduceCtorEq, Nat.reduceEqDiff, Nat.reduceAdd, ne_eq, not_false_eq_true, Option.map_some, Option.bind_some, Option.map_none, Option.bind_none, true_and, and_true, Bool.not_true, Bool.not_false, Nat.reduceLeDiff, Nat.reduceMul, Nat.reduceSub, Nat.le_refl, Int.reduceToNat, Int.reduceLT, Int.reduceLE, Nat.one_mul, Nat.mul_one, h2, e1, e2]
      refine ⟨L.length - (i + 1), by omega, i + 1, by omega, rfl, ?_⟩
      rw [st, if_pos h2]
    · simp only [go_sem, Int.reduceBEq, Int.reduceBNe, Int.reduceNeg, not_true_eq_false, beq_self_eq_true, bne_self_eq_false, Bool.false_eq_true, if_false, if_true, Int.cast_ofNat_Int, decide_true, decide_false, reduceCtorEq, Nat.reduceEqDiff, Nat.reduceAdd, ne_eq, not_false_eq_true, Option.map_some, Option.bind_some, Option.map_none, Option.bind_none, true_and, and_true, Bool.not_true, Bool.not_false, Nat.reduceLeDiff, Nat.reduceMul, Nat.reduceSub, Nat.le_refl, Int.reduceToNat, Int.reduceLT, Int.reduceLE, Nat.one_mul, Nat.mul_one, h2, e1, e2]
      refine ⟨L.length - (i + 1), by omega, i + 1, by omega, rfl, ?_⟩
      rw [st, h2]; simp
  · simp only [go_sem, Int.reduceBEq, Int.reduceBNe, Int.reduceNeg, not_true_eq_false, beq_self_eq_true, bne_self_eq_false, Bool.false_eq_true, if_false, if_true, Int.cast_ofNat_Int, decide_true, decide_false, reduceCtorEq, Nat.reduceEqDiff, Nat.reduceAdd, ne_eq, not_false_eq_true, Option.map_some, Option.bind_some, Option.map_none, Option.bind_none, true_and, and_true, Bool.not_true, Bool.not_false, Nat.reduceLeDiff, Nat.reduceMul, Nat.reduceSub, Nat.le_refl, Int.reduceToNat, Int.reduceLT, Int.reduceLE, Nat.one_mul, Nat.mul_one]
    simp only [decide_eq_false_iff_not] at h1
    rw [List.take_of_length_le (by omega)]

/-- A list of the document's answer. -/
def RL (fp : List Nat) (m : Mem) (L : List Int) (v : Value) : Prop := Sl m 1 L.length (intsZ L) v ∧ SlLt m v ∧ SlOff fp v

theorem RL.own {fp : List Nat} {m m' : Mem} {L : List Int} {v : Value} (h : Own m m' 1 L.length (intsZ L) v) (hf : ∀ x ∈ fp, x < m.next) : RL fp m' L v := ⟨h.sl, h.lt, h.off hf⟩
theorem RL.keep {fp : List Nat} {m m' : Mem} {L : List Int} {v : Value} (h : RL fp m L v) (hx : Ext m m') : RL fp m' L v := ⟨h.1.keep h.2.1 hx, h.2.1.keep hx, h.2.2⟩
theorem RL.upd {fp : List Nat} {m m' : Mem} {L : List Int} {v : Value} (h : RL fp m L v) (hx : Upd m m' fp) : RL fp m' L v := ⟨h.1.upd h.2.1 h.2.2 hx, h.2.1.upd hx, h.2.2⟩

theorem RNew_spec {n : Nat} (h16 : n ≤ 16) : WC R F.ref27_New [.int .i64 n] m fun r m' => Own m m' 1 n (intsZ (List.replicate n 1)) r ∧ Ext m m' := by
  refine WC.of R.ref27_New rfl ?_
  simp only [RC.ref27_New, go_sem, Int.reduceBEq, Int.reduceBNe, Int.reduceNeg, not_true_eq_false, beq_self_eq_true, bne_self_eq_false, Bool.false_eq_true, if_false, if_true, Int.cast_ofNat_Int, decide_true, decide_false, reduceCtorEq, Nat.reduceEqDiff, Nat.reduceAdd, ne_eq, not_false_eq_true, Option.map_some, Option.bind_some, Option.map_none, Option.bind_none, true_and, and_true, Bool.not_true, Bool.not_false, Nat.reduceLeDiff, Nat.reduceMul, Nat.reduceSub, Nat.le_refl, Int.reduceToNat, Int.reduceLT, Int.reduceLE, Nat.one_mul, Nat.mul_one]
  refine WL.of (fun r e m' => ∃ (i : Nat) (v : Value), i ≤ n ∧ r = n - i ∧ e = [(0, .int .i64 n), (3, v), (4, .int .i64 i)] ∧ Own m m' 1 i (intsZ (List.replicate i 1)) v ∧ Ext m m') n
    ⟨0, _, by omega, by omega, by simp only [go_sem, Int.reduceBEq, Int.reduceBNe, Int.reduceNeg, not_true_eq_false, beq_self_eq_true, bne_self_eq_false, Bool.false_eq_true, if_false, if_true, Int.cast_ofNat_Int, decide_true, decide_false, reduceCtorEq, Nat.reduceEqDiff, Nat.reduceAdd, ne_eq, not_false_eq_true, Option.map_some, Option.bind_some, Option.map_none, Option.bind_none, true_and, and_true, Bool.not_true, Bool.not_false, Nat.reduceLeDiff, Nat.reduceMul, Nat.reduceSub, Nat.le_refl, Int.reduceToNat, Int.reduceLT, Int.reduceLE, Nat.one_mul, Nat.mul_one] <;> rfl, .at (all := []) (Nat.le_refl _) (by simp [Mem.new]) (Nat.le_refl _) (by simp [Mem.new]) (by simp) rfl rfl, Ext.new⟩ ?_
  rintro _ _ m1 ⟨i, v, hi, rfl, rfl, ho, hx⟩
  simp only [go_sem, Int.reduceBEq, Int.reduceBNe, Int.reduceNeg, not_true_eq_false, beq_self_eq_true, bne_self_eq_false, Bool.false_eq_true, if_false, if_true, Int.cast_ofNat_Int, decide_true, decide_false, reduceCtorEq, Nat.reduceEqDiff, Nat.reduceAdd, ne_eq, not_false_eq_true, Option.map_some, Option.bind_some, Option.map_none, Option.bind_none, true_and, and_true, Bool.not_true, Bool.not_false, Nat.reduceLeDiff, Nat.reduceMul, Nat.reduceSub, Nat.le_refl, Int.reduceToNat, Int.reduceLT, Int.reduceLE, Nat.one_mul, Nat.mul_one]
  refine gT.of (fun h1 => ?_) (fun h1 => ?_)
  · simp only [decide_eq_true_eq] at h1
    have e1 : IntKind.wrap .i64 ((i : Int) + 1) = ((i + 1 : Nat) : Int) := by rw [wrap_i64 (by omega) (by omega)]; rfl
    obtain ⟨v', m', p1, p2, p3⟩ := ho.app (es := [.int .i64 1]) (by_ := 8) hx (by omega) rfl rfl (by omega) (by omega)
    simp only [go_sem, Int.reduceBEq, Int.reduceBNe, Int.reduceNeg, not_true_eq_false, beq_self_eq_true, bne_self_eq_false, Bool.false_eq_true, if_false, if_true, Int.cast_ofNat_Int, decide_true, decide_false, reduceCtorEq, Nat.reduceEqDiff, Nat.reduceAdd, ne_eq, not_false_eq_true, Option.map_some, Option.bind_some, Option.map_none, Option.bind_none, true_and, and_true, Bool.not_true, Bool.not_false, Nat.reduceLeDiff, Nat.reduceMul, Nat.reduceSub, Nat.le_refl, Int.reduceToNat, Int.reduceLT, Int.reduceLE, Nat.one_mul, Nat.mul_one, p1, e1]
    refine ⟨n - (i + 1), by omega, i + 1, v', by omega, rfl, rfl, ?_, p3⟩
    have : intsZ (List.replicate (i + 1) 1) = intsZ (List.replicate i 1) ++ [.int .i64 1] := by unfold intsZ; rw [List.replicate_succ', List.map_append]; rfl
    rw [this]; exact p2
  · simp only [go_sem, Int.reduceBEq, Int.reduceBNe, Int.reduceNeg, not_true_eq_false, beq_self_eq_true, bne_self_eq_false, Bool.false_eq_true, if_false, if_true, Int.cast_ofNat_Int, decide_true, decide_false, reduceCtorEq, Nat.reduceEqDiff, Nat.reduceAdd, ne_eq, not_false_eq_true, Option.map_some, Option.bind_some, Option.map_none, Option.bind_none, true_and, and_true, Bool.not_true, Bool.not_false, Nat.reduceLeDiff, Nat.reduceMul, Nat.reduceSub, Nat.le_refl, Int.reduceToNat, Int.reduceLT, Int.reduceLE, Nat.one_mul, Nat.mul_one]
    simp only [decide_eq_false_iff_not] at h1
    have : i = n := by omega
    subst this
    exact ⟨ho, hx⟩

theorem with_spec {fp : List Nat} {v : Value} {L : List Int} {i : Nat} {x : Int} (hs : RL fp m L v) (hl : L.length < 1000000) (hi : i < L.length) (hf : ∀ x ∈ fp, x < m.next) : WC R F.ref27_with [v, .int .i64 i, .int .i64 x] m fun r m' => RL fp m' (L.set i x) r ∧ Ext m m' := by
  refine WC.of R.ref27_with rfl ?_
  have hs2 := hs.1.keep hs.2.1 (Ext.new (m := m) (o := .cells [] (some 1)))
  obtain ⟨m', p1, p2, p3, p4⟩ := app_copy_at (by_ := 8) hs2 ints_one (by omega) (by omega) (by omega)
  have g1 : (0 : Int) ≤ i := by omega
  have g2 : (i : Int) < L.length := by omega
  simp only [RC.ref27_with, go_sem, Int.reduceBEq, Int.reduceBNe, Int.reduceNeg, not_true_eq_false, beq_self_eq_true, bne_self_eq_false, Bool.false_eq_true, if_false, if_true, Int.cast_ofNat_Int, decide_true, decide_false, reduceCtorEq, Nat.reduceEqDiff, Nat.reduceAdd, ne_eq, not_false_eq_true, Option.map_some, Option.bind_some, Option.map_none, Option.bind_none, true_and, and_true, Bool.not_true, Bool.not_false, Nat.reduceLeDiff, Nat.reduceMul, Nat.reduceSub, Nat.le_refl, Int.reduceToNat, Int.reduceLT, Int.reduceLE, Nat.one_mul, Nat.mul_one, p1, load_w, load_a, store_b, idxS_b, set_blk, new_blk, set_next, new_next, len_s, ldW_c, ldA_c, toArr_one, size_one, toList_toArr, size_toArr, List.length_cons, List.length_nil, List.getElem?_cons_zero, List.getElem?_cons_succ, Nat.zero_add, Nat.add_zero, if_pos g1, g1, g2, Int.toNat_natCast, p2, stI hi]
  refine ⟨⟨?_, ?_, ?_⟩, p4.set (by omega)⟩
  · rw [List.length_set]
    refine .at (Nat.le_refl _) ?_
    unfold aCells
    simp only [set_blk, if_true]
    rw [if_pos (by simp [intsZ_len])]
    simp [intsZ]
    rw [List.take_of_length_le (by simp)]
  · simp only [SlLt, set_next]; omega
  · intro hm; have := hf _ hm; simp only at this; omega
end Go.Am


/- Cores: more walks of the document's answer. -/
set_option linter.unusedVariables false
set_option linter.unusedSimpArgs false
namespace Go.Am
variable {m : Mem}

theorem RPlug_spec {fp : List Nat} {v : Value} {L : List Int} {c : Int} (hs : RL fp m L v) (hl : L.length < 1000000) (hf : ∀ x ∈ fp, x < m.next) : WC R F.ref27_Plug [v, .int .i64 c] m fun r m' =>
    ∃ v', r = .tuple #[v', .int .i64 (chg L c 0 4).2] ∧ RL fp m' (chg L c 0 4).1 v' ∧ Ext m m' := by
  refine WC.of R.ref27_Plug rfl ?_
  simp only [RC.ref27_Plug, go_sem, Int.reduceBEq, Int.reduceBNe, Int.reduceNeg, not_true_eq_false, beq_self_eq_true, bne_self_eq_false, Bool.false_eq_true, if_false, if_true, Int.cast_ofNat_Int, decide_true, decide_false, reduceCtorEq, Nat.reduceEqDiff, Nat.reduceAdd, ne_eq, not_false_eq_true, Option.map_some, Option.bind_some, Option.map_none, Option.bind_none, true_and, and_true, Bool.not_true, Bool.not_false, Nat.reduceLeDiff, Nat.reduceMul, Nat.reduceSub, Nat.le_refl, Int.reduceToNat, Int.reduceLT, Int.reduceLE, Nat.one_mul, Nat.mul_one, hs.1.len]
  refine gT.of (fun h1 => ?_) (fun h1 => ?_)
  · simp only [go_sem, Int.reduceBEq, Int.reduceBNe, Int.reduceNeg, not_true_eq_false, beq_self_eq_true, bne_self_eq_false, Bool.false_eq_true, if_false, if_true, Int.cast_ofNat_Int, decide_true, decide_false, reduceCtorEq, Nat.reduceEqDiff, Nat.reduceAdd, ne_eq, not_false_eq_true, Option.map_some, Option.bind_some, Option.map_none, Option.bind_none, true_and, and_true, Bool.not_true, Bool.not_false, Nat.reduceLeDiff, Nat.reduceMul, Nat.reduceSub, Nat.le_refl, Int.reduceToNat, Int.reduceLT, Int.reduceLE, Nat.one_mul, Nat.mul_one, h1]
    simp only [decide_eq_true_eq] at h1
    have e : chg L c 0 4 = (L, 24) := by unfold chg; rw [dif_neg (by omega)]
    rw [e]; exact ⟨v, rfl, hs, Ext.refl _⟩
  · simp only [go_sem, Int.reduceBEq, Int.reduceBNe, Int.reduceNeg, not_true_eq_false, beq_self_eq_true, bne_self_eq_false, Bool.false_eq_true, if_false, if_true, Int.cast_ofNat_Int, decide_true, decide_false, reduceCtorEq, Nat.reduceEqDiff, Nat.reduceAdd, ne_eq, not_false_eq_true, Option.map_some, Option.bind_some, Option.map_none, Option.bind_none, true_and, and_true, Bool.not_true, Bool.not_false, Nat.reduceLeDiff, Nat.reduceMul, Nat.reduceSub, Nat.le_refl, Int.reduceToNat, Int.reduceLT, Int.reduceLE, Nat.one_mul, Nat.mul_one, h1, hs.1.len]
    refine gT.of (fun h2 => ?_) (fun h2 => ?_)
    · simp only [go_sem, Int.reduceBEq, Int.reduceBNe, Int.reduceNeg, not_true_eq_false, beq_self_eq_true, bne_self_eq_false, Bool.false_eq_true, if_false, if_true, Int.cast_ofNat_Int, decide_true, decide_false, reduceCtorEq, Nat.reduceEqDiff, Nat.reduceAdd, ne_eq, not_false_eq_true, Option.map_some, Option.bind_some, Option.map_none, Option.bind_none, true_and, and_true, Bool.not_true, Bool.not_false, Nat.reduceLeDiff, Nat.reduceMul, Nat.reduceSub, Nat.le_refl, Int.reduceToNat, Int.reduceLT, Int.reduceLE, Nat.one_mul, Nat.mul_one, h1, h2]
      simp only [decide_eq_true_eq] at h2
      have e : chg L c 0 4 = (L, 24) := by unfold chg; rw [dif_neg (by omega)]
      rw [e]; exact ⟨v, rfl, hs, Ext.refl _⟩
    · simp only [decide_eq_false_iff_not] at h1 h2
      obtain ⟨i, rfl⟩ : ∃ i : Nat, c = i := ⟨c.toNat, by omega⟩
      have hi : i < L.length := by omega
      have hc : 0 ≤ ((i : Nat) : Int) ∧ ((i : Nat) : Int).toNat < L.length := by omega
      have et : ((i : Nat) : Int).toNat = i := Int.toNat_natCast i
      obtain ⟨p, a1, a2⟩ := hs.1.get (k := .i64) (i := i) hi
      rw [intsZ_get' hi] at a2
      simp only [go_sem, Int.reduceBEq, Int.reduceBNe, Int.reduceNeg, not_true_eq_false, beq_self_eq_true, bne_self_eq_false, Bool.false_eq_true, if_false, if_true, Int.cast_ofNat_Int, decide_true, decide_false, reduceCtorEq, Nat.reduceEqDiff, Nat.reduceAdd, ne_eq, not_false_eq_true, Option.map_some, Option.bind_some, Option.map_none, Option.bind_none, true_and, and_true, Bool.not_true, Bool.not_false, Nat.reduceLeDiff, Nat.reduceMul, Nat.reduceSub, Nat.le_refl, Int.reduceToNat, Int.reduceLT, Int.reduceLE, Nat.one_mul, Nat.mul_one, a1, a2, h1, h2]
      refine gT.of (fun q => ?_) (fun q => ?_)
      · have : L[i] ≠ 0 := by simpa using q
        have e : chg L i 0 4 = (L, 15) := by unfold chg; rw [dif_pos hc]; simp only [et]; rw [if_neg this]
        simp only [go_sem, Int.reduceBEq, Int.reduceBNe, Int.reduceNeg, not_true_eq_false, beq_self_eq_true, bne_self_eq_false, Bool.false_eq_true, if_false, if_true, Int.cast_ofNat_Int, decide_true, decide_false, reduceCtorEq, Nat.reduceEqDiff, Nat.reduceAdd, ne_eq, not_false_eq_true, Option.map_some, Option.bind_some, Option.map_none, Option.bind_none, true_and, and_true, Bool.not_true, Bool.not_false, Nat.reduceLeDiff, Nat.reduceMul, Nat.reduceSub, Nat.le_refl, Int.reduceToNat, Int.reduceLT, Int.reduceLE, Nat.one_mul, Nat.mul_one]
        rw [e]; exact ⟨v, rfl, hs, Ext.refl _⟩
      · have q' : L[i] = 0 := by simpa using q
        have e : chg L i 0 4 = (L.set i 4, 0) := by unfold chg; rw [dif_pos hc]; simp only [et]; rw [if_pos q', if_neg (fun h => absurd h.1 (by decide))]
        simp only [go_sem, Int.reduceBEq, Int.reduceBNe, Int.reduceNeg, not_true_eq_false, beq_self_eq_true, bne_self_eq_false, Bool.false_eq_true, if_false, if_true, Int.cast_ofNat_Int, decide_true, decide_false, reduceCtorEq, Nat.reduceEqDiff, Nat.reduceAdd, ne_eq, not_false_eq_true, Option.map_some, Option.bind_some, Option.map_none, Option.bind_none, true_and, and_true, Bool.not_true, Bool.not_false, Nat.reduceLeDiff, Nat.reduceMul, Nat.reduceSub, Nat.le_refl, Int.reduceToNat, Int.reduceLT, Int.reduceLE, Nat.one_mul, Nat.mul_one, q]
        refine gC.of (with_spec hs hl hi hf) ?_
        rintro r m' ⟨b1, b2⟩
        simp only [go_sem, Int.reduceBEq, Int.reduceBNe, Int.reduceNeg, not_true_eq_false, beq_self_eq_true, bne_self_eq_false, Bool.false_eq_true, if_false, if_true, Int.cast_ofNat_Int, decide_true, decide_false, reduceCtorEq, Nat.reduceEqDiff, Nat.reduceAdd, ne_eq, not_false_eq_true, Option.map_some, Option.bind_some, Option.map_none, Option.bind_none, true_and, and_true, Bool.not_true, Bool.not_false, Nat.reduceLeDiff, Nat.reduceMul, Nat.reduceSub, Nat.le_refl, Int.reduceToNat, Int.reduceLT, Int.reduceLE, Nat.one_mul, Nat.mul_one]
        rw [e]; exact ⟨r, rfl, b1, b2⟩

theorem onl_eq {L : List Int} : L.countP (fun y => y == 1) = onl L := by unfold onl; congr 1; funext y; rw [Bool.eq_iff_iff]; simp

theorem RUnplug_spec {fp : List Nat} {v : Value} {L : List Int} {c : Int} (hs : RL fp m L v) (hl : L.length < 1000000) (hf : ∀ x ∈ fp, x < m.next) : WC R F.ref27_Unplug [v, .int .i64 c] m fun r m' =>
    ∃ v', r = .tuple #[v', .int .i64 (chg L c 1 2).2] ∧ RL fp m' (chg L c 1 2).1 v' ∧ Ext m m' := by
  refine WC.of R.ref27_Unplug rfl ?_
  simp only [RC.ref27_Unplug, go_sem, Int.reduceBEq, Int.reduceBNe, Int.reduceNeg, not_true_eq_false, beq_self_eq_true, bne_self_eq_false, Bool.false_eq_true, if_false, if_true, Int.cast_ofNat_Int, decide_true, decide_false, reduceCtorEq, Nat.reduceEqDiff, Nat.reduceAdd, ne_eq, not_false_eq_true, Option.map_some, Option.bind_some, Option.map_none, Option.bind_none, true_and, and_true, Bool.not_true, Bool.not_false, Nat.reduceLeDiff, Nat.reduceMul, Nat.reduceSub, Nat.le_refl, Int.reduceToNat, Int.reduceLT, Int.reduceLE, Nat.one_mul, Nat.mul_one, hs.1.len]
  refine gT.of (fun h1 => ?_) (fun h1 => ?_)
  · simp only [go_sem, Int.reduceBEq, Int.reduceBNe, Int.reduceNeg, not_true_eq_false, beq_self_eq_true, bne_self_eq_false, Bool.false_eq_true, if_false, if_true, Int.cast_ofNat_Int, decide_true, decide_false, reduceCtorEq, Nat.reduceEqDiff, Nat.reduceAdd, ne_eq, not_false_eq_true, Option.map_some, Option.bind_some, Option.map_none, Option.bind_none, true_and, and_true, Bool.not_true, Bool.not_false, Nat.reduceLeDiff, Nat.reduceMul, Nat.reduceSub, Nat.le_refl, Int.reduceToNat, Int.reduceLT, Int.reduceLE, Nat.one_mul, Nat.mul_one, h1]
    simp only [decide_eq_true_eq] at h1
    have e : chg L c 1 2 = (L, 24) := by unfold chg; rw [dif_neg (by omega)]
    rw [e]; exact ⟨v, rfl, hs, Ext.refl _⟩
  · simp only [go_sem, Int.reduceBEq, Int.reduceBNe, Int.reduceNeg, not_true_eq_false, beq_self_eq_true, bne_self_eq_false, Bool.false_eq_true, if_false, if_true, Int.cast_ofNat_Int, decide_true, decide_false, reduceCtorEq, Nat.reduceEqDiff, Nat.reduceAdd, ne_eq, not_false_eq_true, Option.map_some, Option.bind_some, Option.map_none, Option.bind_none, true_and, and_true, Bool.not_true, Bool.not_false, Nat.reduceLeDiff, Nat.reduceMul, Nat.reduceSub, Nat.le_refl, Int.reduceToNat, Int.reduceLT, Int.reduceLE, Nat.one_mul, Nat.mul_one, h1, hs.1.len]
    refine gT.of (fun h2 => ?_) (fun h2 => ?_)
    · simp only [go_sem, Int.reduceBEq, Int.reduceBNe, Int.reduceNeg, not_true_eq_false, beq_self_eq_true, bne_self_eq_false, Bool.false_eq_true, if_false, if_true, Int.cast_ofNat_Int, decide_true, decide_false, reduceCtorEq, Nat.reduceEqDiff, Nat.reduceAdd, ne_eq, not_false_eq_true, Option.map_some, Option.bind_some, Option.map_none, Option.bind_none, true_and, and_true, Bool.not_true, Bool.not_false, Nat.reduceLeDiff, Nat.reduceMul, Nat.reduceSub, Nat.le_refl, Int.reduceToNat, Int.reduceLT, Int.reduceLE, Nat.one_mul, Nat.mul_one, h1, h2]
      simp only [decide_eq_true_eq] at h2
      have e : chg L c 1 2 = (L, 24) := by unfold chg; rw [dif_neg (by omega)]
      rw [e]; exact ⟨v, rfl, hs, Ext.refl _⟩
    · simp only [decide_eq_false_iff_not] at h1 h2
      obtain ⟨i, rfl⟩ : ∃ i : Nat, c = i := ⟨c.toNat, by omega⟩
      have hi : i < L.length := by omega
      have hc : 0 ≤ ((i : Nat) : Int) ∧ ((i : Nat) : Int).toNat < L.length := by omega
      have et : ((i : Nat) : Int).toNat = i := Int.toNat_natCast i
      obtain ⟨p, a1, a2⟩ := hs.1.get (k := .i64) (i := i) hi
      rw [intsZ_get' hi] at a2
      simp only [go_sem, Int.reduceBEq, Int.reduceBNe, Int.reduceNeg, not_true_eq_false, beq_self_eq_true, bne_self_eq_false, Bool.false_eq_true, if_false, if_true, Int.cast_ofNat_Int, decide_true, decide_false, reduceCtorEq, Nat.reduceEqDiff, Nat.reduceAdd, ne_eq, not_false_eq_true, Option.map_some, Option.bind_some, Option.map_none, Option.bind_none, true_and, and_true, Bool.not_true, Bool.not_false, Nat.reduceLeDiff, Nat.reduceMul, Nat.reduceSub, Nat.le_refl, Int.reduceToNat, Int.reduceLT, Int.reduceLE, Nat.one_mul, Nat.mul_one, a1, a2, h1, h2]
      refine gT.of (fun q => ?_) (fun q => ?_)
      · have : L[i] ≠ 1 := by simpa using q
        have e : chg L i 1 2 = (L, 15) := by unfold chg; rw [dif_pos hc]; simp only [et]; rw [if_neg this]
        simp only [go_sem, Int.reduceBEq, Int.reduceBNe, Int.reduceNeg, not_true_eq_false, beq_self_eq_true, bne_self_eq_false, Bool.false_eq_true, if_false, if_true, Int.cast_ofNat_Int, decide_true, decide_false, reduceCtorEq, Nat.reduceEqDiff, Nat.reduceAdd, ne_eq, not_false_eq_true, Option.map_some, Option.bind_some, Option.map_none, Option.bind_none, true_and, and_true, Bool.not_true, Bool.not_false, Nat.reduceLeDiff, Nat.reduceMul, Nat.reduceSub, Nat.le_refl, Int.reduceToNat, Int.reduceLT, Int.reduceLE, Nat.one_mul, Nat.mul_one]
        rw [e]; exact ⟨v, rfl, hs, Ext.refl _⟩
      · have q' : L[i] = 1 := by simpa using q
        simp only [go_sem, Int.reduceBEq, Int.reduceBNe, Int.reduceNeg, not_true_eq_false, beq_self_eq_true, bne_self_eq_false, Bool.false_eq_true, if_false, if_true, Int.cast_ofNat_Int, decide_true, decide_false, reduceCtorEq, Nat.reduceEqDiff, Nat.reduceAdd, ne_eq, not_false_eq_true, Option.map_some, Option.bind_some, Option.map_none, Option.bind_none, true_and, and_true, Bool.not_true, Bool.not_false, Nat.reduceLeDiff, Nat.reduceMul, Nat.reduceSub, Nat.le_refl, Int.reduceToNat, Int.reduceLT, Int.reduceLE, Nat.one_mul, Nat.mul_one, q]
        refine gC.of (RCount_spec hs.1 hl) ?_
        rintro _ m_ ⟨rfl, hm_⟩
        replace hm_ := hm_.symm
        subst hm_
        simp only [go_sem, Int.reduceBEq, Int.reduceBNe, Int.reduceNeg, not_true_eq_false, beq_self_eq_true, bne_self_eq_false, Bool.false_eq_true, if_false, if_true, Int.cast_ofNat_Int, decide_true, decide_false, reduceCtorEq, Nat.reduceEqDiff, Nat.reduceAdd, ne_eq, not_false_eq_true, Option.map_some, Option.bind_some, Option.map_none, Option.bind_none, true_and, and_true, Bool.not_true, Bool.not_false, Nat.reduceLeDiff, Nat.reduceMul, Nat.reduceSub, Nat.le_refl, Int.reduceToNat, Int.reduceLT, Int.reduceLE, Nat.one_mul, Nat.mul_one]
        rw [onl_eq]
        refine gT.of (fun t => ?_) (fun t => ?_)
        · have t' : onl L = 1 := by simp only [beq_iff_eq] at t; omega
          have e : chg L i 1 2 = (L, 17) := by unfold chg; rw [dif_pos hc]; simp only [et]; rw [if_pos q', if_pos ⟨by first | rfl | trivial, t'⟩]
          simp only [go_sem, Int.reduceBEq, Int.reduceBNe, Int.reduceNeg, not_true_eq_false, beq_self_eq_true, bne_self_eq_false, Bool.false_eq_true, if_false, if_true, Int.cast_ofNat_Int, decide_true, decide_false, reduceCtorEq, Nat.reduceEqDiff, Nat.reduceAdd, ne_eq, not_false_eq_true, Option.map_some, Option.bind_some, Option.map_none, Option.bind_none, true_and, and_true, Bool.not_true, Bool.not_false, Nat.reduceLeDiff, Nat.reduceMul, Nat.reduceSub, Nat.le_refl, Int.reduceToNat, Int.reduceLT, Int.reduceLE, Nat.one_mul, Nat.mul_one]
          rw [e]; exact ⟨v, rfl, hs, Ext.refl _⟩
        · have t' : onl L ≠ 1 := by simp only [beq_eq_false_iff_ne] at t; omega
          have e : chg L i 1 2 = (L.set i 2, 0) := by unfold chg; rw [dif_pos hc]; simp only [et]; rw [if_pos q', if_neg (fun h => t' h.2)]
          simp only [go_sem, Int.reduceBEq, Int.reduceBNe, Int.reduceNeg, not_true_eq_false, beq_self_eq_true, bne_self_eq_false, Bool.false_eq_true, if_false, if_true, Int.cast_ofNat_Int, decide_true, decide_false, reduceCtorEq, Nat.reduceEqDiff, Nat.reduceAdd, ne_eq, not_false_eq_true, Option.map_some, Option.bind_some, Option.map_none, Option.bind_none, true_and, and_true, Bool.not_true, Bool.not_false, Nat.reduceLeDiff, Nat.reduceMul, Nat.reduceSub, Nat.le_refl, Int.reduceToNat, Int.reduceLT, Int.reduceLE, Nat.one_mul, Nat.mul_one, t]
          refine gC.of (with_spec hs hl hi hf) ?_
          rintro r m' ⟨b1, b2⟩
          simp only [go_sem, Int.reduceBEq, Int.reduceBNe, Int.reduceNeg, not_true_eq_false, beq_self_eq_true, bne_self_eq_false, Bool.false_eq_true, if_false, if_true, Int.cast_ofNat_Int, decide_true, decide_false, reduceCtorEq, Nat.reduceEqDiff, Nat.reduceAdd, ne_eq, not_false_eq_true, Option.map_some, Option.bind_some, Option.map_none, Option.bind_none, true_and, and_true, Bool.not_true, Bool.not_false, Nat.reduceLeDiff, Nat.reduceMul, Nat.reduceSub, Nat.le_refl, Int.reduceToNat, Int.reduceLT, Int.reduceLE, Nat.one_mul, Nat.mul_one]
          rw [e]; exact ⟨r, rfl, b1, b2⟩

theorem RTurn_spec {fp : List Nat} {v : Value} {L : List Int} (hs : RL fp m L v) (hl : L.length ≤ 1000) : WC R F.ref27_Turn [v] m fun r m' => Own m m' 1 L.length (intsZ (L.map turnC)) r ∧ Ext m m' := by
  refine WC.of R.ref27_Turn rfl ?_
  simp only [RC.ref27_Turn, go_sem, Int.reduceBEq, Int.reduceBNe, Int.reduceNeg, not_true_eq_false, beq_self_eq_true, bne_self_eq_false, Bool.false_eq_true, if_false, if_true, Int.cast_ofNat_Int, decide_true, decide_false, reduceCtorEq, Nat.reduceEqDiff, Nat.reduceAdd, ne_eq, not_false_eq_true, Option.map_some, Option.bind_some, Option.map_none, Option.bind_none, true_and, and_true, Bool.not_true, Bool.not_false, Nat.reduceLeDiff, Nat.reduceMul, Nat.reduceSub, Nat.le_refl, Int.reduceToNat, Int.reduceLT, Int.reduceLE, Nat.one_mul, Nat.mul_one]
  refine WL.of (fun r e m' => ∃ (i : Nat) (w : Value), i ≤ L.length ∧ r = L.length - i ∧ e = [(0, v), (3, w), (4, .int .i64 i)] ∧ Own m m' 1 i (intsZ ((L.take i).map turnC)) w ∧ Ext m m') L.length
    ⟨0, _, by omega, by omega, by simp only [go_sem, Int.reduceBEq, Int.reduceBNe, Int.reduceNeg, not_true_eq_false, beq_self_eq_true, bne_self_eq_false, Bool.false_eq_true, if_false, if_true, Int.cast_ofNat_Int, decide_true, decide_false, reduceCtorEq, Nat.reduceEqDiff, Nat.reduceAdd, ne_eq, not_false_eq_true, Option.map_some, Option.bind_some, Option.map_none, Option.bind_none, true_and, and_true, Bool.not_true, Bool.not_false, Nat.reduceLeDiff, Nat.reduceMul, Nat.reduceSub, Nat.le_refl, Int.reduceToNat, Int.reduceLT, Int.reduceLE, Nat.one_mul, Nat.mul_one] <;> rfl, .at (all := []) (Nat.le_refl _) (by simp [Mem.new]) (Nat.le_refl _) (by simp [Mem.new]) (by simp) rfl rfl, Ext.new⟩ ?_
  rintro _ _ m1 ⟨i, w, hi, rfl, rfl, ho, hx⟩
  have hs1 := hs.keep hx
  simp only [go_sem, Int.reduceBEq, Int.reduceBNe, Int.reduceNeg, not_true_eq_false, beq_self_eq_true, bne_self_eq_false, Bool.false_eq_true, if_false, if_true, Int.cast_ofNat_Int, decide_true, decide_false, reduceCtorEq, Nat.reduceEqDiff, Nat.reduceAdd, ne_eq, not_false_eq_true, Option.map_some, Option.bind_some, Option.map_none, Option.bind_none, true_and, and_true, Bool.not_true, Bool.not_false, Nat.reduceLeDiff, Nat.reduceMul, Nat.reduceSub, Nat.le_refl, Int.reduceToNat, Int.reduceLT, Int.reduceLE, Nat.one_mul, Nat.mul_one, hs1.1.len]
  refine gT.of (fun h1 => ?_) (fun h1 => ?_)
  · simp only [decide_eq_true_eq] at h1
    have hil : i < L.length := by omega
    have e1 : IntKind.wrap .i64 ((i : Int) + 1) = ((i + 1 : Nat) : Int) := by rw [wrap_i64 (by omega) (by omega)]; rfl
    obtain ⟨p, a1, a2⟩ := hs1.1.get (k := .i64) (i := i) hil
    rw [intsZ_get' hil] at a2
    have fin : ∀ x : Int, x = turnC L[i] → ∃ v' m', aApp none 1 8 (m1.new (.cells [.int .i64 x] (some 1))) w (.slice (some ⟨m1.next, 0, none⟩) 1 1) = some (v', m') ∧ Own m m' 1 (i + 1) (intsZ ((L.take (i + 1)).map turnC)) v' ∧ Ext m m' := by
      intro x hx'
      obtain ⟨v', m', p1, p2, p3⟩ := ho.app (es := [.int .i64 x]) (by_ := 8) hx (by omega) rfl rfl (by omega) (by omega)
      refine ⟨v', m', p1, ?_, p3⟩
      have : intsZ ((L.take (i + 1)).map turnC) = intsZ ((L.take i).map turnC) ++ [.int .i64 x] := by
        unfold intsZ; rw [List.take_succ_eq_append_getElem hil, List.map_append, List.map_append, hx']; rfl
      rw [this]; exact p2
    simp only [go_sem, Int.reduceBEq, Int.reduceBNe, Int.reduceNeg, not_true_eq_false, beq_self_eq_true, bne_self_eq_false, Bool.false_eq_true, if_false, if_true, Int.cast_ofNat_Int, decide_true, decide_false, reduceCtorEq, Nat.reduceEqDiff, Nat.reduceAdd, ne_eq, not_false_eq_true, Option.map_some, Option.bind_some, Option.map_none, Option.bind_none, true_and, and_true, Bool.not_true, Bool.not_false, Nat.reduceLeDiff, Nat.reduceMul, Nat.reduceSub, Nat.le_refl, Int.reduceToNat, Int.reduceLT, Int.reduceLE, Nat.one_mul, Nat.mul_one, a1, a2]
    generalize L[i] = x at *
    refine gT.of (fun q2 => ?_) (fun q2 => ?_)
    · have q2' : x = 2 := by simpa using q2
      obtain ⟨v', m', p1, p2, p3⟩ := fin 3 (by rw [q2']; rfl)
      simp only [go_sem, Int.reduceBEq, Int.reduceBNe, Int.reduceNeg, not_true_eq_false, beq_self_eq_true, bne_self_eq_false, Bool.false_eq_true, if_false, if_true, Int.cast_ofNat_Int, decide_true, decide_false, reduceCtorEq, Nat.reduceEqDiff, Nat.reduceAdd, ne_eq, not_false_eq_true, Option.map_some, Option.bind_some, Option.map_none, Option.bind_none, true_and, and_true, Bool.not_true, Bool.not_false, Nat.reduceLeDiff, Nat.reduceMul, Nat.reduceSub, Nat.le_refl, Int.reduceToNat, Int.reduceLT, Int.reduceLE, Nat.one_mul, Nat.mul_one, q2, p1, e1]
      exact ⟨L.length - (i + 1), by omega, i + 1, v', by omega, rfl, rfl, p2, p3⟩
    · have q2' : x ≠ 2 := by simpa using q2
      simp only [go_sem, Int.reduceBEq, Int.reduceBNe, Int.reduceNeg, not_true_eq_false, beq_self_eq_true, bne_self_eq_false, Bool.false_eq_true, if_false, if_true, Int.cast_ofNat_Int, decide_true, decide_false, reduceCtorEq, Nat.reduceEqDiff, Nat.reduceAdd, ne_eq, not_false_eq_true, Option.map_some, Option.bind_some, Option.map_none, Option.bind_none, true_and, and_true, Bool.not_true, Bool.not_false, Nat.reduceLeDiff, Nat.reduceMul, Nat.reduceSub, Nat.le_refl, Int.reduceToNat, Int.reduceLT, Int.reduceLE, Nat.one_mul, Nat.mul_one, q2]
      refine gT.of (fun q3 => ?_) (fun q3 => ?_)
      · have q3' : x = 3 := by simpa using q3
        obtain ⟨v', m', p1, p2, p3⟩ := fin 0 (by rw [q3']; rfl)
        simp only [go_sem, Int.reduceBEq, Int.reduceBNe, Int.reduceNeg, not_true_eq_false, beq_self_eq_true, bne_self_eq_false, Bool.false_eq_true, if_false, if_true, Int.cast_ofNat_Int, decide_true, decide_false, reduceCtorEq, Nat.reduceEqDiff, Nat.reduceAdd, ne_eq, not_false_eq_true, Option.map_some, Option.bind_some, Option.map_none, Option.bind_none, true_and, and_true, Bool.not_true, Bool.not_false, Nat.reduceLeDiff, Nat.reduceMul, Nat.reduceSub, Nat.le_refl, Int.reduceToNat, Int.reduceLT, Int.reduceLE, Nat.one_mul, Nat.mul_one, q3, p1, e1]
        exact ⟨L.length - (i + 1), by omega, i + 1, v', by omega, rfl, rfl, p2, p3⟩
      · have q3' : x ≠ 3 := by simpa using q3
        simp only [go_sem, Int.reduceBEq, Int.reduceBNe, Int.reduceNeg, not_true_eq_false, beq_self_eq_true, bne_self_eq_false, Bool.false_eq_true, if_false, if_true, Int.cast_ofNat_Int, decide_true, decide_false, reduceCtorEq, Nat.reduceEqDiff, Nat.reduceAdd, ne_eq, not_false_eq_true, Option.map_some, Option.bind_some, Option.map_none, Option.bind_none, true_and, and_true, Bool.not_true, Bool.not_false, Nat.reduceLeDiff, Nat.reduceMul, Nat.reduceSub, Nat.le_refl, Int.reduceToNat, Int.reduceLT, Int.reduceLE, Nat.one_mul, Nat.mul_one, q3]
        refine gT.of (fun q4 => ?_) (fun q4 => ?_)
        · have q4' : x = 4 := by simpa using q4
          obtain ⟨v', m', p1, p2, p3⟩ := fin 1 (by rw [q4']; rfl)
          simp only [go_sem, Int.reduceBEq, Int.reduceBNe, Int.reduceNeg, not_true_eq_false, beq_self_eq_true, bne_self_eq_false, Bool.false_eq_true, if_false, if_true, Int.cast_ofNat_Int, decide_true, decide_false, reduceCtorEq, Nat.reduceEqDiff, Nat.reduceAdd, ne_eq, not_false_eq_true, Option.map_some, Option.bind_some, Option.map_none, Option.bind_none, true_and, and_true, Bool.not_true, Bool.not_false, Nat.reduceLeDiff, Nat.reduceMul, Nat.reduceSub, Nat.le_refl, Int.reduceToNat, Int.reduceLT, Int.reduceLE, Nat.one_mul, Nat.mul_one, q4, p1, e1]
          exact ⟨L.length - (i + 1), by omega, i + 1, v', by omega, rfl, rfl, p2, p3⟩
        · have q4' : x ≠ 4 := by simpa using q4
          obtain ⟨v', m', p1, p2, p3⟩ := fin x (by unfold turnC; rw [if_neg q4', if_neg q2', if_neg q3'])
          simp only [go_sem, Int.reduceBEq, Int.reduceBNe, Int.reduceNeg, not_true_eq_false, beq_self_eq_true, bne_self_eq_false, Bool.false_eq_true, if_false, if_true, Int.cast_ofNat_Int, decide_true, decide_false, reduceCtorEq, Nat.reduceEqDiff, Nat.reduceAdd, ne_eq, not_false_eq_true, Option.map_some, Option.bind_some, Option.map_none, Option.bind_none, true_and, and_true, Bool.not_true, Bool.not_false, Nat.reduceLeDiff, Nat.reduceMul, Nat.reduceSub, Nat.le_refl, Int.reduceToNat, Int.reduceLT, Int.reduceLE, Nat.one_mul, Nat.mul_one, q4, p1, e1]
          exact ⟨L.length - (i + 1), by omega, i + 1, v', by omega, rfl, rfl, p2, p3⟩
  · simp only [go_sem, Int.reduceBEq, Int.reduceBNe, Int.reduceNeg, not_true_eq_false, beq_self_eq_true, bne_self_eq_false, Bool.false_eq_true, if_false, if_true, Int.cast_ofNat_Int, decide_true, decide_false, reduceCtorEq, Nat.reduceEqDiff, Nat.reduceAdd, ne_eq, not_false_eq_true, Option.map_some, Option.bind_some, Option.map_none, Option.bind_none, true_and, and_true, Bool.not_true, Bool.not_false, Nat.reduceLeDiff, Nat.reduceMul, Nat.reduceSub, Nat.le_refl, Int.reduceToNat, Int.reduceLT, Int.reduceLE, Nat.one_mul, Nat.mul_one]
    simp only [decide_eq_false_iff_not] at h1
    have : i = L.length := by omega
    subst this
    rw [List.take_length] at ho
    exact ⟨ho, hx⟩
end Go.Am


/- Cores: a step of both. -/
set_option linter.unusedVariables false
set_option linter.unusedSimpArgs false
namespace Go.Am
variable {m : Mem}

def stp (k c : Int) (L : List Int) : List Int :=
  if k = 0 ∨ k = 1 then (chg L c 0 4).1 else if k = 2 ∨ k = 3 then (chg L c 1 2).1 else if k = 4 ∨ k = 5 then L.map turnC else L

theorem chg_len {L : List Int} {c f t : Int} : (chg L c f t).1.length = L.length := by
  unfold chg; split <;> (try split) <;> (try split) <;> simp
theorem stp_len {L : List Int} {k c : Int} : (stp k c L).length = L.length := by
  unfold stp; split <;> (try split) <;> (try split) <;> simp [chg_len]

structure Post (m m' : Mem) (b bl : Nat) (L K : List Int) (k c : Int) (r : Value) (b' bl' : Nat) (v' : Value) (ok : Bool) : Prop where
  val : r = .tuple #[pt b', v', .bool ok]
  obj : CS m' b' bl' (stp k c L)
  lst : RL [b', bl'] m' (stp k c K) v'
  ok : L = K → ok = true
  upd : Upd m m' [b, bl]
  new : (b' = b ∧ bl' = bl) ∨ (m.next ≤ b' ∧ m.next ≤ bl')

theorem CS.keep' {b bl : Nat} {L : List Int} {m' : Mem} {fp : List Nat} (h : CS m b bl L) (hx : Upd m m' fp) (h1 : b ∉ fp) (h2 : bl ∉ fp) : CS m' b bl L :=
  ⟨by rw [hx.same _ h.2.2.2.1 h1]; exact h.1, by rw [hx.same _ h.2.2.2.2 h2]; exact h.2.1, h.2.2.1, Nat.lt_of_lt_of_le h.2.2.2.1 hx.next, Nat.lt_of_lt_of_le h.2.2.2.2 hx.next⟩

theorem Upd.more {m m' : Mem} {fp fq : List Nat} (h : Upd m m' fp) (hs : ∀ x ∈ fp, x ∈ fq) : Upd m m' fq := ⟨h.next, fun b hb hn => h.same b hb fun hm => hn (hs b hm)⟩

set_option maxHeartbeats 2000000 in
theorem step_spec {b bl : Nat} {L K : List Int} {v : Value} {k c : Int} (h : CS m b bl L) (hv : RL [b, bl] m K v) (h16 : L.length ≤ 16) (hk16 : K.length ≤ 16) (hne : L ≠ []) :
    WC R F.law27_step [pt b, v, .agg #[.int .i64 k, .int .i64 c]] m fun r m' => ∃ b' bl' v' ok, Post m m' b bl L K k c r b' bl' v' ok := by
  refine WC.of R.law27_step rfl ?_
  simp only [RC.law27_step, go_sem, Int.reduceBEq, Int.reduceBNe, Int.reduceNeg, not_true_eq_false, beq_self_eq_true, bne_self_eq_false, Bool.false_eq_true, if_false, if_true, Int.cast_ofNat_Int, decide_true, decide_false, reduceCtorEq, Nat.reduceEqDiff, Nat.reduceAdd, ne_eq, not_false_eq_true, Option.map_some, Option.bind_some, Option.map_none, Option.bind_none, true_and, and_true, Bool.not_true, Bool.not_false, Nat.reduceLeDiff, Nat.reduceMul, Nat.reduceSub, Nat.le_refl, Int.reduceToNat, Int.reduceLT, Int.reduceLE, Nat.one_mul, Nat.mul_one, load_w, load_a, store_b, idxS_b, set_blk, new_blk, set_next, new_next, len_s, ldW_c, ldA_c, stB_c, toArr_one, size_one, toList_toArr, size_toArr, List.length_cons, List.length_nil, List.getElem?_cons_zero, List.getElem?_cons_succ, Nat.zero_add, Nat.add_zero]
  have hx : Ext m (m.new (.cells [.int .i64 k, .int .i64 c] (some 2))) := Ext.new
  have hb0 : (m.new (.cells [.int .i64 k, .int .i64 c] (some 2))).blk m.next = some (.cells [.int .i64 k, .int .i64 c] (some 2)) := by simp [Mem.new]
  have hn0 : m.next < (m.new (.cells [.int .i64 k, .int .i64 c] (some 2))).next := by simp [Mem.new]
  have h1 := h.keep hx
  have hv1 := hv.keep hx
  have q0 : m.next ≠ b := Nat.ne_of_gt h.2.2.2.1
  have q1 : m.next ≠ bl := Nat.ne_of_gt h.2.2.2.2
  generalize m.new (.cells [.int .i64 k, .int .i64 c] (some 2)) = m1 at *
  have hf : ∀ x ∈ [b, bl], x < m1.next := by
    intro x hx; simp only [List.mem_cons, List.not_mem_nil, or_false] at hx
    rcases hx with rfl | rfl
    · exact h1.2.2.2.1
    · exact h1.2.2.2.2
  have one : ∀ {m2 m3 : Mem}, Ext m1 m2 → Upd m2 m3 [bl] → Upd m m3 [b, bl] := fun r2 o2 =>
    (hx.trans r2).upd.trans (o2.more (fq := [b, bl]) (by simp)) (fun _ h => h) (fun _ h => .inl h)
  by_cases c1 : k = 0 ∨ k = 1
  · have es : ∀ M, stp k c M = (chg M c 0 4).1 := fun M => by unfold stp; rw [if_pos c1]
    rcases c1 with rfl | rfl <;> simp only [go_sem, Int.reduceBEq, Int.reduceBNe, Int.reduceNeg, not_true_eq_false, beq_self_eq_true, bne_self_eq_false, Bool.false_eq_true, if_false, if_true, Int.cast_ofNat_Int, decide_true, decide_false, reduceCtorEq, Nat.reduceEqDiff, Nat.reduceAdd, ne_eq, not_false_eq_true, Option.map_some, Option.bind_some, Option.map_none, Option.bind_none, true_and, and_true, Bool.not_true, Bool.not_false, Nat.reduceLeDiff, Nat.reduceMul, Nat.reduceSub, Nat.le_refl, Int.reduceToNat, Int.reduceLT, Int.reduceLE, Nat.one_mul, Nat.mul_one, load_w, load_a, store_b, idxS_b, set_blk, new_blk, set_next, new_next, len_s, ldW_c, ldA_c, stB_c, toArr_one, size_one, toList_toArr, size_toArr, List.length_cons, List.length_nil, List.getElem?_cons_zero, List.getElem?_cons_succ, Nat.zero_add, Nat.add_zero, hb0]
    all_goals
      refine gC.of (RPlug_spec hv1 (by omega) hf) ?_
      rintro _ m2 ⟨v', rfl, r1, r2⟩
      have h2 := h1.keep r2
      have hb2 := r2.same _ hn0
      rw [hb0] at hb2
      simp only [go_sem, Int.reduceBEq, Int.reduceBNe, Int.reduceNeg, not_true_eq_false, beq_self_eq_true, bne_self_eq_false, Bool.false_eq_true, if_false, if_true, Int.cast_ofNat_Int, decide_true, decide_false, reduceCtorEq, Nat.reduceEqDiff, Nat.reduceAdd, ne_eq, not_false_eq_true, Option.map_some, Option.bind_some, Option.map_none, Option.bind_none, true_and, and_true, Bool.not_true, Bool.not_false, Nat.reduceLeDiff, Nat.reduceMul, Nat.reduceSub, Nat.le_refl, Int.reduceToNat, Int.reduceLT, Int.reduceLE, Nat.one_mul, Nat.mul_one, load_w, load_a, store_b, idxS_b, set_blk, new_blk, set_next, new_next, len_s, ldW_c, ldA_c, stB_c, toArr_one, size_one, toList_toArr, size_toArr, List.length_cons, List.length_nil, List.getElem?_cons_zero, List.getElem?_cons_succ, Nat.zero_add, Nat.add_zero, hb2]
      refine gC.of (Plug_spec h2 h16 hne) ?_
      rintro _ m3 ⟨rfl, o1, o2⟩
      simp only [go_sem, Int.reduceBEq, Int.reduceBNe, Int.reduceNeg, not_true_eq_false, beq_self_eq_true, bne_self_eq_false, Bool.false_eq_true, if_false, if_true, Int.cast_ofNat_Int, decide_true, decide_false, reduceCtorEq, Nat.reduceEqDiff, Nat.reduceAdd, ne_eq, not_false_eq_true, Option.map_some, Option.bind_some, Option.map_none, Option.bind_none, true_and, and_true, Bool.not_true, Bool.not_false, Nat.reduceLeDiff, Nat.reduceMul, Nat.reduceSub, Nat.le_refl, Int.reduceToNat, Int.reduceLT, Int.reduceLE, Nat.one_mul, Nat.mul_one]
      exact ⟨b, bl, v', _, rfl, by rw [es]; exact o1, by rw [es]; exact r1.upd (o2.more (by simp)), fun e => by rw [e]; exact beq_self_eq_true _, one r2 o2, .inl ⟨rfl, rfl⟩⟩
  have n0 : (k == 0) = false := by rw [beq_eq_false_iff_ne]; omega
  have n1 : (k == 1) = false := by rw [beq_eq_false_iff_ne]; omega
  by_cases c2 : k = 2 ∨ k = 3
  · have es : ∀ M, stp k c M = (chg M c 1 2).1 := fun M => by unfold stp; rw [if_neg c1, if_pos c2]
    rcases c2 with rfl | rfl <;> simp only [go_sem, Int.reduceBEq, Int.reduceBNe, Int.reduceNeg, not_true_eq_false, beq_self_eq_true, bne_self_eq_false, Bool.false_eq_true, if_false, if_true, Int.cast_ofNat_Int, decide_true, decide_false, reduceCtorEq, Nat.reduceEqDiff, Nat.reduceAdd, ne_eq, not_false_eq_true, Option.map_some, Option.bind_some, Option.map_none, Option.bind_none, true_and, and_true, Bool.not_true, Bool.not_false, Nat.reduceLeDiff, Nat.reduceMul, Nat.reduceSub, Nat.le_refl, Int.reduceToNat, Int.reduceLT, Int.reduceLE, Nat.one_mul, Nat.mul_one, load_w, load_a, store_b, idxS_b, set_blk, new_blk, set_next, new_next, len_s, ldW_c, ldA_c, stB_c, toArr_one, size_one, toList_toArr, size_toArr, List.length_cons, List.length_nil, List.getElem?_cons_zero, List.getElem?_cons_succ, Nat.zero_add, Nat.add_zero, hb0]
    all_goals
      refine gC.of (RUnplug_spec hv1 (by omega) hf) ?_
      rintro _ m2 ⟨v', rfl, r1, r2⟩
      have h2 := h1.keep r2
      have hb2 := r2.same _ hn0
      rw [hb0] at hb2
      simp only [go_sem, Int.reduceBEq, Int.reduceBNe, Int.reduceNeg, not_true_eq_false, beq_self_eq_true, bne_self_eq_false, Bool.false_eq_true, if_false, if_true, Int.cast_ofNat_Int, decide_true, decide_false, reduceCtorEq, Nat.reduceEqDiff, Nat.reduceAdd, ne_eq, not_false_eq_true, Option.map_some, Option.bind_some, Option.map_none, Option.bind_none, true_and, and_true, Bool.not_true, Bool.not_false, Nat.reduceLeDiff, Nat.reduceMul, Nat.reduceSub, Nat.le_refl, Int.reduceToNat, Int.reduceLT, Int.reduceLE, Nat.one_mul, Nat.mul_one, load_w, load_a, store_b, idxS_b, set_blk, new_blk, set_next, new_next, len_s, ldW_c, ldA_c, stB_c, toArr_one, size_one, toList_toArr, size_toArr, List.length_cons, List.length_nil, List.getElem?_cons_zero, List.getElem?_cons_succ, Nat.zero_add, Nat.add_zero, hb2]
      refine gC.of (Unplug_spec h2 h16 hne) ?_
      rintro _ m3 ⟨rfl, o1, o2⟩
      simp only [go_sem, Int.reduceBEq, Int.reduceBNe, Int.reduceNeg, not_true_eq_false, beq_self_eq_true, bne_self_eq_false, Bool.false_eq_true, if_false, if_true, Int.cast_ofNat_Int, decide_true, decide_false, reduceCtorEq, Nat.reduceEqDiff, Nat.reduceAdd, ne_eq, not_false_eq_true, Option.map_some, Option.bind_some, Option.map_none, Option.bind_none, true_and, and_true, Bool.not_true, Bool.not_false, Nat.reduceLeDiff, Nat.reduceMul, Nat.reduceSub, Nat.le_refl, Int.reduceToNat, Int.reduceLT, Int.reduceLE, Nat.one_mul, Nat.mul_one]
      exact ⟨b, bl, v', _, rfl, by rw [es]; exact o1, by rw [es]; exact r1.upd (o2.more (by simp)), fun e => by rw [e]; exact beq_self_eq_true _, one r2 o2, .inl ⟨rfl, rfl⟩⟩
  have n2 : (k == 2) = false := by rw [beq_eq_false_iff_ne]; omega
  have n3 : (k == 3) = false := by rw [beq_eq_false_iff_ne]; omega
  by_cases c3 : k = 4 ∨ k = 5
  · have es : ∀ M, stp k c M = M.map turnC := fun M => by unfold stp; rw [if_neg c1, if_neg c2, if_pos c3]
    rcases c3 with rfl | rfl <;> simp only [go_sem, Int.reduceBEq, Int.reduceBNe, Int.reduceNeg, not_true_eq_false, beq_self_eq_true, bne_self_eq_false, Bool.false_eq_true, if_false, if_true, Int.cast_ofNat_Int, decide_true, decide_false, reduceCtorEq, Nat.reduceEqDiff, Nat.reduceAdd, ne_eq, not_false_eq_true, Option.map_some, Option.bind_some, Option.map_none, Option.bind_none, true_and, and_true, Bool.not_true, Bool.not_false, Nat.reduceLeDiff, Nat.reduceMul, Nat.reduceSub, Nat.le_refl, Int.reduceToNat, Int.reduceLT, Int.reduceLE, Nat.one_mul, Nat.mul_one, load_w, load_a, store_b, idxS_b, set_blk, new_blk, set_next, new_next, len_s, ldW_c, ldA_c, stB_c, toArr_one, size_one, toList_toArr, size_toArr, List.length_cons, List.length_nil, List.getElem?_cons_zero, List.getElem?_cons_succ, Nat.zero_add, Nat.add_zero, hb0]
    all_goals
      refine gC.of (Turn_spec h1 h16) ?_
      rintro _ m2 ⟨rfl, o1, o2⟩
      simp only [go_sem, Int.reduceBEq, Int.reduceBNe, Int.reduceNeg, not_true_eq_false, beq_self_eq_true, bne_self_eq_false, Bool.false_eq_true, if_false, if_true, Int.cast_ofNat_Int, decide_true, decide_false, reduceCtorEq, Nat.reduceEqDiff, Nat.reduceAdd, ne_eq, not_false_eq_true, Option.map_some, Option.bind_some, Option.map_none, Option.bind_none, true_and, and_true, Bool.not_true, Bool.not_false, Nat.reduceLeDiff, Nat.reduceMul, Nat.reduceSub, Nat.le_refl, Int.reduceToNat, Int.reduceLT, Int.reduceLE, Nat.one_mul, Nat.mul_one]
      have hv2 := hv1.upd (o2.more (fq := [b, bl]) (by simp))
      have hf2 : ∀ x ∈ [b, bl], x < m2.next := fun x hx => Nat.lt_of_lt_of_le (hf x hx) o2.next
      refine gC.of (RTurn_spec hv2 (by omega)) ?_
      rintro w m3 ⟨r1, r2⟩
      have hv3 := hv2.keep r2
      simp only [go_sem, Int.reduceBEq, Int.reduceBNe, Int.reduceNeg, not_true_eq_false, beq_self_eq_true, bne_self_eq_false, Bool.false_eq_true, if_false, if_true, Int.cast_ofNat_Int, decide_true, decide_false, reduceCtorEq, Nat.reduceEqDiff, Nat.reduceAdd, ne_eq, not_false_eq_true, Option.map_some, Option.bind_some, Option.map_none, Option.bind_none, true_and, and_true, Bool.not_true, Bool.not_false, Nat.reduceLeDiff, Nat.reduceMul, Nat.reduceSub, Nat.le_refl, Int.reduceToNat, Int.reduceLT, Int.reduceLE, Nat.one_mul, Nat.mul_one]
      refine gC.of (RBits_spec hv3.1 (by omega)) ?_
      rintro _ m_ ⟨rfl, hm_⟩
      replace hm_ := hm_.symm
      subst hm_
      simp only [go_sem, Int.reduceBEq, Int.reduceBNe, Int.reduceNeg, not_true_eq_false, beq_self_eq_true, bne_self_eq_false, Bool.false_eq_true, if_false, if_true, Int.cast_ofNat_Int, decide_true, decide_false, reduceCtorEq, Nat.reduceEqDiff, Nat.reduceAdd, ne_eq, not_false_eq_true, Option.map_some, Option.bind_some, Option.map_none, Option.bind_none, true_and, and_true, Bool.not_true, Bool.not_false, Nat.reduceLeDiff, Nat.reduceMul, Nat.reduceSub, Nat.le_refl, Int.reduceToNat, Int.reduceLT, Int.reduceLE, Nat.one_mul, Nat.mul_one]
      have fin : ∀ kk : Int, (∀ M, stp kk c M = M.map turnC) → ∀ ok : Bool, (L = K → ok = true) → ∃ b' bl' v' ok', Post m m3 b bl L K kk c (.tuple #[pt b, w, .bool ok]) b' bl' v' ok' := by
        intro kk es ok hok
        refine ⟨b, bl, w, ok, rfl, by rw [es]; exact o1.keep r2, ?_, hok, ?_, .inl ⟨rfl, rfl⟩⟩
        · rw [es]
          have : K.length = (K.map turnC).length := by simp
          rw [this] at r1
          exact RL.own r1 hf2
        · exact (hx.upd.trans (o2.more (fq := [b, bl]) (by simp)) (fun _ h => h) (fun _ h => .inl h)).trans r2.upd (fun _ h => h) (fun _ h => .inl h)
      refine gT.of (fun t => ?_) (fun t => ?_)
      · simp only [go_sem, Int.reduceBEq, Int.reduceBNe, Int.reduceNeg, not_true_eq_false, beq_self_eq_true, bne_self_eq_false, Bool.false_eq_true, if_false, if_true, Int.cast_ofNat_Int, decide_true, decide_false, reduceCtorEq, Nat.reduceEqDiff, Nat.reduceAdd, ne_eq, not_false_eq_true, Option.map_some, Option.bind_some, Option.map_none, Option.bind_none, true_and, and_true, Bool.not_true, Bool.not_false, Nat.reduceLeDiff, Nat.reduceMul, Nat.reduceSub, Nat.le_refl, Int.reduceToNat, Int.reduceLT, Int.reduceLE, Nat.one_mul, Nat.mul_one, t]
        refine gC.of (RBits_spec hv3.1 (by omega)) ?_
        rintro _ m_ ⟨rfl, hm_⟩
        replace hm_ := hm_.symm
        subst hm_
        simp only [go_sem, Int.reduceBEq, Int.reduceBNe, Int.reduceNeg, not_true_eq_false, beq_self_eq_true, bne_self_eq_false, Bool.false_eq_true, if_false, if_true, Int.cast_ofNat_Int, decide_true, decide_false, reduceCtorEq, Nat.reduceEqDiff, Nat.reduceAdd, ne_eq, not_false_eq_true, Option.map_some, Option.bind_some, Option.map_none, Option.bind_none, true_and, and_true, Bool.not_true, Bool.not_false, Nat.reduceLeDiff, Nat.reduceMul, Nat.reduceSub, Nat.le_refl, Int.reduceToNat, Int.reduceLT, Int.reduceLE, Nat.one_mul, Nat.mul_one]
        exact fin _ es _ fun e => by rw [e]; simp
      · simp only [go_sem, Int.reduceBEq, Int.reduceBNe, Int.reduceNeg, not_true_eq_false, beq_self_eq_true, bne_self_eq_false, Bool.false_eq_true, if_false, if_true, Int.cast_ofNat_Int, decide_true, decide_false, reduceCtorEq, Nat.reduceEqDiff, Nat.reduceAdd, ne_eq, not_false_eq_true, Option.map_some, Option.bind_some, Option.map_none, Option.bind_none, true_and, and_true, Bool.not_true, Bool.not_false, Nat.reduceLeDiff, Nat.reduceMul, Nat.reduceSub, Nat.le_refl, Int.reduceToNat, Int.reduceLT, Int.reduceLE, Nat.one_mul, Nat.mul_one, t]
        exact fin _ es _ fun e => by rw [e] at t; simp at t
  have n4 : (k == 4) = false := by rw [beq_eq_false_iff_ne]; omega
  have n5 : (k == 5) = false := by rw [beq_eq_false_iff_ne]; omega
  have es : ∀ M, stp k c M = M := fun M => by unfold stp; rw [if_neg c1, if_neg c2, if_neg c3]
  by_cases c4 : k = 6
  · subst c4
    simp only [go_sem, Int.reduceBEq, Int.reduceBNe, Int.reduceNeg, not_true_eq_false, beq_self_eq_true, bne_self_eq_false, Bool.false_eq_true, if_false, if_true, Int.cast_ofNat_Int, decide_true, decide_false, reduceCtorEq, Nat.reduceEqDiff, Nat.reduceAdd, ne_eq, not_false_eq_true, Option.map_some, Option.bind_some, Option.map_none, Option.bind_none, true_and, and_true, Bool.not_true, Bool.not_false, Nat.reduceLeDiff, Nat.reduceMul, Nat.reduceSub, Nat.le_refl, Int.reduceToNat, Int.reduceLT, Int.reduceLE, Nat.one_mul, Nat.mul_one, load_w, load_a, store_b, idxS_b, set_blk, new_blk, set_next, new_next, len_s, ldW_c, ldA_c, stB_c, toArr_one, size_one, toList_toArr, size_toArr, List.length_cons, List.length_nil, List.getElem?_cons_zero, List.getElem?_cons_succ, Nat.zero_add, Nat.add_zero, hb0]
    refine gC.of (Fork_spec h1 h16 hne) ?_
    rintro _ m2 ⟨d, dl, rfl, f1, f2, f3, f4⟩
    have h2 := h1.keep f4
    have hb2 := f4.same _ hn0
    rw [hb0] at hb2
    have nb : b < m1.next := h1.2.2.2.1
    have nbl : bl < m1.next := h1.2.2.2.2
    simp only [go_sem, Int.reduceBEq, Int.reduceBNe, Int.reduceNeg, not_true_eq_false, beq_self_eq_true, bne_self_eq_false, Bool.false_eq_true, if_false, if_true, Int.cast_ofNat_Int, decide_true, decide_false, reduceCtorEq, Nat.reduceEqDiff, Nat.reduceAdd, ne_eq, not_false_eq_true, Option.map_some, Option.bind_some, Option.map_none, Option.bind_none, true_and, and_true, Bool.not_true, Bool.not_false, Nat.reduceLeDiff, Nat.reduceMul, Nat.reduceSub, Nat.le_refl, Int.reduceToNat, Int.reduceLT, Int.reduceLE, Nat.one_mul, Nat.mul_one, load_w, load_a, store_b, idxS_b, set_blk, new_blk, set_next, new_next, len_s, ldW_c, ldA_c, stB_c, toArr_one, size_one, toList_toArr, size_toArr, List.length_cons, List.length_nil, List.getElem?_cons_zero, List.getElem?_cons_succ, Nat.zero_add, Nat.add_zero, hb2]
    refine gC.of (Unplug_spec h2 h16 hne) ?_
    rintro _ m3 ⟨rfl, o1, o2⟩
    simp only [go_sem, Int.reduceBEq, Int.reduceBNe, Int.reduceNeg, not_true_eq_false, beq_self_eq_true, bne_self_eq_false, Bool.false_eq_true, if_false, if_true, Int.cast_ofNat_Int, decide_true, decide_false, reduceCtorEq, Nat.reduceEqDiff, Nat.reduceAdd, ne_eq, not_false_eq_true, Option.map_some, Option.bind_some, Option.map_none, Option.bind_none, true_and, and_true, Bool.not_true, Bool.not_false, Nat.reduceLeDiff, Nat.reduceMul, Nat.reduceSub, Nat.le_refl, Int.reduceToNat, Int.reduceLT, Int.reduceLE, Nat.one_mul, Nat.mul_one]
    refine gC.of (Turn_spec o1 (by rw [chg_len]; exact h16)) ?_
    rintro _ m4 ⟨rfl, o3, o4⟩
    simp only [pt, go_sem, Int.reduceBEq, Int.reduceBNe, Int.reduceNeg, not_true_eq_false, beq_self_eq_true, bne_self_eq_false, Bool.false_eq_true, if_false, if_true, Int.cast_ofNat_Int, decide_true, decide_false, reduceCtorEq, Nat.reduceEqDiff, Nat.reduceAdd, ne_eq, not_false_eq_true, Option.map_some, Option.bind_some, Option.map_none, Option.bind_none, true_and, and_true, Bool.not_true, Bool.not_false, Nat.reduceLeDiff, Nat.reduceMul, Nat.reduceSub, Nat.le_refl, Int.reduceToNat, Int.reduceLT, Int.reduceLE, Nat.one_mul, Nat.mul_one]
    have u : Upd m2 m4 [bl] := o2.trans o4 (fun _ h => h) (fun _ h => .inl h)
    refine ⟨d, dl, v, true, rfl, by rw [es]; exact f1.keep' u (by simp; omega) (by simp; omega), ?_, fun _ => rfl, one f4 u, .inr ⟨?_, ?_⟩⟩
    · rw [es]
      have r := (hv1.keep f4).upd (u.more (fq := [b, bl]) (by simp))
      refine ⟨r.1, r.2.1, ?_⟩
      have hlt := hv1.2.1
      unfold SlLt at hlt; unfold SlOff
      split
      · intro hm
        simp only [List.mem_cons, List.not_mem_nil, or_false] at hm
        simp only at hlt
        rcases hm with e | e <;> omega
      · trivial
    · have := hx.next; omega
    · have := hx.next; omega
  · have n6 : (k == 6) = false := by rw [beq_eq_false_iff_ne]; omega
    simp only [go_sem, Int.reduceBEq, Int.reduceBNe, Int.reduceNeg, not_true_eq_false, beq_self_eq_true, bne_self_eq_false, Bool.false_eq_true, if_false, if_true, Int.cast_ofNat_Int, decide_true, decide_false, reduceCtorEq, Nat.reduceEqDiff, Nat.reduceAdd, ne_eq, not_false_eq_true, Option.map_some, Option.bind_some, Option.map_none, Option.bind_none, true_and, and_true, Bool.not_true, Bool.not_false, Nat.reduceLeDiff, Nat.reduceMul, Nat.reduceSub, Nat.le_refl, Int.reduceToNat, Int.reduceLT, Int.reduceLE, Nat.one_mul, Nat.mul_one, n0, n1, n2, n3, n4, n5, n6]
    exact ⟨b, bl, v, true, rfl, by rw [es]; exact h1, by rw [es]; exact hv1, fun _ => rfl, hx.upd, .inl ⟨rfl, rfl⟩⟩
end Go.Am


/- The law CoresNever. -/
set_option linter.unusedVariables false
set_option linter.unusedSimpArgs false
namespace Go.Am
variable {m : Mem}

theorem watch_nil {e : Env} {m m' : Mem} : watchOk e m m' [] = True := rfl
theorem watch_one {e : Env} {m m' : Mem} {x : Nat} {r : List Nat} : watchOk e m m' (x :: r) = ((match Env.get e x with | some v => (match blkOf v with | some b => m'.blk b = m.blk b | none => True) | none => False) ∧ watchOk e m m' r) := rfl
theorem blk_ptr {a : Addr} : blkOf (.pointer (some a)) = some a.block := rfl

def actV (a : Int × Int) : List Value := [.int .i64 a.1, .int .i64 a.2]
theorem actV_len (a : Int × Int) : (actV a).length = 2 := rfl

theorem onl_set {L : List Int} {i : Nat} (h : i < L.length) (x : Int) : onl (L.set i x) = onl L - (if L[i] = 1 then 1 else 0) + (if x = 1 then 1 else 0) := by
  unfold onl; rw [List.countP_set h]; simp

theorem onl_pos {L : List Int} {i : Nat} (h : i < L.length) (he : L[i] = 1) : 1 ≤ onl L := by
  unfold onl
  exact List.countP_pos_iff.2 ⟨L[i], List.getElem_mem h, by simp [he]⟩

theorem onl_stp {L : List Int} {k c : Int} (h : 1 ≤ onl L) : 1 ≤ onl (stp k c L) := by
  have hc : ∀ f t, t ≠ 1 → (f = 1 → t = 2) → 1 ≤ onl (chg L c f t).1 := by
    intro f t h1 h2
    unfold chg
    split
    · rename_i hc
      split
      · rename_i hf
        split
        · exact h
        · rename_i hn
          simp only
          rw [onl_set hc.2, if_neg h1]
          by_cases f1 : f = 1
          · have := h2 f1
            have : onl L ≠ 1 := fun e => hn ⟨this, e⟩
            split <;> omega
          · rw [if_neg (by rw [hf]; exact f1)]; omega
      · exact h
    · exact h
  unfold stp
  split
  · exact hc 0 4 (by decide) (by decide)
  · split
    · exact hc 1 2 (by decide) (by decide)
    · split
      · unfold onl at h ⊢
        rw [List.countP_map]
        refine Nat.le_trans h (List.countP_mono_left fun x _ hx => ?_)
        simp at hx; subst hx; decide
      · exact h

theorem onl_one {n : Nat} : onl (List.replicate n 1) = n := by unfold onl; rw [List.countP_replicate]; simp

set_option maxHeartbeats 2000000 in
theorem CoresNever_spec {n : Int} {l : List (Int × Int)} {lv : Value} (hs : Sl m 2 l.length (l.flatMap actV) lv) (hb : SlLt m lv) : WC R F.law27_CoresNever [.int .i64 n, lv] m fun v m' => v = .bool true := by
  refine WC.of R.law27_CoresNever rfl ?_
  simp only [RC.law27_CoresNever, go_sem, Int.reduceBEq, Int.reduceBNe, Int.reduceNeg, not_true_eq_false, beq_self_eq_true, bne_self_eq_false, Bool.false_eq_true, if_false, if_true, Int.cast_ofNat_Int, decide_true, decide_false, reduceCtorEq, Nat.reduceEqDiff, Nat.reduceAdd, ne_eq, not_false_eq_true, Option.map_some, Option.bind_some, Option.map_none, Option.bind_none, true_and, and_true, Bool.not_true, Bool.not_false, Nat.reduceLeDiff, Nat.reduceMul, Nat.reduceSub, Nat.le_refl, Int.reduceToNat, Int.reduceLT, Int.reduceLE, Nat.one_mul, Nat.mul_one]
  refine gC.of New_spec ?_
  rintro _ m1 (⟨hn, rfl, rfl⟩ | ⟨k, c, cl, rfl, h1, h16, rfl, hc, hc1, hc2, hx⟩)
  · simp only [go_sem, Int.reduceBEq, Int.reduceBNe, Int.reduceNeg, not_true_eq_false, beq_self_eq_true, bne_self_eq_false, Bool.false_eq_true, if_false, if_true, Int.cast_ofNat_Int, decide_true, decide_false, reduceCtorEq, Nat.reduceEqDiff, Nat.reduceAdd, ne_eq, not_false_eq_true, Option.map_some, Option.bind_some, Option.map_none, Option.bind_none, true_and, and_true, Bool.not_true, Bool.not_false, Nat.reduceLeDiff, Nat.reduceMul, Nat.reduceSub, Nat.le_refl, Int.reduceToNat, Int.reduceLT, Int.reduceLE, Nat.one_mul, Nat.mul_one, Option.isNone_none]
    refine gT.of (fun h1 => ?_) (fun h1 => ?_)
    · simp only [go_sem, Int.reduceBEq, Int.reduceBNe, Int.reduceNeg, not_true_eq_false, beq_self_eq_true, bne_self_eq_false, Bool.false_eq_true, if_false, if_true, Int.cast_ofNat_Int, decide_true, decide_false, reduceCtorEq, Nat.reduceEqDiff, Nat.reduceAdd, ne_eq, not_false_eq_true, Option.map_some, Option.bind_some, Option.map_none, Option.bind_none, true_and, and_true, Bool.not_true, Bool.not_false, Nat.reduceLeDiff, Nat.reduceMul, Nat.reduceSub, Nat.le_refl, Int.reduceToNat, Int.reduceLT, Int.reduceLE, Nat.one_mul, Nat.mul_one, h1]
      refine gC.of (ok_spec R.law27_awake) ?_
      rintro _ m_ ⟨rfl, hm_⟩
      replace hm_ := hm_.symm
      subst hm_
      simp only [go_sem, Int.reduceBEq, Int.reduceBNe, Int.reduceNeg, not_true_eq_false, beq_self_eq_true, bne_self_eq_false, Bool.false_eq_true, if_false, if_true, Int.cast_ofNat_Int, decide_true, decide_false, reduceCtorEq, Nat.reduceEqDiff, Nat.reduceAdd, ne_eq, not_false_eq_true, Option.map_some, Option.bind_some, Option.map_none, Option.bind_none, true_and, and_true, Bool.not_true, Bool.not_false, Nat.reduceLeDiff, Nat.reduceMul, Nat.reduceSub, Nat.le_refl, Int.reduceToNat, Int.reduceLT, Int.reduceLE, Nat.one_mul, Nat.mul_one]
    · simp only [decide_eq_false_iff_not] at h1
      have : 16 < n := by omega
      simp only [go_sem, Int.reduceBEq, Int.reduceBNe, Int.reduceNeg, not_true_eq_false, beq_self_eq_true, bne_self_eq_false, Bool.false_eq_true, if_false, if_true, Int.cast_ofNat_Int, decide_true, decide_false, reduceCtorEq, Nat.reduceEqDiff, Nat.reduceAdd, ne_eq, not_false_eq_true, Option.map_some, Option.bind_some, Option.map_none, Option.bind_none, true_and, and_true, Bool.not_true, Bool.not_false, Nat.reduceLeDiff, Nat.reduceMul, Nat.reduceSub, Nat.le_refl, Int.reduceToNat, Int.reduceLT, Int.reduceLE, Nat.one_mul, Nat.mul_one, this, h1]
      refine gC.of (ok_spec R.law27_awake) ?_
      rintro _ m_ ⟨rfl, hm_⟩
      replace hm_ := hm_.symm
      subst hm_
      simp only [go_sem, Int.reduceBEq, Int.reduceBNe, Int.reduceNeg, not_true_eq_false, beq_self_eq_true, bne_self_eq_false, Bool.false_eq_true, if_false, if_true, Int.cast_ofNat_Int, decide_true, decide_false, reduceCtorEq, Nat.reduceEqDiff, Nat.reduceAdd, ne_eq, not_false_eq_true, Option.map_some, Option.bind_some, Option.map_none, Option.bind_none, true_and, and_true, Bool.not_true, Bool.not_false, Nat.reduceLeDiff, Nat.reduceMul, Nat.reduceSub, Nat.le_refl, Int.reduceToNat, Int.reduceLT, Int.reduceLE, Nat.one_mul, Nat.mul_one]
  simp only [pt, go_sem, Int.reduceBEq, Int.reduceBNe, Int.reduceNeg, not_true_eq_false, beq_self_eq_true, bne_self_eq_false, Bool.false_eq_true, if_false, if_true, Int.cast_ofNat_Int, decide_true, decide_false, reduceCtorEq, Nat.reduceEqDiff, Nat.reduceAdd, ne_eq, not_false_eq_true, Option.map_some, Option.bind_some, Option.map_none, Option.bind_none, true_and, and_true, Bool.not_true, Bool.not_false, Nat.reduceLeDiff, Nat.reduceMul, Nat.reduceSub, Nat.le_refl, Int.reduceToNat, Int.reduceLT, Int.reduceLE, Nat.one_mul, Nat.mul_one]
  refine WL.of (fun r e m' => ∃ (i b bl : Nat) (L : List Int), i ≤ l.length ∧ r = l.length - i ∧ e = [(0, .int .i64 k), (1, lv), (5, pt b), (7, .int .i64 i)] ∧ CS m' b bl L ∧ L.length = k ∧ 1 ≤ onl L ∧ m.next ≤ b ∧ m.next ≤ bl ∧ Ext m m') l.length
    ⟨0, c, cl, _, by omega, by omega, by simp only [pt, go_sem, Int.reduceBEq, Int.reduceBNe, Int.reduceNeg, not_true_eq_false, beq_self_eq_true, bne_self_eq_false, Bool.false_eq_true, if_false, if_true, Int.cast_ofNat_Int, decide_true, decide_false, reduceCtorEq, Nat.reduceEqDiff, Nat.reduceAdd, ne_eq, not_false_eq_true, Option.map_some, Option.bind_some, Option.map_none, Option.bind_none, true_and, and_true, Bool.not_true, Bool.not_false, Nat.reduceLeDiff, Nat.reduceMul, Nat.reduceSub, Nat.le_refl, Int.reduceToNat, Int.reduceLT, Int.reduceLE, Nat.one_mul, Nat.mul_one] <;> rfl, hc, by simp, by rw [onl_one]; exact h1, hc1, hc2, hx⟩ ?_
  rintro _ _ m2 ⟨i, b, bl, L, hi, rfl, rfl, hcs, hL, ho, hb1, hb2, hx2⟩
  have hs2 := hs.keep hb hx2
  simp only [go_sem, Int.reduceBEq, Int.reduceBNe, Int.reduceNeg, not_true_eq_false, beq_self_eq_true, bne_self_eq_false, Bool.false_eq_true, if_false, if_true, Int.cast_ofNat_Int, decide_true, decide_false, reduceCtorEq, Nat.reduceEqDiff, Nat.reduceAdd, ne_eq, not_false_eq_true, Option.map_some, Option.bind_some, Option.map_none, Option.bind_none, true_and, and_true, Bool.not_true, Bool.not_false, Nat.reduceLeDiff, Nat.reduceMul, Nat.reduceSub, Nat.le_refl, Int.reduceToNat, Int.reduceLT, Int.reduceLE, Nat.one_mul, Nat.mul_one, hs2.len]
  have e1 : i < 1000000 → IntKind.wrap .i64 ((i : Int) + 1) = ((i + 1 : Nat) : Int) := fun _ => by rw [wrap_i64 (by omega) (by omega)]; rfl
  refine gT.of (fun q1 => ?_) (fun q1 => ?_)
  · simp only [go_sem, Int.reduceBEq, Int.reduceBNe, Int.reduceNeg, not_true_eq_false, beq_self_eq_true, bne_self_eq_false, Bool.false_eq_true, if_false, if_true, Int.cast_ofNat_Int, decide_true, decide_false, reduceCtorEq, Nat.reduceEqDiff, Nat.reduceAdd, ne_eq, not_false_eq_true, Option.map_some, Option.bind_some, Option.map_none, Option.bind_none, true_and, and_true, Bool.not_true, Bool.not_false, Nat.reduceLeDiff, Nat.reduceMul, Nat.reduceSub, Nat.le_refl, Int.reduceToNat, Int.reduceLT, Int.reduceLE, Nat.one_mul, Nat.mul_one, q1]
    simp only [decide_eq_true_eq] at q1
    have hil : i < l.length := by omega
    refine gT.of (fun q2 => ?_) (fun q2 => ?_)
    · simp only [decide_eq_true_eq] at q2
      obtain ⟨eb, eo, a1, a2, -, a4⟩ := hs2.elem actV_len (k := .i64) hil
      have hlt := a4 (hb.keep hx2)
      have hne : L ≠ [] := by intro e; subst e; simp at hL; omega
      simp only [go_sem, Int.reduceBEq, Int.reduceBNe, Int.reduceNeg, not_true_eq_false, beq_self_eq_true, bne_self_eq_false, Bool.false_eq_true, if_false, if_true, Int.cast_ofNat_Int, decide_true, decide_false, reduceCtorEq, Nat.reduceEqDiff, Nat.reduceAdd, ne_eq, not_false_eq_true, Option.map_some, Option.bind_some, Option.map_none, Option.bind_none, true_and, and_true, Bool.not_true, Bool.not_false, Nat.reduceLeDiff, Nat.reduceMul, Nat.reduceSub, Nat.le_refl, Int.reduceToNat, Int.reduceLT, Int.reduceLE, Nat.one_mul, Nat.mul_one, a1, a2]
      refine gC.of (RNew_spec h16) ?_
      rintro w m3 ⟨w1, w2⟩
      have hcs3 := hcs.keep w2
      have hf2 : ∀ x ∈ [b, bl], x < m2.next := by
        intro x hx; simp only [List.mem_cons, List.not_mem_nil, or_false] at hx
        rcases hx with rfl | rfl
        · exact hcs.2.2.2.1
        · exact hcs.2.2.2.2
      have hw : RL [b, bl] m3 (List.replicate k 1) w := RL.own (by rw [List.length_replicate]; exact w1) hf2
      simp only [go_sem, Int.reduceBEq, Int.reduceBNe, Int.reduceNeg, not_true_eq_false, beq_self_eq_true, bne_self_eq_false, Bool.false_eq_true, if_false, if_true, Int.cast_ofNat_Int, decide_true, decide_false, reduceCtorEq, Nat.reduceEqDiff, Nat.reduceAdd, ne_eq, not_false_eq_true, Option.map_some, Option.bind_some, Option.map_none, Option.bind_none, true_and, and_true, Bool.not_true, Bool.not_false, Nat.reduceLeDiff, Nat.reduceMul, Nat.reduceSub, Nat.le_refl, Int.reduceToNat, Int.reduceLT, Int.reduceLE, Nat.one_mul, Nat.mul_one, w2.same _ hlt, watch_one, watch_nil, blk_ptr, a2]
      show gC R F.law27_step [pt b, w, .agg #[.int .i64 l[i].1, .int .i64 l[i].2]] m3 _
      refine gC.of (step_spec hcs3 hw (by omega) (by simp; omega) hne) ?_
      rintro r m4 ⟨b', bl', v', ok, P⟩
      obtain ⟨rfl, P1, P2, P3, P4, P5⟩ := P
      have hL' : (stp l[i].1 l[i].2 L).length = k := by rw [stp_len, hL]
      have ho' := onl_stp (k := l[i].1) (c := l[i].2) ho
      have hx4 : Ext m m4 := Upd.ext_of (hx2.trans w2) P4 (by
        intro x hx; simp only [List.mem_cons, List.not_mem_nil, or_false] at hx
        rcases hx with rfl | rfl <;> assumption)
      have hn4 : m.next ≤ b' ∧ m.next ≤ bl' := by
        have := (hx2.trans w2).next
        rcases P5 with ⟨rfl, rfl⟩ | ⟨p1, p2⟩
        · exact ⟨hb1, hb2⟩
        · omega
      generalize stp l[i].1 l[i].2 L = L' at *
      have hs5 : Sl (m4.new (.cells [.int .i64 1] (some 1))) 1 [(1 : Int)].length (intsZ [1]) (.slice (some ⟨m4.next, 0, none⟩) 1 1) := Sl.fresh rfl
      have hk := P1.keep (m' := m4.new (.cells [.int .i64 1] (some 1))) Ext.new
      simp only [pt, go_sem, Int.reduceBEq, Int.reduceBNe, Int.reduceNeg, not_true_eq_false, beq_self_eq_true, bne_self_eq_false, Bool.false_eq_true, if_false, if_true, Int.cast_ofNat_Int, decide_true, decide_false, reduceCtorEq, Nat.reduceEqDiff, Nat.reduceAdd, ne_eq, not_false_eq_true, Option.map_some, Option.bind_some, Option.map_none, Option.bind_none, true_and, and_true, Bool.not_true, Bool.not_false, Nat.reduceLeDiff, Nat.reduceMul, Nat.reduceSub, Nat.le_refl, Int.reduceToNat, Int.reduceLT, Int.reduceLE, Nat.one_mul, Nat.mul_one]
      have hcnt : ¬ (((L'.countP fun x => decide (x ∈ [(1 : Int)]) : Nat) : Int) < 1) := by unfold onl at ho'; omega
      refine gC.of (Count_spec hk (by omega) hs5 (by decide)) ?_
      rintro _ _ ⟨rfl, rfl⟩
      simp only [go_sem, Int.reduceBEq, Int.reduceBNe, Int.reduceNeg, not_true_eq_false, beq_self_eq_true, bne_self_eq_false, Bool.false_eq_true, if_false, if_true, Int.cast_ofNat_Int, decide_true, decide_false, reduceCtorEq, Nat.reduceEqDiff, Nat.reduceAdd, ne_eq, not_false_eq_true, Option.map_some, Option.bind_some, Option.map_none, Option.bind_none, true_and, and_true, Bool.not_true, Bool.not_false, Nat.reduceLeDiff, Nat.reduceMul, Nat.reduceSub, Nat.le_refl, Int.reduceToNat, Int.reduceLT, Int.reduceLE, Nat.one_mul, Nat.mul_one, hcnt, e1 (by omega)]
      exact ⟨l.length - (i + 1), by omega, i + 1, b', bl', L', by omega, rfl, rfl, hk, hL', ho', hn4.1, hn4.2, hx4.trans Ext.new⟩
    · simp only [go_sem, Int.reduceBEq, Int.reduceBNe, Int.reduceNeg, not_true_eq_false, beq_self_eq_true, bne_self_eq_false, Bool.false_eq_true, if_false, if_true, Int.cast_ofNat_Int, decide_true, decide_false, reduceCtorEq, Nat.reduceEqDiff, Nat.reduceAdd, ne_eq, not_false_eq_true, Option.map_some, Option.bind_some, Option.map_none, Option.bind_none, true_and, and_true, Bool.not_true, Bool.not_false, Nat.reduceLeDiff, Nat.reduceMul, Nat.reduceSub, Nat.le_refl, Int.reduceToNat, Int.reduceLT, Int.reduceLE, Nat.one_mul, Nat.mul_one, q2]
      refine gC.of (ok_spec R.law27_awake) ?_
      rintro _ m_ ⟨rfl, hm_⟩
      replace hm_ := hm_.symm
      subst hm_
      simp only [go_sem, Int.reduceBEq, Int.reduceBNe, Int.reduceNeg, not_true_eq_false, beq_self_eq_true, bne_self_eq_false, Bool.false_eq_true, if_false, if_true, Int.cast_ofNat_Int, decide_true, decide_false, reduceCtorEq, Nat.reduceEqDiff, Nat.reduceAdd, ne_eq, not_false_eq_true, Option.map_some, Option.bind_some, Option.map_none, Option.bind_none, true_and, and_true, Bool.not_true, Bool.not_false, Nat.reduceLeDiff, Nat.reduceMul, Nat.reduceSub, Nat.le_refl, Int.reduceToNat, Int.reduceLT, Int.reduceLE, Nat.one_mul, Nat.mul_one]
  · simp only [go_sem, Int.reduceBEq, Int.reduceBNe, Int.reduceNeg, not_true_eq_false, beq_self_eq_true, bne_self_eq_false, Bool.false_eq_true, if_false, if_true, Int.cast_ofNat_Int, decide_true, decide_false, reduceCtorEq, Nat.reduceEqDiff, Nat.reduceAdd, ne_eq, not_false_eq_true, Option.map_some, Option.bind_some, Option.map_none, Option.bind_none, true_and, and_true, Bool.not_true, Bool.not_false, Nat.reduceLeDiff, Nat.reduceMul, Nat.reduceSub, Nat.le_refl, Int.reduceToNat, Int.reduceLT, Int.reduceLE, Nat.one_mul, Nat.mul_one, q1]
    refine gC.of (ok_spec R.law27_awake) ?_
    rintro _ m_ ⟨rfl, hm_⟩
    replace hm_ := hm_.symm
    subst hm_
    simp only [go_sem, Int.reduceBEq, Int.reduceBNe, Int.reduceNeg, not_true_eq_false, beq_self_eq_true, bne_self_eq_false, Bool.false_eq_true, if_false, if_true, Int.cast_ofNat_Int, decide_true, decide_false, reduceCtorEq, Nat.reduceEqDiff, Nat.reduceAdd, ne_eq, not_false_eq_true, Option.map_some, Option.bind_some, Option.map_none, Option.bind_none, true_and, and_true, Bool.not_true, Bool.not_false, Nat.reduceLeDiff, Nat.reduceMul, Nat.reduceSub, Nat.le_refl, Int.reduceToNat, Int.reduceLT, Int.reduceLE, Nat.one_mul, Nat.mul_one]

theorem acts_read {m : Mem} {v : Value} (h : Rd m (.sl [.int .i64, .int .i64]) v) : ∃ l : List (Int × Int), Sl m 2 l.length (l.flatMap actV) v ∧ SlLt m v := by
  obtain ⟨l, h1, h2, -⟩ := Rd.slice (f := actV) (fun cs hc => by
    obtain ⟨c, r, rfl, g1, g2⟩ := hc.one
    obtain ⟨d, r, rfl, g3, g4⟩ := g2.one
    cases g4.none
    obtain ⟨a, rfl, -⟩ := g1.i64
    obtain ⟨b, rfl, -⟩ := g3.i64
    exact ⟨(a, b), rfl⟩) h
  exact ⟨l, h1, h2⟩
end Go.Am


/- The law CoresPlay. -/
set_option linter.unusedVariables false
set_option linter.unusedSimpArgs false
namespace Go.Am
variable {m : Mem}

theorem mkN_bit {p : Int → Bool} : ∀ {L : List Int} {i : Nat}, (mkN p L).testBit i = ((L[i]?).map p).getD false
  | [], i => by simp [mkN]
  | a :: r, 0 => by
    simp only [mkN, Nat.testBit_zero, List.getElem?_cons_zero, Option.map_some, Option.getD_some]
    cases p a <;> simp <;> omega
  | a :: r, i + 1 => by
    rw [Nat.testBit_succ]
    have : mkN p (a :: r) / 2 = mkN p r := by simp only [mkN]; split <;> omega
    rw [this, mkN_bit, List.getElem?_cons_succ]

theorem mk_or2 {p q : Int → Bool} {L : List Int} : mk32 p L ||| mk32 q L = mk32 (fun x => p x || q x) L := by
  apply BitVec.eq_of_getLsbD_eq
  intro i hi
  unfold mk32
  rw [BitVec.getLsbD_or, BitVec.getLsbD_ofNat, BitVec.getLsbD_ofNat, BitVec.getLsbD_ofNat, mkN_bit, mkN_bit, mkN_bit]
  cases L[i]? <;> simp [hi]

theorem mem_one {k : Int} : (fun x : Int => decide (x ∈ [k])) = fun x => x == k := by funext x; rw [Bool.eq_iff_iff]; simp
theorem mem_two {k j : Int} : (fun x : Int => decide (x ∈ [k, j])) = fun x => (x == k) || (x == j) := by funext x; rw [Bool.eq_iff_iff]; simp

theorem In1_spec {b bl : Nat} {L : List Int} {k : Int} {v : Value} (h : CS m b bl L) (h16 : L.length ≤ 16) (hs : Sl m 1 [k].length (intsZ [k]) v) : WC R F.cores_Set_In [pt b, v] m fun r m' => r = u32 (mk32 (fun x => x == k) L) ∧ m' = m := by
  have := In_spec h h16 hs (by simp)
  simp only [mem_one] at this; exact this
theorem Count1_spec {b bl : Nat} {L : List Int} {k : Int} {v : Value} (h : CS m b bl L) (h16 : L.length ≤ 16) (hs : Sl m 1 [k].length (intsZ [k]) v) : WC R F.cores_Set_Count [pt b, v] m fun r m' => r = .int .i64 (L.countP (fun x => x == k) : Nat) ∧ m' = m := by
  have := Count_spec h h16 hs (by simp)
  simp only [mem_one] at this; exact this
theorem In2_spec {b bl : Nat} {L : List Int} {k j : Int} {v : Value} (h : CS m b bl L) (h16 : L.length ≤ 16) (hs : Sl m 1 [k, j].length (intsZ [k, j]) v) : WC R F.cores_Set_In [pt b, v] m fun r m' => r = u32 (mk32 (fun x => x == k) L ||| mk32 (fun x => x == j) L) ∧ m' = m := by
  have := In_spec h h16 hs (by simp)
  simp only [mem_two] at this
  rw [mk_or2]; exact this

set_option maxHeartbeats 40000000 in
theorem CoresPlay_spec {n c0 : Int} {l : List (Int × Int)} {lv : Value} (hs : Sl m 2 l.length (l.flatMap actV) lv) (hb : SlLt m lv) : WC R F.law27_CoresPlay [.int .i64 n, lv, .int .i64 c0] m fun v m' => v = .bool true := by
  refine WC.of R.law27_CoresPlay rfl ?_
  simp only [RC.law27_CoresPlay, go_sem, Int.reduceBEq, Int.reduceBNe, Int.reduceNeg, not_true_eq_false, beq_self_eq_true, bne_self_eq_false, Bool.false_eq_true, if_false, if_true, Int.cast_ofNat_Int, decide_true, decide_false, reduceCtorEq, Nat.reduceEqDiff, Nat.reduceAdd, ne_eq, not_false_eq_true, Option.map_some, Option.bind_some, Option.map_none, Option.bind_none, true_and, and_true, Bool.not_true, Bool.not_false, Nat.reduceLeDiff, Nat.reduceMul, Nat.reduceSub, Nat.le_refl, Int.reduceToNat, Int.reduceLT, Int.reduceLE, Nat.one_mul, Nat.mul_one]
  refine gC.of New_spec ?_
  rintro _ m1 (⟨hn, rfl, rfl⟩ | ⟨k, c, cl, rfl, h1, h16, rfl, hc, hc1, hc2, hx⟩)
  · simp only [go_sem, Int.reduceBEq, Int.reduceBNe, Int.reduceNeg, not_true_eq_false, beq_self_eq_true, bne_self_eq_false, Bool.false_eq_true, if_false, if_true, Int.cast_ofNat_Int, decide_true, decide_false, reduceCtorEq, Nat.reduceEqDiff, Nat.reduceAdd, ne_eq, not_false_eq_true, Option.map_some, Option.bind_some, Option.map_none, Option.bind_none, true_and, and_true, Bool.not_true, Bool.not_false, Nat.reduceLeDiff, Nat.reduceMul, Nat.reduceSub, Nat.le_refl, Int.reduceToNat, Int.reduceLT, Int.reduceLE, Nat.one_mul, Nat.mul_one]
    refine gT.of (fun h1 => ?_) (fun h1 => ?_)
    · simp only [go_sem, Int.reduceBEq, Int.reduceBNe, Int.reduceNeg, not_true_eq_false, beq_self_eq_true, bne_self_eq_false, Bool.false_eq_true, if_false, if_true, Int.cast_ofNat_Int, decide_true, decide_false, reduceCtorEq, Nat.reduceEqDiff, Nat.reduceAdd, ne_eq, not_false_eq_true, Option.map_some, Option.bind_some, Option.map_none, Option.bind_none, true_and, and_true, Bool.not_true, Bool.not_false, Nat.reduceLeDiff, Nat.reduceMul, Nat.reduceSub, Nat.le_refl, Int.reduceToNat, Int.reduceLT, Int.reduceLE, Nat.one_mul, Nat.mul_one, h1, Option.isNone_none]
      refine gC.of (ok_spec R.law27_awake) ?_
      rintro _ m_ ⟨rfl, hm_⟩
      replace hm_ := hm_.symm
      subst hm_
      simp only [go_sem, Int.reduceBEq, Int.reduceBNe, Int.reduceNeg, not_true_eq_false, beq_self_eq_true, bne_self_eq_false, Bool.false_eq_true, if_false, if_true, Int.cast_ofNat_Int, decide_true, decide_false, reduceCtorEq, Nat.reduceEqDiff, Nat.reduceAdd, ne_eq, not_false_eq_true, Option.map_some, Option.bind_some, Option.map_none, Option.bind_none, true_and, and_true, Bool.not_true, Bool.not_false, Nat.reduceLeDiff, Nat.reduceMul, Nat.reduceSub, Nat.le_refl, Int.reduceToNat, Int.reduceLT, Int.reduceLE, Nat.one_mul, Nat.mul_one]
    · simp only [decide_eq_false_iff_not] at h1
      have : 16 < n := by omega
      simp only [go_sem, Int.reduceBEq, Int.reduceBNe, Int.reduceNeg, not_true_eq_false, beq_self_eq_true, bne_self_eq_false, Bool.false_eq_true, if_false, if_true, Int.cast_ofNat_Int, decide_true, decide_false, reduceCtorEq, Nat.reduceEqDiff, Nat.reduceAdd, ne_eq, not_false_eq_true, Option.map_some, Option.bind_some, Option.map_none, Option.bind_none, true_and, and_true, Bool.not_true, Bool.not_false, Nat.reduceLeDiff, Nat.reduceMul, Nat.reduceSub, Nat.le_refl, Int.reduceToNat, Int.reduceLT, Int.reduceLE, Nat.one_mul, Nat.mul_one, this, h1, Option.isNone_none]
      refine gC.of (ok_spec R.law27_awake) ?_
      rintro _ m_ ⟨rfl, hm_⟩
      replace hm_ := hm_.symm
      subst hm_
      simp only [go_sem, Int.reduceBEq, Int.reduceBNe, Int.reduceNeg, not_true_eq_false, beq_self_eq_true, bne_self_eq_false, Bool.false_eq_true, if_false, if_true, Int.cast_ofNat_Int, decide_true, decide_false, reduceCtorEq, Nat.reduceEqDiff, Nat.reduceAdd, ne_eq, not_false_eq_true, Option.map_some, Option.bind_some, Option.map_none, Option.bind_none, true_and, and_true, Bool.not_true, Bool.not_false, Nat.reduceLeDiff, Nat.reduceMul, Nat.reduceSub, Nat.le_refl, Int.reduceToNat, Int.reduceLT, Int.reduceLE, Nat.one_mul, Nat.mul_one]
  have k1 : ¬ ((k : Nat) : Int) < 1 := by omega
  have k2 : ¬ 16 < ((k : Nat) : Int) := by omega
  simp only [pt, go_sem, Int.reduceBEq, Int.reduceBNe, Int.reduceNeg, not_true_eq_false, beq_self_eq_true, bne_self_eq_false, Bool.false_eq_true, if_false, if_true, Int.cast_ofNat_Int, decide_true, decide_false, reduceCtorEq, Nat.reduceEqDiff, Nat.reduceAdd, ne_eq, not_false_eq_true, Option.map_some, Option.bind_some, Option.map_none, Option.bind_none, true_and, and_true, Bool.not_true, Bool.not_false, Nat.reduceLeDiff, Nat.reduceMul, Nat.reduceSub, Nat.le_refl, Int.reduceToNat, Int.reduceLT, Int.reduceLE, Nat.one_mul, Nat.mul_one, k1, k2]
  refine gC.of (RNew_spec h16) ?_
  rintro w m2 ⟨w1, w2⟩
  simp only [go_sem, Int.reduceBEq, Int.reduceBNe, Int.reduceNeg, not_true_eq_false, beq_self_eq_true, bne_self_eq_false, Bool.false_eq_true, if_false, if_true, Int.cast_ofNat_Int, decide_true, decide_false, reduceCtorEq, Nat.reduceEqDiff, Nat.reduceAdd, ne_eq, not_false_eq_true, Option.map_some, Option.bind_some, Option.map_none, Option.bind_none, true_and, and_true, Bool.not_true, Bool.not_false, Nat.reduceLeDiff, Nat.reduceMul, Nat.reduceSub, Nat.le_refl, Int.reduceToNat, Int.reduceLT, Int.reduceLE, Nat.one_mul, Nat.mul_one]
  have hcs2 := hc.keep w2
  have hw2 : RL [c, cl] m2 (List.replicate k 1) w := RL.own (by rw [List.length_replicate]; exact w1) (by
    intro x hx; simp only [List.mem_cons, List.not_mem_nil, or_false] at hx
    rcases hx with rfl | rfl
    · exact hc.2.2.2.1
    · exact hc.2.2.2.2)
  refine WL.of (fun r e m' => ∃ (i b bl : Nat) (L : List Int) (v : Value), i ≤ l.length ∧ r = l.length - i ∧ e = [(0, .int .i64 k), (1, lv), (2, .int .i64 c0), (7, pt b), (9, v), (10, .int .i64 i)] ∧ CS m' b bl L ∧ RL [b, bl] m' L v ∧ L.length = k ∧ m.next ≤ b ∧ m.next ≤ bl ∧ Ext m m') l.length
    ⟨0, c, cl, _, w, by omega, by omega, by simp only [pt, go_sem, Int.reduceBEq, Int.reduceBNe, Int.reduceNeg, not_true_eq_false, beq_self_eq_true, bne_self_eq_false, Bool.false_eq_true, if_false, if_true, Int.cast_ofNat_Int, decide_true, decide_false, reduceCtorEq, Nat.reduceEqDiff, Nat.reduceAdd, ne_eq, not_false_eq_true, Option.map_some, Option.bind_some, Option.map_none, Option.bind_none, true_and, and_true, Bool.not_true, Bool.not_false, Nat.reduceLeDiff, Nat.reduceMul, Nat.reduceSub, Nat.le_refl, Int.reduceToNat, Int.reduceLT, Int.reduceLE, Nat.one_mul, Nat.mul_one] <;> rfl, hcs2, hw2, by simp, hc1, hc2, hx.trans w2⟩ ?_
  rintro _ _ m2 ⟨i, b, bl, L, v, hi, rfl, rfl, hcs, hv, hL, hb1, hb2, hx2⟩
  have hs2 := hs.keep hb hx2
  simp only [go_sem, Int.reduceBEq, Int.reduceBNe, Int.reduceNeg, not_true_eq_false, beq_self_eq_true, bne_self_eq_false, Bool.false_eq_true, if_false, if_true, Int.cast_ofNat_Int, decide_true, decide_false, reduceCtorEq, Nat.reduceEqDiff, Nat.reduceAdd, ne_eq, not_false_eq_true, Option.map_some, Option.bind_some, Option.map_none, Option.bind_none, true_and, and_true, Bool.not_true, Bool.not_false, Nat.reduceLeDiff, Nat.reduceMul, Nat.reduceSub, Nat.le_refl, Int.reduceToNat, Int.reduceLT, Int.reduceLE, Nat.one_mul, Nat.mul_one, hs2.len]
  have e1 : i < 1000000 → IntKind.wrap .i64 ((i : Int) + 1) = ((i + 1 : Nat) : Int) := fun _ => by rw [wrap_i64 (by omega) (by omega)]; rfl
  refine gT.of (fun q1 => ?_) (fun q1 => ?_)
  · simp only [go_sem, Int.reduceBEq, Int.reduceBNe, Int.reduceNeg, not_true_eq_false, beq_self_eq_true, bne_self_eq_false, Bool.false_eq_true, if_false, if_true, Int.cast_ofNat_Int, decide_true, decide_false, reduceCtorEq, Nat.reduceEqDiff, Nat.reduceAdd, ne_eq, not_false_eq_true, Option.map_some, Option.bind_some, Option.map_none, Option.bind_none, true_and, and_true, Bool.not_true, Bool.not_false, Nat.reduceLeDiff, Nat.reduceMul, Nat.reduceSub, Nat.le_refl, Int.reduceToNat, Int.reduceLT, Int.reduceLE, Nat.one_mul, Nat.mul_one, q1]
    simp only [decide_eq_true_eq] at q1
    have hil : i < l.length := by omega
    refine gT.of (fun q2 => ?_) (fun q2 => ?_)
    · simp only [decide_eq_true_eq] at q2
      obtain ⟨eb, eo, a1, a2, -, a4⟩ := hs2.elem actV_len (k := .i64) hil
      have hne : L ≠ [] := by intro e; subst e; simp at hL; omega
      simp only [go_sem, Int.reduceBEq, Int.reduceBNe, Int.reduceNeg, not_true_eq_false, beq_self_eq_true, bne_self_eq_false, Bool.false_eq_true, if_false, if_true, Int.cast_ofNat_Int, decide_true, decide_false, reduceCtorEq, Nat.reduceEqDiff, Nat.reduceAdd, ne_eq, not_false_eq_true, Option.map_some, Option.bind_some, Option.map_none, Option.bind_none, true_and, and_true, Bool.not_true, Bool.not_false, Nat.reduceLeDiff, Nat.reduceMul, Nat.reduceSub, Nat.le_refl, Int.reduceToNat, Int.reduceLT, Int.reduceLE, Nat.one_mul, Nat.mul_one, a1, a2]
      show gC R F.law27_step [pt b, v, .agg #[.int .i64 l[i].1, .int .i64 l[i].2]] m2 _
      refine gC.of (step_spec hcs hv (by omega) (by omega) hne) ?_
      rintro r m4 ⟨b', bl', v', ok, P⟩
      obtain ⟨rfl, P1, P2, P3, P4, P5⟩ := P
      obtain rfl := P3 rfl
      have hL' : (stp l[i].1 l[i].2 L).length = k := by rw [stp_len, hL]
      have hx4 : Ext m m4 := Upd.ext_of hx2 P4 (by
        intro x hx; simp only [List.mem_cons, List.not_mem_nil, or_false] at hx
        rcases hx with rfl | rfl <;> assumption)
      have hn4 : m.next ≤ b' ∧ m.next ≤ bl' := by
        have := hx2.next
        rcases P5 with ⟨rfl, rfl⟩ | ⟨p1, p2⟩
        · exact ⟨hb1, hb2⟩
        · omega
      generalize stp l[i].1 l[i].2 L = L' at *
      have l16 : L'.length ≤ 16 := by omega
      simp only [pt, go_sem, Int.reduceBEq, Int.reduceBNe, Int.reduceNeg, not_true_eq_false, beq_self_eq_true, bne_self_eq_false, Bool.false_eq_true, if_false, if_true, Int.cast_ofNat_Int, decide_true, decide_false, reduceCtorEq, Nat.reduceEqDiff, Nat.reduceAdd, ne_eq, not_false_eq_true, Option.map_some, Option.bind_some, Option.map_none, Option.bind_none, true_and, and_true, Bool.not_true, Bool.not_false, Nat.reduceLeDiff, Nat.reduceMul, Nat.reduceSub, Nat.le_refl, Int.reduceToNat, Int.reduceLT, Int.reduceLE, Nat.one_mul, Nat.mul_one]
      refine gC.of (State_spec P1) ?_
      rintro _ _ ⟨hst, rfl⟩
      have tail : True := trivial
      rcases hst with ⟨j, hj, rfl, rfl⟩ | ⟨ho, rfl⟩
      case' inl =>
        have g1 : (0 : Int) ≤ j := by omega
        have g2 : (j : Int) < k := by omega
        obtain ⟨p, c1, c2⟩ := P2.1.get (k := .i64) (i := j) hj
        rw [intsZ_get' hj] at c2
        simp only [go_sem, Int.reduceBEq, Int.reduceBNe, Int.reduceNeg, not_true_eq_false, beq_self_eq_true, bne_self_eq_false, Bool.false_eq_true, if_false, if_true, Int.cast_ofNat_Int, decide_true, decide_false, reduceCtorEq, Nat.reduceEqDiff, Nat.reduceAdd, ne_eq, not_false_eq_true, Option.map_some, Option.bind_some, Option.map_none, Option.bind_none, true_and, and_true, Bool.not_true, Bool.not_false, Nat.reduceLeDiff, Nat.reduceMul, Nat.reduceSub, Nat.le_refl, Int.reduceToNat, Int.reduceLT, Int.reduceLE, Nat.one_mul, Nat.mul_one, g1, g2, c1, c2]
        refine gC.of (Len_spec P1) ?_
        rintro _ _ ⟨rfl, rfl⟩
        rw [hL']
        simp only [go_sem, Int.reduceBEq, Int.reduceBNe, Int.reduceNeg, not_true_eq_false, beq_self_eq_true, bne_self_eq_false, Bool.false_eq_true, if_false, if_true, Int.cast_ofNat_Int, decide_true, decide_false, reduceCtorEq, Nat.reduceEqDiff, Nat.reduceAdd, ne_eq, not_false_eq_true, Option.map_some, Option.bind_some, Option.map_none, Option.bind_none, true_and, and_true, Bool.not_true, Bool.not_false, Nat.reduceLeDiff, Nat.reduceMul, Nat.reduceSub, Nat.le_refl, Int.reduceToNat, Int.reduceLT, Int.reduceLE, Nat.one_mul, Nat.mul_one]
        clear g1 g2 c1 c2 hj
        generalize ((j : Nat) : Int) = c0
      case' inr =>
        by_cases g1 : 0 ≤ c0
        case' pos =>
          have g2 : ¬ c0 < k := by omega
          simp only [go_sem, Int.reduceBEq, Int.reduceBNe, Int.reduceNeg, not_true_eq_false, beq_self_eq_true, bne_self_eq_false, Bool.false_eq_true, if_false, if_true, Int.cast_ofNat_Int, decide_true, decide_false, reduceCtorEq, Nat.reduceEqDiff, Nat.reduceAdd, ne_eq, not_false_eq_true, Option.map_some, Option.bind_some, Option.map_none, Option.bind_none, true_and, and_true, Bool.not_true, Bool.not_false, Nat.reduceLeDiff, Nat.reduceMul, Nat.reduceSub, Nat.le_refl, Int.reduceToNat, Int.reduceLT, Int.reduceLE, Nat.one_mul, Nat.mul_one, g1, g2]
          refine gC.of (Len_spec P1) ?_
          rintro _ _ ⟨rfl, rfl⟩
          rw [hL']
          simp only [go_sem, Int.reduceBEq, Int.reduceBNe, Int.reduceNeg, not_true_eq_false, beq_self_eq_true, bne_self_eq_false, Bool.false_eq_true, if_false, if_true, Int.cast_ofNat_Int, decide_true, decide_false, reduceCtorEq, Nat.reduceEqDiff, Nat.reduceAdd, ne_eq, not_false_eq_true, Option.map_some, Option.bind_some, Option.map_none, Option.bind_none, true_and, and_true, Bool.not_true, Bool.not_false, Nat.reduceLeDiff, Nat.reduceMul, Nat.reduceSub, Nat.le_refl, Int.reduceToNat, Int.reduceLT, Int.reduceLE, Nat.one_mul, Nat.mul_one]
          clear g1 g2 ho
        case' neg =>
          simp only [go_sem, Int.reduceBEq, Int.reduceBNe, Int.reduceNeg, not_true_eq_false, beq_self_eq_true, bne_self_eq_false, Bool.false_eq_true, if_false, if_true, Int.cast_ofNat_Int, decide_true, decide_false, reduceCtorEq, Nat.reduceEqDiff, Nat.reduceAdd, ne_eq, not_false_eq_true, Option.map_some, Option.bind_some, Option.map_none, Option.bind_none, true_and, and_true, Bool.not_true, Bool.not_false, Nat.reduceLeDiff, Nat.reduceMul, Nat.reduceSub, Nat.le_refl, Int.reduceToNat, Int.reduceLT, Int.reduceLE, Nat.one_mul, Nat.mul_one, g1]
          refine gC.of (Len_spec P1) ?_
          rintro _ _ ⟨rfl, rfl⟩
          rw [hL']
          simp only [go_sem, Int.reduceBEq, Int.reduceBNe, Int.reduceNeg, not_true_eq_false, beq_self_eq_true, bne_self_eq_false, Bool.false_eq_true, if_false, if_true, Int.cast_ofNat_Int, decide_true, decide_false, reduceCtorEq, Nat.reduceEqDiff, Nat.reduceAdd, ne_eq, not_false_eq_true, Option.map_some, Option.bind_some, Option.map_none, Option.bind_none, true_and, and_true, Bool.not_true, Bool.not_false, Nat.reduceLeDiff, Nat.reduceMul, Nat.reduceSub, Nat.le_refl, Int.reduceToNat, Int.reduceLT, Int.reduceLE, Nat.one_mul, Nat.mul_one]
          clear g1 ho
      all_goals
        refine WL.of (fun r e m' => ∃ q : Nat, q ≤ 5 ∧ r = 5 - q ∧ e = [(0, .int .i64 k), (1, lv), (2, .int .i64 c0), (7, pt b'), (9, v'), (10, .int .i64 i), (16, .int .i64 q)] ∧ CS m' b' bl' L' ∧ RL [b', bl'] m' L' v' ∧ Ext m m') 5
          ⟨0, by omega, by omega, by simp only [pt, go_sem, Int.reduceBEq, Int.reduceBNe, Int.reduceNeg, not_true_eq_false, beq_self_eq_true, bne_self_eq_false, Bool.false_eq_true, if_false, if_true, Int.cast_ofNat_Int, decide_true, decide_false, reduceCtorEq, Nat.reduceEqDiff, Nat.reduceAdd, ne_eq, not_false_eq_true, Option.map_some, Option.bind_some, Option.map_none, Option.bind_none, true_and, and_true, Bool.not_true, Bool.not_false, Nat.reduceLeDiff, Nat.reduceMul, Nat.reduceSub, Nat.le_refl, Int.reduceToNat, Int.reduceLT, Int.reduceLE, Nat.one_mul, Nat.mul_one] <;> rfl, P1, P2, hx4⟩ ?_
        rintro _ _ m6 ⟨q, hq, rfl, rfl, o1, o2, o3⟩
        have eq1 : IntKind.wrap .i64 ((q : Int) + 1) = ((q + 1 : Nat) : Int) := by rw [wrap_i64 (by omega) (by omega)]; rfl
        simp only [go_sem, Int.reduceBEq, Int.reduceBNe, Int.reduceNeg, not_true_eq_false, beq_self_eq_true, bne_self_eq_false, Bool.false_eq_true, if_false, if_true, Int.cast_ofNat_Int, decide_true, decide_false, reduceCtorEq, Nat.reduceEqDiff, Nat.reduceAdd, ne_eq, not_false_eq_true, Option.map_some, Option.bind_some, Option.map_none, Option.bind_none, true_and, and_true, Bool.not_true, Bool.not_false, Nat.reduceLeDiff, Nat.reduceMul, Nat.reduceSub, Nat.le_refl, Int.reduceToNat, Int.reduceLT, Int.reduceLE, Nat.one_mul, Nat.mul_one]
        refine gT.of (fun t => ?_) (fun t => ?_)
        · simp only [decide_eq_true_eq] at t
          have hsq : Sl (m6.new (.cells [.int .i64 q] (some 1))) 1 [(q : Int)].length (intsZ [(q : Int)]) (.slice (some ⟨m6.next, 0, none⟩) 1 1) := Sl.fresh rfl
          have hx7 : Ext m6 (m6.new (.cells [.int .i64 q] (some 1))) := Ext.new
          simp only [go_sem, Int.reduceBEq, Int.reduceBNe, Int.reduceNeg, not_true_eq_false, beq_self_eq_true, bne_self_eq_false, Bool.false_eq_true, if_false, if_true, Int.cast_ofNat_Int, decide_true, decide_false, reduceCtorEq, Nat.reduceEqDiff, Nat.reduceAdd, ne_eq, not_false_eq_true, Option.map_some, Option.bind_some, Option.map_none, Option.bind_none, true_and, and_true, Bool.not_true, Bool.not_false, Nat.reduceLeDiff, Nat.reduceMul, Nat.reduceSub, Nat.le_refl, Int.reduceToNat, Int.reduceLT, Int.reduceLE, Nat.one_mul, Nat.mul_one]
          generalize m6.new (.cells [.int .i64 q] (some 1)) = m7 at *
          have p1 := o1.keep hx7
          have p2 := o2.keep hx7
          refine gC.of (In1_spec (k := (q : Int)) p1 l16 hsq) ?_
          rintro _ _ ⟨rfl, rfl⟩
          simp only [go_sem, Int.reduceBEq, Int.reduceBNe, Int.reduceNeg, not_true_eq_false, beq_self_eq_true, bne_self_eq_false, Bool.false_eq_true, if_false, if_true, Int.cast_ofNat_Int, decide_true, decide_false, reduceCtorEq, Nat.reduceEqDiff, Nat.reduceAdd, ne_eq, not_false_eq_true, Option.map_some, Option.bind_some, Option.map_none, Option.bind_none, true_and, and_true, Bool.not_true, Bool.not_false, Nat.reduceLeDiff, Nat.reduceMul, Nat.reduceSub, Nat.le_refl, Int.reduceToNat, Int.reduceLT, Int.reduceLE, Nat.one_mul, Nat.mul_one]
          refine gC.of (RBits_spec p2.1 l16) ?_
          rintro _ m7 ⟨rfl, rfl⟩
          simp only [go_sem, Int.reduceBEq, Int.reduceBNe, Int.reduceNeg, not_true_eq_false, beq_self_eq_true, bne_self_eq_false, Bool.false_eq_true, if_false, if_true, Int.cast_ofNat_Int, decide_true, decide_false, reduceCtorEq, Nat.reduceEqDiff, Nat.reduceAdd, ne_eq, not_false_eq_true, Option.map_some, Option.bind_some, Option.map_none, Option.bind_none, true_and, and_true, Bool.not_true, Bool.not_false, Nat.reduceLeDiff, Nat.reduceMul, Nat.reduceSub, Nat.le_refl, Int.reduceToNat, Int.reduceLT, Int.reduceLE, Nat.one_mul, Nat.mul_one]
          have hsq2 : Sl (m7.new (.cells [.int .i64 q] (some 1))) 1 [(q : Int)].length (intsZ [(q : Int)]) (.slice (some ⟨m7.next, 0, none⟩) 1 1) := Sl.fresh rfl
          have hx8 : Ext m7 (m7.new (.cells [.int .i64 q] (some 1))) := Ext.new
          generalize m7.new (.cells [.int .i64 q] (some 1)) = m8 at *
          have p3 := p1.keep hx8
          have p4 := p2.keep hx8
          refine gC.of (Count1_spec (k := (q : Int)) p3 l16 hsq2) ?_
          rintro _ _ ⟨rfl, rfl⟩
          simp only [go_sem, Int.reduceBEq, Int.reduceBNe, Int.reduceNeg, not_true_eq_false, beq_self_eq_true, bne_self_eq_false, Bool.false_eq_true, if_false, if_true, Int.cast_ofNat_Int, decide_true, decide_false, reduceCtorEq, Nat.reduceEqDiff, Nat.reduceAdd, ne_eq, not_false_eq_true, Option.map_some, Option.bind_some, Option.map_none, Option.bind_none, true_and, and_true, Bool.not_true, Bool.not_false, Nat.reduceLeDiff, Nat.reduceMul, Nat.reduceSub, Nat.le_refl, Int.reduceToNat, Int.reduceLT, Int.reduceLE, Nat.one_mul, Nat.mul_one]
          refine gC.of (RCount_spec p4.1 (by omega)) ?_
          rintro _ _ ⟨rfl, rfl⟩
          simp only [go_sem, Int.reduceBEq, Int.reduceBNe, Int.reduceNeg, not_true_eq_false, beq_self_eq_true, bne_self_eq_false, Bool.false_eq_true, if_false, if_true, Int.cast_ofNat_Int, decide_true, decide_false, reduceCtorEq, Nat.reduceEqDiff, Nat.reduceAdd, ne_eq, not_false_eq_true, Option.map_some, Option.bind_some, Option.map_none, Option.bind_none, true_and, and_true, Bool.not_true, Bool.not_false, Nat.reduceLeDiff, Nat.reduceMul, Nat.reduceSub, Nat.le_refl, Int.reduceToNat, Int.reduceLT, Int.reduceLE, Nat.one_mul, Nat.mul_one, eq1]
          exact ⟨5 - (q + 1), by omega, q + 1, by omega, rfl, rfl, p3, p4, o3.trans (hx7.trans hx8)⟩
        · simp only [go_sem, Int.reduceBEq, Int.reduceBNe, Int.reduceNeg, not_true_eq_false, beq_self_eq_true, bne_self_eq_false, Bool.false_eq_true, if_false, if_true, Int.cast_ofNat_Int, decide_true, decide_false, reduceCtorEq, Nat.reduceEqDiff, Nat.reduceAdd, ne_eq, not_false_eq_true, Option.map_some, Option.bind_some, Option.map_none, Option.bind_none, true_and, and_true, Bool.not_true, Bool.not_false, Nat.reduceLeDiff, Nat.reduceMul, Nat.reduceSub, Nat.le_refl, Int.reduceToNat, Int.reduceLT, Int.reduceLE, Nat.one_mul, Nat.mul_one]
          have hsq : Sl (m6.new (.cells [.int .i64 1, .int .i64 2] (some 1))) 1 [(1 : Int), 2].length (intsZ [(1 : Int), 2]) (.slice (some ⟨m6.next, 0, none⟩) 2 2) := Sl.fresh rfl
          have hx7 : Ext m6 (m6.new (.cells [.int .i64 1, .int .i64 2] (some 1))) := Ext.new
          generalize m6.new (.cells [.int .i64 1, .int .i64 2] (some 1)) = m7 at *
          have p1 := o1.keep hx7
          have p2 := o2.keep hx7
          refine gC.of (In2_spec (k := 1) (j := 2) p1 l16 hsq) ?_
          rintro _ _ ⟨rfl, rfl⟩
          simp only [go_sem, Int.reduceBEq, Int.reduceBNe, Int.reduceNeg, not_true_eq_false, beq_self_eq_true, bne_self_eq_false, Bool.false_eq_true, if_false, if_true, Int.cast_ofNat_Int, decide_true, decide_false, reduceCtorEq, Nat.reduceEqDiff, Nat.reduceAdd, ne_eq, not_false_eq_true, Option.map_some, Option.bind_some, Option.map_none, Option.bind_none, true_and, and_true, Bool.not_true, Bool.not_false, Nat.reduceLeDiff, Nat.reduceMul, Nat.reduceSub, Nat.le_refl, Int.reduceToNat, Int.reduceLT, Int.reduceLE, Nat.one_mul, Nat.mul_one]
          refine gC.of (RBits_spec p2.1 l16) ?_
          rintro _ _ ⟨rfl, rfl⟩
          simp only [go_sem, Int.reduceBEq, Int.reduceBNe, Int.reduceNeg, not_true_eq_false, beq_self_eq_true, bne_self_eq_false, Bool.false_eq_true, if_false, if_true, Int.cast_ofNat_Int, decide_true, decide_false, reduceCtorEq, Nat.reduceEqDiff, Nat.reduceAdd, ne_eq, not_false_eq_true, Option.map_some, Option.bind_some, Option.map_none, Option.bind_none, true_and, and_true, Bool.not_true, Bool.not_false, Nat.reduceLeDiff, Nat.reduceMul, Nat.reduceSub, Nat.le_refl, Int.reduceToNat, Int.reduceLT, Int.reduceLE, Nat.one_mul, Nat.mul_one]
          refine gC.of (RBits_spec p2.1 l16) ?_
          rintro _ _ ⟨rfl, rfl⟩
          simp only [go_sem, Int.reduceBEq, Int.reduceBNe, Int.reduceNeg, not_true_eq_false, beq_self_eq_true, bne_self_eq_false, Bool.false_eq_true, if_false, if_true, Int.cast_ofNat_Int, decide_true, decide_false, reduceCtorEq, Nat.reduceEqDiff, Nat.reduceAdd, ne_eq, not_false_eq_true, Option.map_some, Option.bind_some, Option.map_none, Option.bind_none, true_and, and_true, Bool.not_true, Bool.not_false, Nat.reduceLeDiff, Nat.reduceMul, Nat.reduceSub, Nat.le_refl, Int.reduceToNat, Int.reduceLT, Int.reduceLE, Nat.one_mul, Nat.mul_one, e1 (by omega)]
          exact ⟨l.length - (i + 1), by omega, i + 1, b', bl', L', v', by omega, rfl, rfl, p1, p2, hL', hn4.1, hn4.2, o3.trans hx7⟩
    · simp only [go_sem, Int.reduceBEq, Int.reduceBNe, Int.reduceNeg, not_true_eq_false, beq_self_eq_true, bne_self_eq_false, Bool.false_eq_true, if_false, if_true, Int.cast_ofNat_Int, decide_true, decide_false, reduceCtorEq, Nat.reduceEqDiff, Nat.reduceAdd, ne_eq, not_false_eq_true, Option.map_some, Option.bind_some, Option.map_none, Option.bind_none, true_and, and_true, Bool.not_true, Bool.not_false, Nat.reduceLeDiff, Nat.reduceMul, Nat.reduceSub, Nat.le_refl, Int.reduceToNat, Int.reduceLT, Int.reduceLE, Nat.one_mul, Nat.mul_one, q2]
      refine gC.of (ok_spec R.law27_awake) ?_
      rintro _ m_ ⟨rfl, hm_⟩
      replace hm_ := hm_.symm
      subst hm_
      simp only [go_sem, Int.reduceBEq, Int.reduceBNe, Int.reduceNeg, not_true_eq_false, beq_self_eq_true, bne_self_eq_false, Bool.false_eq_true, if_false, if_true, Int.cast_ofNat_Int, decide_true, decide_false, reduceCtorEq, Nat.reduceEqDiff, Nat.reduceAdd, ne_eq, not_false_eq_true, Option.map_some, Option.bind_some, Option.map_none, Option.bind_none, true_and, and_true, Bool.not_true, Bool.not_false, Nat.reduceLeDiff, Nat.reduceMul, Nat.reduceSub, Nat.le_refl, Int.reduceToNat, Int.reduceLT, Int.reduceLE, Nat.one_mul, Nat.mul_one]
  · simp only [go_sem, Int.reduceBEq, Int.reduceBNe, Int.reduceNeg, not_true_eq_false, beq_self_eq_true, bne_self_eq_false, Bool.false_eq_true, if_false, if_true, Int.cast_ofNat_Int, decide_true, decide_false, reduceCtorEq, Nat.reduceEqDiff, Nat.reduceAdd, ne_eq, not_false_eq_true, Option.map_some, Option.bind_some, Option.map_none, Option.bind_none, true_and, and_true, Bool.not_true, Bool.not_false, Nat.reduceLeDiff, Nat.reduceMul, Nat.reduceSub, Nat.le_refl, Int.reduceToNat, Int.reduceLT, Int.reduceLE, Nat.one_mul, Nat.mul_one, q1]
    refine gC.of (ok_spec R.law27_awake) ?_
    rintro _ m_ ⟨rfl, hm_⟩
    replace hm_ := hm_.symm
    subst hm_
    simp only [go_sem, Int.reduceBEq, Int.reduceBNe, Int.reduceNeg, not_true_eq_false, beq_self_eq_true, bne_self_eq_false, Bool.false_eq_true, if_false, if_true, Int.cast_ofNat_Int, decide_true, decide_false, reduceCtorEq, Nat.reduceEqDiff, Nat.reduceAdd, ne_eq, not_false_eq_true, Option.map_some, Option.bind_some, Option.map_none, Option.bind_none, true_and, and_true, Bool.not_true, Bool.not_false, Nat.reduceLeDiff, Nat.reduceMul, Nat.reduceSub, Nat.le_refl, Int.reduceToNat, Int.reduceLT, Int.reduceLE, Nat.one_mul, Nat.mul_one]
end Go.Am


/- CoresPlay, of arguments as they are read. -/
set_option linter.unusedVariables false
namespace Go.Am
theorem law27_CoresPlay_walk (m : Mem) (us : List Value) (h : RdAs m [(false, [.int .i64]), (false, [.sl [.int .i64, .int .i64]]), (false, [.int .i64])] us) : WC R F.law27_CoresPlay us m fun v _ => v = .bool true := by
  obtain ⟨_, _, rfl, h1, h⟩ := h.one; obtain ⟨_, _, rfl, h2, h⟩ := h.one; obtain ⟨_, _, rfl, h3, h⟩ := h.one; cases h.none
  obtain ⟨k, rfl, -⟩ := h1.rd.i64; obtain ⟨l, hl, hb⟩ := acts_read h2.rd; obtain ⟨c, rfl, -⟩ := h3.rd.i64
  exact CoresPlay_spec hl hb
end Go.Am


/- CoresNever, of arguments as they are read. -/
set_option linter.unusedVariables false
namespace Go.Am
theorem law27_CoresNever_walk (m : Mem) (us : List Value) (h : RdAs m [(false, [.int .i64]), (false, [.sl [.int .i64, .int .i64]])] us) : WC R F.law27_CoresNever us m fun v _ => v = .bool true := by
  obtain ⟨_, _, rfl, h1, h⟩ := h.one; obtain ⟨_, _, rfl, h2, h⟩ := h.one; cases h.none
  obtain ⟨k, rfl, -⟩ := h1.rd.i64; obtain ⟨l, hl, hb⟩ := acts_read h2.rd
  exact CoresNever_spec hl hb
end Go.Am


/- The law CoresTwo. -/
set_option linter.unusedVariables false
set_option linter.unusedSimpArgs false
namespace Go.Am
variable {m : Mem}

theorem chg_zero {L : List Int} {c f t : Int} (h : (chg L c f t).2 = 0) : ∃ (i : Nat) (hi : i < L.length), c = i ∧ L[i] = f ∧ (chg L c f t).1 = L.set i t := by
  unfold chg at h ⊢
  split at h
  · rename_i hc
    refine ⟨c.toNat, hc.2, by omega, ?_⟩
    rw [dif_pos hc]
    split at h
    · rename_i hf
      split at h
      · simp at h
      · rename_i hn
        rw [if_pos hf, if_neg hn]; exact ⟨hf, rfl⟩
    · simp at h
  · simp at h

theorem chg_state {L : List Int} {i : Nat} {f t : Int} (hi : i < L.length) (h : L[i] ≠ f) : chg L i f t = (L, 15) := by
  unfold chg
  rw [dif_pos ⟨by omega, by simpa using hi⟩]
  simp only [Int.toNat_natCast]
  rw [if_neg h]

theorem state_at {b bl : Nat} {L : List Int} {i : Nat} (h : CS m b bl L) (hi : i < L.length) : WC R F.cores_Set_State [pt b, .int .i64 (i : Int)] m fun v m' => v = .tuple #[.int .i64 L[i], .bool true] ∧ m' = m := by
  refine (State_spec h).mono ?_
  rintro v m' ⟨⟨j, hj, e, rfl⟩ | ⟨h, -⟩, rfl⟩
  · have : i = j := by omega
    subst this; exact ⟨rfl, rfl⟩
  · omega

set_option maxHeartbeats 2000000 in
theorem CoresTwo_spec {n c0 : Int} {l : List (Int × Int)} {lv : Value} (hs : Sl m 2 l.length (l.flatMap actV) lv) (hb : SlLt m lv) : WC R F.law27_CoresTwo [.int .i64 n, lv, .int .i64 c0] m fun v m' => v = .bool true := by
  refine WC.of R.law27_CoresTwo rfl ?_
  simp only [RC.law27_CoresTwo, go_sem, Int.reduceBEq, Int.reduceBNe, Int.reduceNeg, not_true_eq_false, beq_self_eq_true, bne_self_eq_false, Bool.false_eq_true, if_false, if_true, Int.cast_ofNat_Int, decide_true, decide_false, reduceCtorEq, Nat.reduceEqDiff, Nat.reduceAdd, ne_eq, not_false_eq_true, Option.map_some, Option.bind_some, Option.map_none, Option.bind_none, true_and, and_true, Bool.not_true, Bool.not_false, Nat.reduceLeDiff, Nat.reduceMul, Nat.reduceSub, Nat.le_refl, Int.reduceToNat, Int.reduceLT, Int.reduceLE, Nat.one_mul, Nat.mul_one]
  refine gC.of New_spec ?_
  rintro _ m1 (⟨hn, rfl, rfl⟩ | ⟨k, c, cl, rfl, h1, h16, rfl, hc, hc1, hc2, hx⟩)
  · simp only [go_sem, Int.reduceBEq, Int.reduceBNe, Int.reduceNeg, not_true_eq_false, beq_self_eq_true, bne_self_eq_false, Bool.false_eq_true, if_false, if_true, Int.cast_ofNat_Int, decide_true, decide_false, reduceCtorEq, Nat.reduceEqDiff, Nat.reduceAdd, ne_eq, not_false_eq_true, Option.map_some, Option.bind_some, Option.map_none, Option.bind_none, true_and, and_true, Bool.not_true, Bool.not_false, Nat.reduceLeDiff, Nat.reduceMul, Nat.reduceSub, Nat.le_refl, Int.reduceToNat, Int.reduceLT, Int.reduceLE, Nat.one_mul, Nat.mul_one, Option.isNone_none]
    refine gT.of (fun h1 => ?_) (fun h1 => ?_)
    · simp only [go_sem, Int.reduceBEq, Int.reduceBNe, Int.reduceNeg, not_true_eq_false, beq_self_eq_true, bne_self_eq_false, Bool.false_eq_true, if_false, if_true, Int.cast_ofNat_Int, decide_true, decide_false, reduceCtorEq, Nat.reduceEqDiff, Nat.reduceAdd, ne_eq, not_false_eq_true, Option.map_some, Option.bind_some, Option.map_none, Option.bind_none, true_and, and_true, Bool.not_true, Bool.not_false, Nat.reduceLeDiff, Nat.reduceMul, Nat.reduceSub, Nat.le_refl, Int.reduceToNat, Int.reduceLT, Int.reduceLE, Nat.one_mul, Nat.mul_one, h1]
      refine gC.of (ok_spec R.law27_awake) ?_
      rintro _ m_ ⟨rfl, hm_⟩
      replace hm_ := hm_.symm
      subst hm_
      simp only [go_sem, Int.reduceBEq, Int.reduceBNe, Int.reduceNeg, not_true_eq_false, beq_self_eq_true, bne_self_eq_false, Bool.false_eq_true, if_false, if_true, Int.cast_ofNat_Int, decide_true, decide_false, reduceCtorEq, Nat.reduceEqDiff, Nat.reduceAdd, ne_eq, not_false_eq_true, Option.map_some, Option.bind_some, Option.map_none, Option.bind_none, true_and, and_true, Bool.not_true, Bool.not_false, Nat.reduceLeDiff, Nat.reduceMul, Nat.reduceSub, Nat.le_refl, Int.reduceToNat, Int.reduceLT, Int.reduceLE, Nat.one_mul, Nat.mul_one]
    · simp only [decide_eq_false_iff_not] at h1
      have : 16 < n := by omega
      simp only [go_sem, Int.reduceBEq, Int.reduceBNe, Int.reduceNeg, not_true_eq_false, beq_self_eq_true, bne_self_eq_false, Bool.false_eq_true, if_false, if_true, Int.cast_ofNat_Int, decide_true, decide_false, reduceCtorEq, Nat.reduceEqDiff, Nat.reduceAdd, ne_eq, not_false_eq_true, Option.map_some, Option.bind_some, Option.map_none, Option.bind_none, true_and, and_true, Bool.not_true, Bool.not_false, Nat.reduceLeDiff, Nat.reduceMul, Nat.reduceSub, Nat.le_refl, Int.reduceToNat, Int.reduceLT, Int.reduceLE, Nat.one_mul, Nat.mul_one, this, h1]
      refine gC.of (ok_spec R.law27_awake) ?_
      rintro _ m_ ⟨rfl, hm_⟩
      replace hm_ := hm_.symm
      subst hm_
      simp only [go_sem, Int.reduceBEq, Int.reduceBNe, Int.reduceNeg, not_true_eq_false, beq_self_eq_true, bne_self_eq_false, Bool.false_eq_true, if_false, if_true, Int.cast_ofNat_Int, decide_true, decide_false, reduceCtorEq, Nat.reduceEqDiff, Nat.reduceAdd, ne_eq, not_false_eq_true, Option.map_some, Option.bind_some, Option.map_none, Option.bind_none, true_and, and_true, Bool.not_true, Bool.not_false, Nat.reduceLeDiff, Nat.reduceMul, Nat.reduceSub, Nat.le_refl, Int.reduceToNat, Int.reduceLT, Int.reduceLE, Nat.one_mul, Nat.mul_one]
  simp only [pt, go_sem, Int.reduceBEq, Int.reduceBNe, Int.reduceNeg, not_true_eq_false, beq_self_eq_true, bne_self_eq_false, Bool.false_eq_true, if_false, if_true, Int.cast_ofNat_Int, decide_true, decide_false, reduceCtorEq, Nat.reduceEqDiff, Nat.reduceAdd, ne_eq, not_false_eq_true, Option.map_some, Option.bind_some, Option.map_none, Option.bind_none, true_and, and_true, Bool.not_true, Bool.not_false, Nat.reduceLeDiff, Nat.reduceMul, Nat.reduceSub, Nat.le_refl, Int.reduceToNat, Int.reduceLT, Int.reduceLE, Nat.one_mul, Nat.mul_one]
  refine WL.of (fun r e m' => ∃ (i b bl : Nat) (L : List Int), i ≤ l.length ∧ r = l.length - i ∧ e = [(0, .int .i64 k), (1, lv), (2, .int .i64 c0), (7, pt b), (9, .int .i64 i)] ∧ CS m' b bl L ∧ L.length = k ∧ m.next ≤ b ∧ m.next ≤ bl ∧ Ext m m') l.length
    ⟨0, c, cl, _, by omega, by omega, by simp only [pt, go_sem, Int.reduceBEq, Int.reduceBNe, Int.reduceNeg, not_true_eq_false, beq_self_eq_true, bne_self_eq_false, Bool.false_eq_true, if_false, if_true, Int.cast_ofNat_Int, decide_true, decide_false, reduceCtorEq, Nat.reduceEqDiff, Nat.reduceAdd, ne_eq, not_false_eq_true, Option.map_some, Option.bind_some, Option.map_none, Option.bind_none, true_and, and_true, Bool.not_true, Bool.not_false, Nat.reduceLeDiff, Nat.reduceMul, Nat.reduceSub, Nat.le_refl, Int.reduceToNat, Int.reduceLT, Int.reduceLE, Nat.one_mul, Nat.mul_one] <;> rfl, hc, by simp, hc1, hc2, hx⟩ ?_
  rintro _ _ m2 ⟨i, b, bl, L, hi, rfl, rfl, hcs, hL, hb1, hb2, hx2⟩
  have hs2 := hs.keep hb hx2
  simp only [go_sem, Int.reduceBEq, Int.reduceBNe, Int.reduceNeg, not_true_eq_false, beq_self_eq_true, bne_self_eq_false, Bool.false_eq_true, if_false, if_true, Int.cast_ofNat_Int, decide_true, decide_false, reduceCtorEq, Nat.reduceEqDiff, Nat.reduceAdd, ne_eq, not_false_eq_true, Option.map_some, Option.bind_some, Option.map_none, Option.bind_none, true_and, and_true, Bool.not_true, Bool.not_false, Nat.reduceLeDiff, Nat.reduceMul, Nat.reduceSub, Nat.le_refl, Int.reduceToNat, Int.reduceLT, Int.reduceLE, Nat.one_mul, Nat.mul_one, hs2.len]
  have e1 : i < 1000000 → IntKind.wrap .i64 ((i : Int) + 1) = ((i + 1 : Nat) : Int) := fun _ => by rw [wrap_i64 (by omega) (by omega)]; rfl
  refine gT.of (fun q1 => ?_) (fun q1 => ?_)
  · simp only [go_sem, Int.reduceBEq, Int.reduceBNe, Int.reduceNeg, not_true_eq_false, beq_self_eq_true, bne_self_eq_false, Bool.false_eq_true, if_false, if_true, Int.cast_ofNat_Int, decide_true, decide_false, reduceCtorEq, Nat.reduceEqDiff, Nat.reduceAdd, ne_eq, not_false_eq_true, Option.map_some, Option.bind_some, Option.map_none, Option.bind_none, true_and, and_true, Bool.not_true, Bool.not_false, Nat.reduceLeDiff, Nat.reduceMul, Nat.reduceSub, Nat.le_refl, Int.reduceToNat, Int.reduceLT, Int.reduceLE, Nat.one_mul, Nat.mul_one, q1]
    simp only [decide_eq_true_eq] at q1
    have hil : i < l.length := by omega
    refine gT.of (fun q2 => ?_) (fun q2 => ?_)
    · simp only [decide_eq_true_eq] at q2
      obtain ⟨eb, eo, a1, a2, -, a4⟩ := hs2.elem actV_len (k := .i64) hil
      have hlt := a4 (hb.keep hx2)
      have hne : L ≠ [] := by intro e; subst e; simp at hL; omega
      simp only [go_sem, Int.reduceBEq, Int.reduceBNe, Int.reduceNeg, not_true_eq_false, beq_self_eq_true, bne_self_eq_false, Bool.false_eq_true, if_false, if_true, Int.cast_ofNat_Int, decide_true, decide_false, reduceCtorEq, Nat.reduceEqDiff, Nat.reduceAdd, ne_eq, not_false_eq_true, Option.map_some, Option.bind_some, Option.map_none, Option.bind_none, true_and, and_true, Bool.not_true, Bool.not_false, Nat.reduceLeDiff, Nat.reduceMul, Nat.reduceSub, Nat.le_refl, Int.reduceToNat, Int.reduceLT, Int.reduceLE, Nat.one_mul, Nat.mul_one, a1, a2]
      refine gC.of (RNew_spec h16) ?_
      rintro w m3 ⟨w1, w2⟩
      have hcs3 := hcs.keep w2
      have hf2 : ∀ x ∈ [b, bl], x < m2.next := by
        intro x hx; simp only [List.mem_cons, List.not_mem_nil, or_false] at hx
        rcases hx with rfl | rfl
        · exact hcs.2.2.2.1
        · exact hcs.2.2.2.2
      have hw : RL [b, bl] m3 (List.replicate k 1) w := RL.own (by rw [List.length_replicate]; exact w1) hf2
      simp only [go_sem, Int.reduceBEq, Int.reduceBNe, Int.reduceNeg, not_true_eq_false, beq_self_eq_true, bne_self_eq_false, Bool.false_eq_true, if_false, if_true, Int.cast_ofNat_Int, decide_true, decide_false, reduceCtorEq, Nat.reduceEqDiff, Nat.reduceAdd, ne_eq, not_false_eq_true, Option.map_some, Option.bind_some, Option.map_none, Option.bind_none, true_and, and_true, Bool.not_true, Bool.not_false, Nat.reduceLeDiff, Nat.reduceMul, Nat.reduceSub, Nat.le_refl, Int.reduceToNat, Int.reduceLT, Int.reduceLE, Nat.one_mul, Nat.mul_one, w2.same _ hlt, watch_one, watch_nil, blk_ptr, a2]
      show gC R F.law27_step [pt b, w, .agg #[.int .i64 l[i].1, .int .i64 l[i].2]] m3 _
      refine gC.of (step_spec hcs3 hw (by omega) (by simp; omega) hne) ?_
      rintro r m4 ⟨b', bl', v', ok, P⟩
      obtain ⟨rfl, P1, P2, P3, P4, P5⟩ := P
      have hL' : (stp l[i].1 l[i].2 L).length = k := by rw [stp_len, hL]
      have hx4 : Ext m m4 := Upd.ext_of (hx2.trans w2) P4 (by
        intro x hx; simp only [List.mem_cons, List.not_mem_nil, or_false] at hx
        rcases hx with rfl | rfl <;> assumption)
      have hn4 : m.next ≤ b' ∧ m.next ≤ bl' := by
        have := (hx2.trans w2).next
        rcases P5 with ⟨rfl, rfl⟩ | ⟨p1, p2⟩
        · exact ⟨hb1, hb2⟩
        · omega
      generalize stp l[i].1 l[i].2 L = L' at *
      simp only [pt, go_sem, Int.reduceBEq, Int.reduceBNe, Int.reduceNeg, not_true_eq_false, beq_self_eq_true, bne_self_eq_false, Bool.false_eq_true, if_false, if_true, Int.cast_ofNat_Int, decide_true, decide_false, reduceCtorEq, Nat.reduceEqDiff, Nat.reduceAdd, ne_eq, not_false_eq_true, Option.map_some, Option.bind_some, Option.map_none, Option.bind_none, true_and, and_true, Bool.not_true, Bool.not_false, Nat.reduceLeDiff, Nat.reduceMul, Nat.reduceSub, Nat.le_refl, Int.reduceToNat, Int.reduceLT, Int.reduceLE, Nat.one_mul, Nat.mul_one, e1 (by omega)]
      exact ⟨l.length - (i + 1), by omega, i + 1, b', bl', L', by omega, rfl, rfl, P1, hL', hn4.1, hn4.2, hx4⟩
    · simp only [go_sem, Int.reduceBEq, Int.reduceBNe, Int.reduceNeg, not_true_eq_false, beq_self_eq_true, bne_self_eq_false, Bool.false_eq_true, if_false, if_true, Int.cast_ofNat_Int, decide_true, decide_false, reduceCtorEq, Nat.reduceEqDiff, Nat.reduceAdd, ne_eq, not_false_eq_true, Option.map_some, Option.bind_some, Option.map_none, Option.bind_none, true_and, and_true, Bool.not_true, Bool.not_false, Nat.reduceLeDiff, Nat.reduceMul, Nat.reduceSub, Nat.le_refl, Int.reduceToNat, Int.reduceLT, Int.reduceLE, Nat.one_mul, Nat.mul_one, q2]
      have hne : L ≠ [] := by intro e; subst e; simp at hL; omega
      have h16L : L.length ≤ 16 := by omega
      refine gC.of (Unplug_spec hcs h16L hne) ?_
      rintro _ m3 ⟨rfl, o1, o2⟩
      simp only [go_sem, Int.reduceBEq, Int.reduceBNe, Int.reduceNeg, not_true_eq_false, beq_self_eq_true, bne_self_eq_false, Bool.false_eq_true, if_false, if_true, Int.cast_ofNat_Int, decide_true, decide_false, reduceCtorEq, Nat.reduceEqDiff, Nat.reduceAdd, ne_eq, not_false_eq_true, Option.map_some, Option.bind_some, Option.map_none, Option.bind_none, true_and, and_true, Bool.not_true, Bool.not_false, Nat.reduceLeDiff, Nat.reduceMul, Nat.reduceSub, Nat.le_refl, Int.reduceToNat, Int.reduceLT, Int.reduceLE, Nat.one_mul, Nat.mul_one]
      refine gT.of (fun u => ?_) (fun u => ?_)
      · simp only [beq_iff_eq] at u
        obtain ⟨i, hi, rfl, g1, g2⟩ := chg_zero u
        rw [g2] at o1
        have gl : (L.set i 2).length = L.length := List.length_set
        have ge : (L.set i 2)[i]'(by omega) = 2 := by simp
        simp only [go_sem, Int.reduceBEq, Int.reduceBNe, Int.reduceNeg, not_true_eq_false, beq_self_eq_true, bne_self_eq_false, Bool.false_eq_true, if_false, if_true, Int.cast_ofNat_Int, decide_true, decide_false, reduceCtorEq, Nat.reduceEqDiff, Nat.reduceAdd, ne_eq, not_false_eq_true, Option.map_some, Option.bind_some, Option.map_none, Option.bind_none, true_and, and_true, Bool.not_true, Bool.not_false, Nat.reduceLeDiff, Nat.reduceMul, Nat.reduceSub, Nat.le_refl, Int.reduceToNat, Int.reduceLT, Int.reduceLE, Nat.one_mul, Nat.mul_one]
        refine gC.of (Turn_spec o1 (by omega)) ?_
        rintro _ m4 ⟨rfl, o3, o4⟩
        simp only [go_sem, Int.reduceBEq, Int.reduceBNe, Int.reduceNeg, not_true_eq_false, beq_self_eq_true, bne_self_eq_false, Bool.false_eq_true, if_false, if_true, Int.cast_ofNat_Int, decide_true, decide_false, reduceCtorEq, Nat.reduceEqDiff, Nat.reduceAdd, ne_eq, not_false_eq_true, Option.map_some, Option.bind_some, Option.map_none, Option.bind_none, true_and, and_true, Bool.not_true, Bool.not_false, Nat.reduceLeDiff, Nat.reduceMul, Nat.reduceSub, Nat.le_refl, Int.reduceToNat, Int.reduceLT, Int.reduceLE, Nat.one_mul, Nat.mul_one]
        have hj : i < ((L.set i 2).map turnC).length := by rw [List.length_map]; omega
        have gt : ((L.set i 2).map turnC)[i]'hj = 3 := by rw [List.getElem_map, ge]; decide
        refine gC.of (state_at o3 hj) ?_
        rintro _ _ ⟨rfl, rfl⟩
        rw [gt]
        simp only [go_sem, Int.reduceBEq, Int.reduceBNe, Int.reduceNeg, not_true_eq_false, beq_self_eq_true, bne_self_eq_false, Bool.false_eq_true, if_false, if_true, Int.cast_ofNat_Int, decide_true, decide_false, reduceCtorEq, Nat.reduceEqDiff, Nat.reduceAdd, ne_eq, not_false_eq_true, Option.map_some, Option.bind_some, Option.map_none, Option.bind_none, true_and, and_true, Bool.not_true, Bool.not_false, Nat.reduceLeDiff, Nat.reduceMul, Nat.reduceSub, Nat.le_refl, Int.reduceToNat, Int.reduceLT, Int.reduceLE, Nat.one_mul, Nat.mul_one]
        have ne5 : (L.set i 2).map turnC ≠ [] := by intro e; rw [e] at hj; simp at hj
        have ec := chg_state (L := (L.set i 2).map turnC) (i := i) (f := 0) (t := 4) hj (by rw [gt]; decide)
        refine gC.of (Plug_spec o3 (by rw [List.length_map]; omega) ne5) ?_
        rintro _ m5 ⟨rfl, o5, o6⟩
        rw [ec] at o5
        simp only [go_sem, Int.reduceBEq, Int.reduceBNe, Int.reduceNeg, not_true_eq_false, beq_self_eq_true, bne_self_eq_false, Bool.false_eq_true, if_false, if_true, Int.cast_ofNat_Int, decide_true, decide_false, reduceCtorEq, Nat.reduceEqDiff, Nat.reduceAdd, ne_eq, not_false_eq_true, Option.map_some, Option.bind_some, Option.map_none, Option.bind_none, true_and, and_true, Bool.not_true, Bool.not_false, Nat.reduceLeDiff, Nat.reduceMul, Nat.reduceSub, Nat.le_refl, Int.reduceToNat, Int.reduceLT, Int.reduceLE, Nat.one_mul, Nat.mul_one]
        refine gC.of (Turn_spec o5 (by simp only [List.length_map]; omega)) ?_
        rintro _ m6 ⟨rfl, o7, o8⟩
        simp only [go_sem, Int.reduceBEq, Int.reduceBNe, Int.reduceNeg, not_true_eq_false, beq_self_eq_true, bne_self_eq_false, Bool.false_eq_true, if_false, if_true, Int.cast_ofNat_Int, decide_true, decide_false, reduceCtorEq, Nat.reduceEqDiff, Nat.reduceAdd, ne_eq, not_false_eq_true, Option.map_some, Option.bind_some, Option.map_none, Option.bind_none, true_and, and_true, Bool.not_true, Bool.not_false, Nat.reduceLeDiff, Nat.reduceMul, Nat.reduceSub, Nat.le_refl, Int.reduceToNat, Int.reduceLT, Int.reduceLE, Nat.one_mul, Nat.mul_one]
        have hj2 : i < (((L.set i 2).map turnC).map turnC).length := by rw [List.length_map]; exact hj
        have gt2 : (((L.set i 2).map turnC).map turnC)[i]'hj2 = 0 := by rw [List.getElem_map, gt]; decide
        refine gC.of (state_at o7 hj2) ?_
        rintro _ _ ⟨rfl, rfl⟩
        rw [gt2, ec]
        simp only [go_sem, Int.reduceBEq, Int.reduceBNe, Int.reduceNeg, not_true_eq_false, beq_self_eq_true, bne_self_eq_false, Bool.false_eq_true, if_false, if_true, Int.cast_ofNat_Int, decide_true, decide_false, reduceCtorEq, Nat.reduceEqDiff, Nat.reduceAdd, ne_eq, not_false_eq_true, Option.map_some, Option.bind_some, Option.map_none, Option.bind_none, true_and, and_true, Bool.not_true, Bool.not_false, Nat.reduceLeDiff, Nat.reduceMul, Nat.reduceSub, Nat.le_refl, Int.reduceToNat, Int.reduceLT, Int.reduceLE, Nat.one_mul, Nat.mul_one]
        have l6 : (((L.set i 2).map turnC).map turnC).length ≤ 16 := by rw [List.length_map, List.length_map]; omega
        have ne6 : ((L.set i 2).map turnC).map turnC ≠ [] := by intro e; rw [e] at hj2; simp at hj2
        generalize ((L.set i 2).map turnC).map turnC = M at *
        refine gC.of (Plug_spec o7 (l6) (ne6)) ?_
        rintro _ n1 ⟨rfl, p1, p2⟩
        simp only [go_sem, Int.reduceBEq, Int.reduceBNe, Int.reduceNeg, not_true_eq_false, beq_self_eq_true, bne_self_eq_false, Bool.false_eq_true, if_false, if_true, Int.cast_ofNat_Int, decide_true, decide_false, reduceCtorEq, Nat.reduceEqDiff, Nat.reduceAdd, ne_eq, not_false_eq_true, Option.map_some, Option.bind_some, Option.map_none, Option.bind_none, true_and, and_true, Bool.not_true, Bool.not_false, Nat.reduceLeDiff, Nat.reduceMul, Nat.reduceSub, Nat.le_refl, Int.reduceToNat, Int.reduceLT, Int.reduceLE, Nat.one_mul, Nat.mul_one]
        refine gT.of (fun w => ?_) (fun w => ?_)
        · simp only [beq_iff_eq] at w
          obtain ⟨i2, hi, hcc, g1, g2⟩ := chg_zero w
          obtain rfl : i = i2 := by omega
          rw [g2] at p1
          have gl : ((M).set i 4).length = (M).length := List.length_set
          have ge : ((M).set i 4)[i]'(by omega) = 4 := by simp
          have ne4 : (M).set i 4 ≠ [] := by intro e; rw [e] at gl; simp at gl; omega
          have ec := chg_state (L := (M).set i 4) (i := i) (f := 1) (t := 2) (by omega) (by rw [ge]; decide)
          simp only [go_sem, Int.reduceBEq, Int.reduceBNe, Int.reduceNeg, not_true_eq_false, beq_self_eq_true, bne_self_eq_false, Bool.false_eq_true, if_false, if_true, Int.cast_ofNat_Int, decide_true, decide_false, reduceCtorEq, Nat.reduceEqDiff, Nat.reduceAdd, ne_eq, not_false_eq_true, Option.map_some, Option.bind_some, Option.map_none, Option.bind_none, true_and, and_true, Bool.not_true, Bool.not_false, Nat.reduceLeDiff, Nat.reduceMul, Nat.reduceSub, Nat.le_refl, Int.reduceToNat, Int.reduceLT, Int.reduceLE, Nat.one_mul, Nat.mul_one]
          refine gC.of (Unplug_spec p1 (by omega) ne4) ?_
          rintro _ n2 ⟨rfl, p3, p4⟩
          rw [ec] at p3
          simp only [go_sem, Int.reduceBEq, Int.reduceBNe, Int.reduceNeg, not_true_eq_false, beq_self_eq_true, bne_self_eq_false, Bool.false_eq_true, if_false, if_true, Int.cast_ofNat_Int, decide_true, decide_false, reduceCtorEq, Nat.reduceEqDiff, Nat.reduceAdd, ne_eq, not_false_eq_true, Option.map_some, Option.bind_some, Option.map_none, Option.bind_none, true_and, and_true, Bool.not_true, Bool.not_false, Nat.reduceLeDiff, Nat.reduceMul, Nat.reduceSub, Nat.le_refl, Int.reduceToNat, Int.reduceLT, Int.reduceLE, Nat.one_mul, Nat.mul_one]
          refine gC.of (Turn_spec p3 (by simp only []; omega)) ?_
          rintro _ n3 ⟨rfl, p5, p6⟩
          simp only [go_sem, Int.reduceBEq, Int.reduceBNe, Int.reduceNeg, not_true_eq_false, beq_self_eq_true, bne_self_eq_false, Bool.false_eq_true, if_false, if_true, Int.cast_ofNat_Int, decide_true, decide_false, reduceCtorEq, Nat.reduceEqDiff, Nat.reduceAdd, ne_eq, not_false_eq_true, Option.map_some, Option.bind_some, Option.map_none, Option.bind_none, true_and, and_true, Bool.not_true, Bool.not_false, Nat.reduceLeDiff, Nat.reduceMul, Nat.reduceSub, Nat.le_refl, Int.reduceToNat, Int.reduceLT, Int.reduceLE, Nat.one_mul, Nat.mul_one]
          have hj : i < (((M).set i 4).map turnC).length := by rw [List.length_map]; omega
          have gt : (((M).set i 4).map turnC)[i]'hj = 1 := by rw [List.getElem_map, ge]; decide
          refine gC.of (state_at p5 hj) ?_
          rintro _ _ ⟨rfl, rfl⟩
          rw [gt, ec]
          simp only [go_sem, Int.reduceBEq, Int.reduceBNe, Int.reduceNeg, not_true_eq_false, beq_self_eq_true, bne_self_eq_false, Bool.false_eq_true, if_false, if_true, Int.cast_ofNat_Int, decide_true, decide_false, reduceCtorEq, Nat.reduceEqDiff, Nat.reduceAdd, ne_eq, not_false_eq_true, Option.map_some, Option.bind_some, Option.map_none, Option.bind_none, true_and, and_true, Bool.not_true, Bool.not_false, Nat.reduceLeDiff, Nat.reduceMul, Nat.reduceSub, Nat.le_refl, Int.reduceToNat, Int.reduceLT, Int.reduceLE, Nat.one_mul, Nat.mul_one]
          refine gC.of (ok_spec R.law27_awake) ?_
          rintro _ m_ ⟨rfl, hm_⟩
          replace hm_ := hm_.symm
          subst hm_
          simp only [go_sem, Int.reduceBEq, Int.reduceBNe, Int.reduceNeg, not_true_eq_false, beq_self_eq_true, bne_self_eq_false, Bool.false_eq_true, if_false, if_true, Int.cast_ofNat_Int, decide_true, decide_false, reduceCtorEq, Nat.reduceEqDiff, Nat.reduceAdd, ne_eq, not_false_eq_true, Option.map_some, Option.bind_some, Option.map_none, Option.bind_none, true_and, and_true, Bool.not_true, Bool.not_false, Nat.reduceLeDiff, Nat.reduceMul, Nat.reduceSub, Nat.le_refl, Int.reduceToNat, Int.reduceLT, Int.reduceLE, Nat.one_mul, Nat.mul_one]
        · simp only [go_sem, Int.reduceBEq, Int.reduceBNe, Int.reduceNeg, not_true_eq_false, beq_self_eq_true, bne_self_eq_false, Bool.false_eq_true, if_false, if_true, Int.cast_ofNat_Int, decide_true, decide_false, reduceCtorEq, Nat.reduceEqDiff, Nat.reduceAdd, ne_eq, not_false_eq_true, Option.map_some, Option.bind_some, Option.map_none, Option.bind_none, true_and, and_true, Bool.not_true, Bool.not_false, Nat.reduceLeDiff, Nat.reduceMul, Nat.reduceSub, Nat.le_refl, Int.reduceToNat, Int.reduceLT, Int.reduceLE, Nat.one_mul, Nat.mul_one]
          refine gC.of (ok_spec R.law27_awake) ?_
          rintro _ m_ ⟨rfl, hm_⟩
          replace hm_ := hm_.symm
          subst hm_
          simp only [go_sem, Int.reduceBEq, Int.reduceBNe, Int.reduceNeg, not_true_eq_false, beq_self_eq_true, bne_self_eq_false, Bool.false_eq_true, if_false, if_true, Int.cast_ofNat_Int, decide_true, decide_false, reduceCtorEq, Nat.reduceEqDiff, Nat.reduceAdd, ne_eq, not_false_eq_true, Option.map_some, Option.bind_some, Option.map_none, Option.bind_none, true_and, and_true, Bool.not_true, Bool.not_false, Nat.reduceLeDiff, Nat.reduceMul, Nat.reduceSub, Nat.le_refl, Int.reduceToNat, Int.reduceLT, Int.reduceLE, Nat.one_mul, Nat.mul_one]

      · simp only [go_sem, Int.reduceBEq, Int.reduceBNe, Int.reduceNeg, not_true_eq_false, beq_self_eq_true, bne_self_eq_false, Bool.false_eq_true, if_false, if_true, Int.cast_ofNat_Int, decide_true, decide_false, reduceCtorEq, Nat.reduceEqDiff, Nat.reduceAdd, ne_eq, not_false_eq_true, Option.map_some, Option.bind_some, Option.map_none, Option.bind_none, true_and, and_true, Bool.not_true, Bool.not_false, Nat.reduceLeDiff, Nat.reduceMul, Nat.reduceSub, Nat.le_refl, Int.reduceToNat, Int.reduceLT, Int.reduceLE, Nat.one_mul, Nat.mul_one]
        have l6 : (chg L c0 1 2).1.length ≤ 16 := by rw [chg_len]; omega
        have ne6 : (chg L c0 1 2).1 ≠ [] := by intro e; have := congrArg List.length e; rw [chg_len] at this; exact hne (List.eq_nil_of_length_eq_zero this)
        generalize (chg L c0 1 2).1 = M at *
        refine gC.of (Plug_spec o1 (l6) (ne6)) ?_
        rintro _ n1 ⟨rfl, p1, p2⟩
        simp only [go_sem, Int.reduceBEq, Int.reduceBNe, Int.reduceNeg, not_true_eq_false, beq_self_eq_true, bne_self_eq_false, Bool.false_eq_true, if_false, if_true, Int.cast_ofNat_Int, decide_true, decide_false, reduceCtorEq, Nat.reduceEqDiff, Nat.reduceAdd, ne_eq, not_false_eq_true, Option.map_some, Option.bind_some, Option.map_none, Option.bind_none, true_and, and_true, Bool.not_true, Bool.not_false, Nat.reduceLeDiff, Nat.reduceMul, Nat.reduceSub, Nat.le_refl, Int.reduceToNat, Int.reduceLT, Int.reduceLE, Nat.one_mul, Nat.mul_one]
        refine gT.of (fun w => ?_) (fun w => ?_)
        · simp only [beq_iff_eq] at w
          obtain ⟨i, hi, rfl, g1, g2⟩ := chg_zero w
          rw [g2] at p1
          have gl : ((M).set i 4).length = (M).length := List.length_set
          have ge : ((M).set i 4)[i]'(by omega) = 4 := by simp
          have ne4 : (M).set i 4 ≠ [] := by intro e; rw [e] at gl; simp at gl; omega
          have ec := chg_state (L := (M).set i 4) (i := i) (f := 1) (t := 2) (by omega) (by rw [ge]; decide)
          simp only [go_sem, Int.reduceBEq, Int.reduceBNe, Int.reduceNeg, not_true_eq_false, beq_self_eq_true, bne_self_eq_false, Bool.false_eq_true, if_false, if_true, Int.cast_ofNat_Int, decide_true, decide_false, reduceCtorEq, Nat.reduceEqDiff, Nat.reduceAdd, ne_eq, not_false_eq_true, Option.map_some, Option.bind_some, Option.map_none, Option.bind_none, true_and, and_true, Bool.not_true, Bool.not_false, Nat.reduceLeDiff, Nat.reduceMul, Nat.reduceSub, Nat.le_refl, Int.reduceToNat, Int.reduceLT, Int.reduceLE, Nat.one_mul, Nat.mul_one]
          refine gC.of (Unplug_spec p1 (by omega) ne4) ?_
          rintro _ n2 ⟨rfl, p3, p4⟩
          rw [ec] at p3
          simp only [go_sem, Int.reduceBEq, Int.reduceBNe, Int.reduceNeg, not_true_eq_false, beq_self_eq_true, bne_self_eq_false, Bool.false_eq_true, if_false, if_true, Int.cast_ofNat_Int, decide_true, decide_false, reduceCtorEq, Nat.reduceEqDiff, Nat.reduceAdd, ne_eq, not_false_eq_true, Option.map_some, Option.bind_some, Option.map_none, Option.bind_none, true_and, and_true, Bool.not_true, Bool.not_false, Nat.reduceLeDiff, Nat.reduceMul, Nat.reduceSub, Nat.le_refl, Int.reduceToNat, Int.reduceLT, Int.reduceLE, Nat.one_mul, Nat.mul_one]
          refine gC.of (Turn_spec p3 (by simp only []; omega)) ?_
          rintro _ n3 ⟨rfl, p5, p6⟩
          simp only [go_sem, Int.reduceBEq, Int.reduceBNe, Int.reduceNeg, not_true_eq_false, beq_self_eq_true, bne_self_eq_false, Bool.false_eq_true, if_false, if_true, Int.cast_ofNat_Int, decide_true, decide_false, reduceCtorEq, Nat.reduceEqDiff, Nat.reduceAdd, ne_eq, not_false_eq_true, Option.map_some, Option.bind_some, Option.map_none, Option.bind_none, true_and, and_true, Bool.not_true, Bool.not_false, Nat.reduceLeDiff, Nat.reduceMul, Nat.reduceSub, Nat.le_refl, Int.reduceToNat, Int.reduceLT, Int.reduceLE, Nat.one_mul, Nat.mul_one]
          have hj : i < (((M).set i 4).map turnC).length := by rw [List.length_map]; omega
          have gt : (((M).set i 4).map turnC)[i]'hj = 1 := by rw [List.getElem_map, ge]; decide
          refine gC.of (state_at p5 hj) ?_
          rintro _ _ ⟨rfl, rfl⟩
          rw [gt, ec]
          simp only [go_sem, Int.reduceBEq, Int.reduceBNe, Int.reduceNeg, not_true_eq_false, beq_self_eq_true, bne_self_eq_false, Bool.false_eq_true, if_false, if_true, Int.cast_ofNat_Int, decide_true, decide_false, reduceCtorEq, Nat.reduceEqDiff, Nat.reduceAdd, ne_eq, not_false_eq_true, Option.map_some, Option.bind_some, Option.map_none, Option.bind_none, true_and, and_true, Bool.not_true, Bool.not_false, Nat.reduceLeDiff, Nat.reduceMul, Nat.reduceSub, Nat.le_refl, Int.reduceToNat, Int.reduceLT, Int.reduceLE, Nat.one_mul, Nat.mul_one]
          refine gC.of (ok_spec R.law27_awake) ?_
          rintro _ m_ ⟨rfl, hm_⟩
          replace hm_ := hm_.symm
          subst hm_
          simp only [go_sem, Int.reduceBEq, Int.reduceBNe, Int.reduceNeg, not_true_eq_false, beq_self_eq_true, bne_self_eq_false, Bool.false_eq_true, if_false, if_true, Int.cast_ofNat_Int, decide_true, decide_false, reduceCtorEq, Nat.reduceEqDiff, Nat.reduceAdd, ne_eq, not_false_eq_true, Option.map_some, Option.bind_some, Option.map_none, Option.bind_none, true_and, and_true, Bool.not_true, Bool.not_false, Nat.reduceLeDiff, Nat.reduceMul, Nat.reduceSub, Nat.le_refl, Int.reduceToNat, Int.reduceLT, Int.reduceLE, Nat.one_mul, Nat.mul_one]
        · simp only [go_sem, Int.reduceBEq, Int.reduceBNe, Int.reduceNeg, not_true_eq_false, beq_self_eq_true, bne_self_eq_false, Bool.false_eq_true, if_false, if_true, Int.cast_ofNat_Int, decide_true, decide_false, reduceCtorEq, Nat.reduceEqDiff, Nat.reduceAdd, ne_eq, not_false_eq_true, Option.map_some, Option.bind_some, Option.map_none, Option.bind_none, true_and, and_true, Bool.not_true, Bool.not_false, Nat.reduceLeDiff, Nat.reduceMul, Nat.reduceSub, Nat.le_refl, Int.reduceToNat, Int.reduceLT, Int.reduceLE, Nat.one_mul, Nat.mul_one]
          refine gC.of (ok_spec R.law27_awake) ?_
          rintro _ m_ ⟨rfl, hm_⟩
          replace hm_ := hm_.symm
          subst hm_
          simp only [go_sem, Int.reduceBEq, Int.reduceBNe, Int.reduceNeg, not_true_eq_false, beq_self_eq_true, bne_self_eq_false, Bool.false_eq_true, if_false, if_true, Int.cast_ofNat_Int, decide_true, decide_false, reduceCtorEq, Nat.reduceEqDiff, Nat.reduceAdd, ne_eq, not_false_eq_true, Option.map_some, Option.bind_some, Option.map_none, Option.bind_none, true_and, and_true, Bool.not_true, Bool.not_false, Nat.reduceLeDiff, Nat.reduceMul, Nat.reduceSub, Nat.le_refl, Int.reduceToNat, Int.reduceLT, Int.reduceLE, Nat.one_mul, Nat.mul_one]


  · simp only [go_sem, Int.reduceBEq, Int.reduceBNe, Int.reduceNeg, not_true_eq_false, beq_self_eq_true, bne_self_eq_false, Bool.false_eq_true, if_false, if_true, Int.cast_ofNat_Int, decide_true, decide_false, reduceCtorEq, Nat.reduceEqDiff, Nat.reduceAdd, ne_eq, not_false_eq_true, Option.map_some, Option.bind_some, Option.map_none, Option.bind_none, true_and, and_true, Bool.not_true, Bool.not_false, Nat.reduceLeDiff, Nat.reduceMul, Nat.reduceSub, Nat.le_refl, Int.reduceToNat, Int.reduceLT, Int.reduceLE, Nat.one_mul, Nat.mul_one, q1]
    have hne : L ≠ [] := by intro e; subst e; simp at hL; omega
    have h16L : L.length ≤ 16 := by omega
    refine gC.of (Unplug_spec hcs h16L hne) ?_
    rintro _ m3 ⟨rfl, o1, o2⟩
    simp only [go_sem, Int.reduceBEq, Int.reduceBNe, Int.reduceNeg, not_true_eq_false, beq_self_eq_true, bne_self_eq_false, Bool.false_eq_true, if_false, if_true, Int.cast_ofNat_Int, decide_true, decide_false, reduceCtorEq, Nat.reduceEqDiff, Nat.reduceAdd, ne_eq, not_false_eq_true, Option.map_some, Option.bind_some, Option.map_none, Option.bind_none, true_and, and_true, Bool.not_true, Bool.not_false, Nat.reduceLeDiff, Nat.reduceMul, Nat.reduceSub, Nat.le_refl, Int.reduceToNat, Int.reduceLT, Int.reduceLE, Nat.one_mul, Nat.mul_one]
    refine gT.of (fun u => ?_) (fun u => ?_)
    · simp only [beq_iff_eq] at u
      obtain ⟨i, hi, rfl, g1, g2⟩ := chg_zero u
      rw [g2] at o1
      have gl : (L.set i 2).length = L.length := List.length_set
      have ge : (L.set i 2)[i]'(by omega) = 2 := by simp
      simp only [go_sem, Int.reduceBEq, Int.reduceBNe, Int.reduceNeg, not_true_eq_false, beq_self_eq_true, bne_self_eq_false, Bool.false_eq_true, if_false, if_true, Int.cast_ofNat_Int, decide_true, decide_false, reduceCtorEq, Nat.reduceEqDiff, Nat.reduceAdd, ne_eq, not_false_eq_true, Option.map_some, Option.bind_some, Option.map_none, Option.bind_none, true_and, and_true, Bool.not_true, Bool.not_false, Nat.reduceLeDiff, Nat.reduceMul, Nat.reduceSub, Nat.le_refl, Int.reduceToNat, Int.reduceLT, Int.reduceLE, Nat.one_mul, Nat.mul_one]
      refine gC.of (Turn_spec o1 (by omega)) ?_
      rintro _ m4 ⟨rfl, o3, o4⟩
      simp only [go_sem, Int.reduceBEq, Int.reduceBNe, Int.reduceNeg, not_true_eq_false, beq_self_eq_true, bne_self_eq_false, Bool.false_eq_true, if_false, if_true, Int.cast_ofNat_Int, decide_true, decide_false, reduceCtorEq, Nat.reduceEqDiff, Nat.reduceAdd, ne_eq, not_false_eq_true, Option.map_some, Option.bind_some, Option.map_none, Option.bind_none, true_and, and_true, Bool.not_true, Bool.not_false, Nat.reduceLeDiff, Nat.reduceMul, Nat.reduceSub, Nat.le_refl, Int.reduceToNat, Int.reduceLT, Int.reduceLE, Nat.one_mul, Nat.mul_one]
      have hj : i < ((L.set i 2).map turnC).length := by rw [List.length_map]; omega
      have gt : ((L.set i 2).map turnC)[i]'hj = 3 := by rw [List.getElem_map, ge]; decide
      refine gC.of (state_at o3 hj) ?_
      rintro _ _ ⟨rfl, rfl⟩
      rw [gt]
      simp only [go_sem, Int.reduceBEq, Int.reduceBNe, Int.reduceNeg, not_true_eq_false, beq_self_eq_true, bne_self_eq_false, Bool.false_eq_true, if_false, if_true, Int.cast_ofNat_Int, decide_true, decide_false, reduceCtorEq, Nat.reduceEqDiff, Nat.reduceAdd, ne_eq, not_false_eq_true, Option.map_some, Option.bind_some, Option.map_none, Option.bind_none, true_and, and_true, Bool.not_true, Bool.not_false, Nat.reduceLeDiff, Nat.reduceMul, Nat.reduceSub, Nat.le_refl, Int.reduceToNat, Int.reduceLT, Int.reduceLE, Nat.one_mul, Nat.mul_one]
      have ne5 : (L.set i 2).map turnC ≠ [] := by intro e; rw [e] at hj; simp at hj
      have ec := chg_state (L := (L.set i 2).map turnC) (i := i) (f := 0) (t := 4) hj (by rw [gt]; decide)
      refine gC.of (Plug_spec o3 (by rw [List.length_map]; omega) ne5) ?_
      rintro _ m5 ⟨rfl, o5, o6⟩
      rw [ec] at o5
      simp only [go_sem, Int.reduceBEq, Int.reduceBNe, Int.reduceNeg, not_true_eq_false, beq_self_eq_true, bne_self_eq_false, Bool.false_eq_true, if_false, if_true, Int.cast_ofNat_Int, decide_true, decide_false, reduceCtorEq, Nat.reduceEqDiff, Nat.reduceAdd, ne_eq, not_false_eq_true, Option.map_some, Option.bind_some, Option.map_none, Option.bind_none, true_and, and_true, Bool.not_true, Bool.not_false, Nat.reduceLeDiff, Nat.reduceMul, Nat.reduceSub, Nat.le_refl, Int.reduceToNat, Int.reduceLT, Int.reduceLE, Nat.one_mul, Nat.mul_one]
      refine gC.of (Turn_spec o5 (by simp only [List.length_map]; omega)) ?_
      rintro _ m6 ⟨rfl, o7, o8⟩
      simp only [go_sem, Int.reduceBEq, Int.reduceBNe, Int.reduceNeg, not_true_eq_false, beq_self_eq_true, bne_self_eq_false, Bool.false_eq_true, if_false, if_true, Int.cast_ofNat_Int, decide_true, decide_false, reduceCtorEq, Nat.reduceEqDiff, Nat.reduceAdd, ne_eq, not_false_eq_true, Option.map_some, Option.bind_some, Option.map_none, Option.bind_none, true_and, and_true, Bool.not_true, Bool.not_false, Nat.reduceLeDiff, Nat.reduceMul, Nat.reduceSub, Nat.le_refl, Int.reduceToNat, Int.reduceLT, Int.reduceLE, Nat.one_mul, Nat.mul_one]
      have hj2 : i < (((L.set i 2).map turnC).map turnC).length := by rw [List.length_map]; exact hj
      have gt2 : (((L.set i 2).map turnC).map turnC)[i]'hj2 = 0 := by rw [List.getElem_map, gt]; decide
      refine gC.of (state_at o7 hj2) ?_
      rintro _ _ ⟨rfl, rfl⟩
      rw [gt2, ec]
      simp only [go_sem, Int.reduceBEq, Int.reduceBNe, Int.reduceNeg, not_true_eq_false, beq_self_eq_true, bne_self_eq_false, Bool.false_eq_true, if_false, if_true, Int.cast_ofNat_Int, decide_true, decide_false, reduceCtorEq, Nat.reduceEqDiff, Nat.reduceAdd, ne_eq, not_false_eq_true, Option.map_some, Option.bind_some, Option.map_none, Option.bind_none, true_and, and_true, Bool.not_true, Bool.not_false, Nat.reduceLeDiff, Nat.reduceMul, Nat.reduceSub, Nat.le_refl, Int.reduceToNat, Int.reduceLT, Int.reduceLE, Nat.one_mul, Nat.mul_one]
      have l6 : (((L.set i 2).map turnC).map turnC).length ≤ 16 := by rw [List.length_map, List.length_map]; omega
      have ne6 : ((L.set i 2).map turnC).map turnC ≠ [] := by intro e; rw [e] at hj2; simp at hj2
      generalize ((L.set i 2).map turnC).map turnC = M at *
      refine gC.of (Plug_spec o7 (l6) (ne6)) ?_
      rintro _ n1 ⟨rfl, p1, p2⟩
      simp only [go_sem, Int.reduceBEq, Int.reduceBNe, Int.reduceNeg, not_true_eq_false, beq_self_eq_true, bne_self_eq_false, Bool.false_eq_true, if_false, if_true, Int.cast_ofNat_Int, decide_true, decide_false, reduceCtorEq, Nat.reduceEqDiff, Nat.reduceAdd, ne_eq, not_false_eq_true, Option.map_some, Option.bind_some, Option.map_none, Option.bind_none, true_and, and_true, Bool.not_true, Bool.not_false, Nat.reduceLeDiff, Nat.reduceMul, Nat.reduceSub, Nat.le_refl, Int.reduceToNat, Int.reduceLT, Int.reduceLE, Nat.one_mul, Nat.mul_one]
      refine gT.of (fun w => ?_) (fun w => ?_)
      · simp only [beq_iff_eq] at w
        obtain ⟨i2, hi, hcc, g1, g2⟩ := chg_zero w
        obtain rfl : i = i2 := by omega
        rw [g2] at p1
        have gl : ((M).set i 4).length = (M).length := List.length_set
        have ge : ((M).set i 4)[i]'(by omega) = 4 := by simp
        have ne4 : (M).set i 4 ≠ [] := by intro e; rw [e] at gl; simp at gl; omega
        have ec := chg_state (L := (M).set i 4) (i := i) (f := 1) (t := 2) (by omega) (by rw [ge]; decide)
        simp only [go_sem, Int.reduceBEq, Int.reduceBNe, Int.reduceNeg, not_true_eq_false, beq_self_eq_true, bne_self_eq_false, Bool.false_eq_true, if_false, if_true, Int.cast_ofNat_Int, decide_true, decide_false, reduceCtorEq, Nat.reduceEqDiff, Nat.reduceAdd, ne_eq, not_false_eq_true, Option.map_some, Option.bind_some, Option.map_none, Option.bind_none, true_and, and_true, Bool.not_true, Bool.not_false, Nat.reduceLeDiff, Nat.reduceMul, Nat.reduceSub, Nat.le_refl, Int.reduceToNat, Int.reduceLT, Int.reduceLE, Nat.one_mul, Nat.mul_one]
        refine gC.of (Unplug_spec p1 (by omega) ne4) ?_
        rintro _ n2 ⟨rfl, p3, p4⟩
        rw [ec] at p3
        simp only [go_sem, Int.reduceBEq, Int.reduceBNe, Int.reduceNeg, not_true_eq_false, beq_self_eq_true, bne_self_eq_false, Bool.false_eq_true, if_false, if_true, Int.cast_ofNat_Int, decide_true, decide_false, reduceCtorEq, Nat.reduceEqDiff, Nat.reduceAdd, ne_eq, not_false_eq_true, Option.map_some, Option.bind_some, Option.map_none, Option.bind_none, true_and, and_true, Bool.not_true, Bool.not_false, Nat.reduceLeDiff, Nat.reduceMul, Nat.reduceSub, Nat.le_refl, Int.reduceToNat, Int.reduceLT, Int.reduceLE, Nat.one_mul, Nat.mul_one]
        refine gC.of (Turn_spec p3 (by simp only []; omega)) ?_
        rintro _ n3 ⟨rfl, p5, p6⟩
        simp only [go_sem, Int.reduceBEq, Int.reduceBNe, Int.reduceNeg, not_true_eq_false, beq_self_eq_true, bne_self_eq_false, Bool.false_eq_true, if_false, if_true, Int.cast_ofNat_Int, decide_true, decide_false, reduceCtorEq, Nat.reduceEqDiff, Nat.reduceAdd, ne_eq, not_false_eq_true, Option.map_some, Option.bind_some, Option.map_none, Option.bind_none, true_and, and_true, Bool.not_true, Bool.not_false, Nat.reduceLeDiff, Nat.reduceMul, Nat.reduceSub, Nat.le_refl, Int.reduceToNat, Int.reduceLT, Int.reduceLE, Nat.one_mul, Nat.mul_one]
        have hj : i < (((M).set i 4).map turnC).length := by rw [List.length_map]; omega
        have gt : (((M).set i 4).map turnC)[i]'hj = 1 := by rw [List.getElem_map, ge]; decide
        refine gC.of (state_at p5 hj) ?_
        rintro _ _ ⟨rfl, rfl⟩
        rw [gt, ec]
        simp only [go_sem, Int.reduceBEq, Int.reduceBNe, Int.reduceNeg, not_true_eq_false, beq_self_eq_true, bne_self_eq_false, Bool.false_eq_true, if_false, if_true, Int.cast_ofNat_Int, decide_true, decide_false, reduceCtorEq, Nat.reduceEqDiff, Nat.reduceAdd, ne_eq, not_false_eq_true, Option.map_some, Option.bind_some, Option.map_none, Option.bind_none, true_and, and_true, Bool.not_true, Bool.not_false, Nat.reduceLeDiff, Nat.reduceMul, Nat.reduceSub, Nat.le_refl, Int.reduceToNat, Int.reduceLT, Int.reduceLE, Nat.one_mul, Nat.mul_one]
        refine gC.of (ok_spec R.law27_awake) ?_
        rintro _ m_ ⟨rfl, hm_⟩
        replace hm_ := hm_.symm
        subst hm_
        simp only [go_sem, Int.reduceBEq, Int.reduceBNe, Int.reduceNeg, not_true_eq_false, beq_self_eq_true, bne_self_eq_false, Bool.false_eq_true, if_false, if_true, Int.cast_ofNat_Int, decide_true, decide_false, reduceCtorEq, Nat.reduceEqDiff, Nat.reduceAdd, ne_eq, not_false_eq_true, Option.map_some, Option.bind_some, Option.map_none, Option.bind_none, true_and, and_true, Bool.not_true, Bool.not_false, Nat.reduceLeDiff, Nat.reduceMul, Nat.reduceSub, Nat.le_refl, Int.reduceToNat, Int.reduceLT, Int.reduceLE, Nat.one_mul, Nat.mul_one]
      · simp only [go_sem, Int.reduceBEq, Int.reduceBNe, Int.reduceNeg, not_true_eq_false, beq_self_eq_true, bne_self_eq_false, Bool.false_eq_true, if_false, if_true, Int.cast_ofNat_Int, decide_true, decide_false, reduceCtorEq, Nat.reduceEqDiff, Nat.reduceAdd, ne_eq, not_false_eq_true, Option.map_some, Option.bind_some, Option.map_none, Option.bind_none, true_and, and_true, Bool.not_true, Bool.not_false, Nat.reduceLeDiff, Nat.reduceMul, Nat.reduceSub, Nat.le_refl, Int.reduceToNat, Int.reduceLT, Int.reduceLE, Nat.one_mul, Nat.mul_one]
        refine gC.of (ok_spec R.law27_awake) ?_
        rintro _ m_ ⟨rfl, hm_⟩
        replace hm_ := hm_.symm
        subst hm_
        simp only [go_sem, Int.reduceBEq, Int.reduceBNe, Int.reduceNeg, not_true_eq_false, beq_self_eq_true, bne_self_eq_false, Bool.false_eq_true, if_false, if_true, Int.cast_ofNat_Int, decide_true, decide_false, reduceCtorEq, Nat.reduceEqDiff, Nat.reduceAdd, ne_eq, not_false_eq_true, Option.map_some, Option.bind_some, Option.map_none, Option.bind_none, true_and, and_true, Bool.not_true, Bool.not_false, Nat.reduceLeDiff, Nat.reduceMul, Nat.reduceSub, Nat.le_refl, Int.reduceToNat, Int.reduceLT, Int.reduceLE, Nat.one_mul, Nat.mul_one]

    · simp only [go_sem, Int.reduceBEq, Int.reduceBNe, Int.reduceNeg, not_true_eq_false, beq_self_eq_true, bne_self_eq_false, Bool.false_eq_true, if_false, if_true, Int.cast_ofNat_Int, decide_true, decide_false, reduceCtorEq, Nat.reduceEqDiff, Nat.reduceAdd, ne_eq, not_false_eq_true, Option.map_some, Option.bind_some, Option.map_none, Option.bind_none, true_and, and_true, Bool.not_true, Bool.not_false, Nat.reduceLeDiff, Nat.reduceMul, Nat.reduceSub, Nat.le_refl, Int.reduceToNat, Int.reduceLT, Int.reduceLE, Nat.one_mul, Nat.mul_one]
      have l6 : (chg L c0 1 2).1.length ≤ 16 := by rw [chg_len]; omega
      have ne6 : (chg L c0 1 2).1 ≠ [] := by intro e; have := congrArg List.length e; rw [chg_len] at this; exact hne (List.eq_nil_of_length_eq_zero this)
      generalize (chg L c0 1 2).1 = M at *
      refine gC.of (Plug_spec o1 (l6) (ne6)) ?_
      rintro _ n1 ⟨rfl, p1, p2⟩
      simp only [go_sem, Int.reduceBEq, Int.reduceBNe, Int.reduceNeg, not_true_eq_false, beq_self_eq_true, bne_self_eq_false, Bool.false_eq_true, if_false, if_true, Int.cast_ofNat_Int, decide_true, decide_false, reduceCtorEq, Nat.reduceEqDiff, Nat.reduceAdd, ne_eq, not_false_eq_true, Option.map_some, Option.bind_some, Option.map_none, Option.bind_none, true_and, and_true, Bool.not_true, Bool.not_false, Nat.reduceLeDiff, Nat.reduceMul, Nat.reduceSub, Nat.le_refl, Int.reduceToNat, Int.reduceLT, Int.reduceLE, Nat.one_mul, Nat.mul_one]
      refine gT.of (fun w => ?_) (fun w => ?_)
      · simp only [beq_iff_eq] at w
        obtain ⟨i, hi, rfl, g1, g2⟩ := chg_zero w
        rw [g2] at p1
        have gl : ((M).set i 4).length = (M).length := List.length_set
        have ge : ((M).set i 4)[i]'(by omega) = 4 := by simp
        have ne4 : (M).set i 4 ≠ [] := by intro e; rw [e] at gl; simp at gl; omega
        have ec := chg_state (L := (M).set i 4) (i := i) (f := 1) (t := 2) (by omega) (by rw [ge]; decide)
        simp only [go_sem, Int.reduceBEq, Int.reduceBNe, Int.reduceNeg, not_true_eq_false, beq_self_eq_true, bne_self_eq_false, Bool.false_eq_true, if_false, if_true, Int.cast_ofNat_Int, decide_true, decide_false, reduceCtorEq, Nat.reduceEqDiff, Nat.reduceAdd, ne_eq, not_false_eq_true, Option.map_some, Option.bind_some, Option.map_none, Option.bind_none, true_and, and_true, Bool.not_true, Bool.not_false, Nat.reduceLeDiff, Nat.reduceMul, Nat.reduceSub, Nat.le_refl, Int.reduceToNat, Int.reduceLT, Int.reduceLE, Nat.one_mul, Nat.mul_one]
        refine gC.of (Unplug_spec p1 (by omega) ne4) ?_
        rintro _ n2 ⟨rfl, p3, p4⟩
        rw [ec] at p3
        simp only [go_sem, Int.reduceBEq, Int.reduceBNe, Int.reduceNeg, not_true_eq_false, beq_self_eq_true, bne_self_eq_false, Bool.false_eq_true, if_false, if_true, Int.cast_ofNat_Int, decide_true, decide_false, reduceCtorEq, Nat.reduceEqDiff, Nat.reduceAdd, ne_eq, not_false_eq_true, Option.map_some, Option.bind_some, Option.map_none, Option.bind_none, true_and, and_true, Bool.not_true, Bool.not_false, Nat.reduceLeDiff, Nat.reduceMul, Nat.reduceSub, Nat.le_refl, Int.reduceToNat, Int.reduceLT, Int.reduceLE, Nat.one_mul, Nat.mul_one]
        refine gC.of (Turn_spec p3 (by simp only []; omega)) ?_
        rintro _ n3 ⟨rfl, p5, p6⟩
        simp only [go_sem, Int.reduceBEq, Int.reduceBNe, Int.reduceNeg, not_true_eq_false, beq_self_eq_true, bne_self_eq_false, Bool.false_eq_true, if_false, if_true, Int.cast_ofNat_Int, decide_true, decide_false, reduceCtorEq, Nat.reduceEqDiff, Nat.reduceAdd, ne_eq, not_false_eq_true, Option.map_some, Option.bind_some, Option.map_none, Option.bind_none, true_and, and_true, Bool.not_true, Bool.not_false, Nat.reduceLeDiff, Nat.reduceMul, Nat.reduceSub, Nat.le_refl, Int.reduceToNat, Int.reduceLT, Int.reduceLE, Nat.one_mul, Nat.mul_one]
        have hj : i < (((M).set i 4).map turnC).length := by rw [List.length_map]; omega
        have gt : (((M).set i 4).map turnC)[i]'hj = 1 := by rw [List.getElem_map, ge]; decide
        refine gC.of (state_at p5 hj) ?_
        rintro _ _ ⟨rfl, rfl⟩
        rw [gt, ec]
        simp only [go_sem, Int.reduceBEq, Int.reduceBNe, Int.reduceNeg, not_true_eq_false, beq_self_eq_true, bne_self_eq_false, Bool.false_eq_true, if_false, if_true, Int.cast_ofNat_Int, decide_true, decide_false, reduceCtorEq, Nat.reduceEqDiff, Nat.reduceAdd, ne_eq, not_false_eq_true, Option.map_some, Option.bind_some, Option.map_none, Option.bind_none, true_and, and_true, Bool.not_true, Bool.not_false, Nat.reduceLeDiff, Nat.reduceMul, Nat.reduceSub, Nat.le_refl, Int.reduceToNat, Int.reduceLT, Int.reduceLE, Nat.one_mul, Nat.mul_one]
        refine gC.of (ok_spec R.law27_awake) ?_
        rintro _ m_ ⟨rfl, hm_⟩
        replace hm_ := hm_.symm
        subst hm_
        simp only [go_sem, Int.reduceBEq, Int.reduceBNe, Int.reduceNeg, not_true_eq_false, beq_self_eq_true, bne_self_eq_false, Bool.false_eq_true, if_false, if_true, Int.cast_ofNat_Int, decide_true, decide_false, reduceCtorEq, Nat.reduceEqDiff, Nat.reduceAdd, ne_eq, not_false_eq_true, Option.map_some, Option.bind_some, Option.map_none, Option.bind_none, true_and, and_true, Bool.not_true, Bool.not_false, Nat.reduceLeDiff, Nat.reduceMul, Nat.reduceSub, Nat.le_refl, Int.reduceToNat, Int.reduceLT, Int.reduceLE, Nat.one_mul, Nat.mul_one]
      · simp only [go_sem, Int.reduceBEq, Int.reduceBNe, Int.reduceNeg, not_true_eq_false, beq_self_eq_true, bne_self_eq_false, Bool.false_eq_true, if_false, if_true, Int.cast_ofNat_Int, decide_true, decide_false, reduceCtorEq, Nat.reduceEqDiff, Nat.reduceAdd, ne_eq, not_false_eq_true, Option.map_some, Option.bind_some, Option.map_none, Option.bind_none, true_and, and_true, Bool.not_true, Bool.not_false, Nat.reduceLeDiff, Nat.reduceMul, Nat.reduceSub, Nat.le_refl, Int.reduceToNat, Int.reduceLT, Int.reduceLE, Nat.one_mul, Nat.mul_one]
        refine gC.of (ok_spec R.law27_awake) ?_
        rintro _ m_ ⟨rfl, hm_⟩
        replace hm_ := hm_.symm
        subst hm_
        simp only [go_sem, Int.reduceBEq, Int.reduceBNe, Int.reduceNeg, not_true_eq_false, beq_self_eq_true, bne_self_eq_false, Bool.false_eq_true, if_false, if_true, Int.cast_ofNat_Int, decide_true, decide_false, reduceCtorEq, Nat.reduceEqDiff, Nat.reduceAdd, ne_eq, not_false_eq_true, Option.map_some, Option.bind_some, Option.map_none, Option.bind_none, true_and, and_true, Bool.not_true, Bool.not_false, Nat.reduceLeDiff, Nat.reduceMul, Nat.reduceSub, Nat.le_refl, Int.reduceToNat, Int.reduceLT, Int.reduceLE, Nat.one_mul, Nat.mul_one]



end Go.Am


/- CoresTwo, of arguments as they are read. -/
set_option linter.unusedVariables false
namespace Go.Am
theorem law27_CoresTwo_walk (m : Mem) (us : List Value) (h : RdAs m [(false, [.int .i64]), (false, [.sl [.int .i64, .int .i64]]), (false, [.int .i64])] us) : WC R F.law27_CoresTwo us m fun v _ => v = .bool true := by
  obtain ⟨_, _, rfl, h1, h⟩ := h.one; obtain ⟨_, _, rfl, h2, h⟩ := h.one; obtain ⟨_, _, rfl, h3, h⟩ := h.one; cases h.none
  obtain ⟨k, rfl, -⟩ := h1.rd.i64; obtain ⟨l, hl, hb⟩ := acts_read h2.rd; obtain ⟨c, rfl, -⟩ := h3.rd.i64
  exact CoresTwo_spec hl hb
end Go.Am
