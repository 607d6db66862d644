/- Parts of the proofs of the statements of this seat: MaskW7, MaskTurn, MaskL1, MaskL2, MaskL3, MaskL4, MaskWalks. No conditions. -/
import Derived.Test.YtmkoplmgefaheaaDoorPart4
import Derived.Test.YtmkoplmgefaheaaDoorPart3
set_option linter.unusedVariables false
set_option linter.unusedSimpArgs false

/- The runs by definition. -/
set_option linter.unusedVariables false
set_option linter.unusedSimpArgs false
namespace Go.Am

variable {m : Mem}

theorem inB_nat {x : BitVec 64} {j : Nat} : inB x (j : Int) = x.getLsbD j := by
  by_cases h : j < 64
  · rw [inB_of (by omega) (by omega), Int.toNat_natCast]
  · rw [inB_not (by omega)]
    exact (BitVec.getLsbD_of_ge x j (by omega)).symm

set_option maxHeartbeats 4000000 in
theorem ref04_Runs_spec {x : BitVec 64} : WC R F.ref04_Runs [u64 x] m fun v m' => Own m m' 2 (runs x 64).length (pairsV (runs x 64)) v ∧ Ext m m' := by
  refine WC.of R.ref04_Runs rfl ?_
  simp only [RC.ref04_Runs, go_sem, not_true_eq_false, beq_self_eq_true, bne_self_eq_false, Bool.false_eq_true, if_false, if_true, Int.cast_ofNat_Int, decide_true, decide_false, reduceCtorEq, Nat.reduceEqDiff, Nat.reduceAdd, ne_eq, not_false_eq_true, Option.map_some, Option.bind_some, Option.map_none, Option.bind_none, true_and, and_true, Bool.not_true, Bool.not_false, Nat.reduceLeDiff, Nat.reduceMul, Nat.reduceSub, Nat.le_refl, Int.reduceToNat, Int.reduceLT, Int.reduceLE, Nat.one_mul, Nat.mul_one]
  refine WL.of (fun n e m' => ∃ (i : Nat) (v : Value), i ≤ 64 ∧ n = 64 - i ∧ e = [(0, u64 x), (3, v), (4, .int .i64 i)] ∧ Own m m' 2 (runs x i).length (pairsV (runs x i)) v ∧ Ext m m') 64
    ⟨0, _, by omega, by omega, by simp only [go_sem, not_true_eq_false, beq_self_eq_true, bne_self_eq_false, Bool.false_eq_true, if_false, if_true, Int.cast_ofNat_Int, decide_true, decide_false, reduceCtorEq, Nat.reduceEqDiff, Nat.reduceAdd, ne_eq, not_false_eq_true, Option.map_some, Option.bind_some, Option.map_none, Option.bind_none, true_and, and_true, Bool.not_true, Bool.not_false, Nat.reduceLeDiff, Nat.reduceMul, Nat.reduceSub, Nat.le_refl, Int.reduceToNat, Int.reduceLT, Int.reduceLE, Nat.one_mul, Nat.mul_one] <;> rfl, Own.empty (Ext.refl m), Ext.new⟩ ?_
  rintro _ _ m1 ⟨i, v, hi, rfl, rfl, hv, hx⟩
  simp only [go_sem, not_true_eq_false, beq_self_eq_true, bne_self_eq_false, Bool.false_eq_true, if_false, if_true, Int.cast_ofNat_Int, decide_true, decide_false, reduceCtorEq, Nat.reduceEqDiff, Nat.reduceAdd, ne_eq, not_false_eq_true, Option.map_some, Option.bind_some, Option.map_none, Option.bind_none, true_and, and_true, Bool.not_true, Bool.not_false, Nat.reduceLeDiff, Nat.reduceMul, Nat.reduceSub, Nat.le_refl, Int.reduceToNat, Int.reduceLT, Int.reduceLE, Nat.one_mul, Nat.mul_one]
  refine gT.of (fun h => ?_) (fun h => ?_)
  · simp only [go_sem, not_true_eq_false, beq_self_eq_true, bne_self_eq_false, Bool.false_eq_true, if_false, if_true, Int.cast_ofNat_Int, decide_true, decide_false, reduceCtorEq, Nat.reduceEqDiff, Nat.reduceAdd, ne_eq, not_false_eq_true, Option.map_some, Option.bind_some, Option.map_none, Option.bind_none, true_and, and_true, Bool.not_true, Bool.not_false, Nat.reduceLeDiff, Nat.reduceMul, Nat.reduceSub, Nat.le_refl, Int.reduceToNat, Int.reduceLT, Int.reduceLE, Nat.one_mul, Nat.mul_one, h]
    simp only [decide_eq_true_eq] at h
    have hi : i < 64 := by omega
    have e10 : IntKind.wrap .i64 ((i : Int) + 1) = ((i + 1 : Nat) : Int) := by rw [wrap_i64 (by omega) (by omega)]; rfl
    have e12 : IntKind.wrap .i64 ((i : Int) - 1) = (i : Int) - 1 := wrap_i64 (by omega) (by omega)
    have skip : begins x i = false → ∃ n', n' < 64 - i ∧ ∃ (i' : Nat) (v' : Value), i' ≤ 64 ∧ n' = 64 - i' ∧ [(0, u64 x), (3, v), (4, Value.int .i64 ((i + 1 : Nat) : Int))] = [(0, u64 x), (3, v'), (4, .int .i64 i')] ∧
        Own m m1 2 (runs x i').length (pairsV (runs x i')) v' ∧ Ext m m1 := by
      intro hb
      have e : runs x (i + 1) = runs x i := by rw [runs_succ, hb]; simp
      exact ⟨_, by omega, i + 1, v, by omega, rfl, rfl, by rw [e]; exact hv, hx⟩
    refine gC.of ref04_Has_spec ?_
    rintro _ m_ ⟨rfl, hm_⟩
    replace hm_ := hm_.symm
    subst hm_
    simp only [go_sem, not_true_eq_false, beq_self_eq_true, bne_self_eq_false, Bool.false_eq_true, if_false, if_true, Int.cast_ofNat_Int, decide_true, decide_false, reduceCtorEq, Nat.reduceEqDiff, Nat.reduceAdd, ne_eq, not_false_eq_true, Option.map_some, Option.bind_some, Option.map_none, Option.bind_none, true_and, and_true, Bool.not_true, Bool.not_false, Nat.reduceLeDiff, Nat.reduceMul, Nat.reduceSub, Nat.le_refl, Int.reduceToNat, Int.reduceLT, Int.reduceLE, Nat.one_mul, Nat.mul_one]
    rw [inB_nat]
    refine gT.of (fun g => ?_) (fun g => ?_)
    · have g' : x.getLsbD i = false := by simpa using g
      simp only [go_sem, not_true_eq_false, beq_self_eq_true, bne_self_eq_false, Bool.false_eq_true, if_false, if_true, Int.cast_ofNat_Int, decide_true, decide_false, reduceCtorEq, Nat.reduceEqDiff, Nat.reduceAdd, ne_eq, not_false_eq_true, Option.map_some, Option.bind_some, Option.map_none, Option.bind_none, true_and, and_true, Bool.not_true, Bool.not_false, Nat.reduceLeDiff, Nat.reduceMul, Nat.reduceSub, Nat.le_refl, Int.reduceToNat, Int.reduceLT, Int.reduceLE, Nat.one_mul, Nat.mul_one, g', e10]
      exact skip (by unfold begins; rw [g']; rfl)
    · have g' : x.getLsbD i = true := by simpa using g
      simp only [go_sem, not_true_eq_false, beq_self_eq_true, bne_self_eq_false, Bool.false_eq_true, if_false, if_true, Int.cast_ofNat_Int, decide_true, decide_false, reduceCtorEq, Nat.reduceEqDiff, Nat.reduceAdd, ne_eq, not_false_eq_true, Option.map_some, Option.bind_some, Option.map_none, Option.bind_none, true_and, and_true, Bool.not_true, Bool.not_false, Nat.reduceLeDiff, Nat.reduceMul, Nat.reduceSub, Nat.le_refl, Int.reduceToNat, Int.reduceLT, Int.reduceLE, Nat.one_mul, Nat.mul_one, g', e12]
      refine gC.of ref04_Has_spec ?_
      rintro _ m_ ⟨rfl, hm_⟩
      replace hm_ := hm_.symm
      subst hm_
      simp only [go_sem, not_true_eq_false, beq_self_eq_true, bne_self_eq_false, Bool.false_eq_true, if_false, if_true, Int.cast_ofNat_Int, decide_true, decide_false, reduceCtorEq, Nat.reduceEqDiff, Nat.reduceAdd, ne_eq, not_false_eq_true, Option.map_some, Option.bind_some, Option.map_none, Option.bind_none, true_and, and_true, Bool.not_true, Bool.not_false, Nat.reduceLeDiff, Nat.reduceMul, Nat.reduceSub, Nat.le_refl, Int.reduceToNat, Int.reduceLT, Int.reduceLE, Nat.one_mul, Nat.mul_one]
      have hpre : inB x ((i : Int) - 1) = (decide (0 < i) && x.getLsbD (i - 1)) := by
        by_cases h0 : 0 < i
        · rw [show (i : Int) - 1 = ((i - 1 : Nat) : Int) by omega, inB_nat]; simp [h0]
        · rw [inB_not (by omega)]; simp [h0]
      rw [hpre]
      refine gT.of (fun g2 => ?_) (fun g2 => ?_)
      · simp only [go_sem, not_true_eq_false, beq_self_eq_true, bne_self_eq_false, Bool.false_eq_true, if_false, if_true, Int.cast_ofNat_Int, decide_true, decide_false, reduceCtorEq, Nat.reduceEqDiff, Nat.reduceAdd, ne_eq, not_false_eq_true, Option.map_some, Option.bind_some, Option.map_none, Option.bind_none, true_and, and_true, Bool.not_true, Bool.not_false, Nat.reduceLeDiff, Nat.reduceMul, Nat.reduceSub, Nat.le_refl, Int.reduceToNat, Int.reduceLT, Int.reduceLE, Nat.one_mul, Nat.mul_one, g2, e10]
        exact skip (by unfold begins; rw [g2]; simp)
      · simp only [go_sem, not_true_eq_false, beq_self_eq_true, bne_self_eq_false, Bool.false_eq_true, if_false, if_true, Int.cast_ofNat_Int, decide_true, decide_false, reduceCtorEq, Nat.reduceEqDiff, Nat.reduceAdd, ne_eq, not_false_eq_true, Option.map_some, Option.bind_some, Option.map_none, Option.bind_none, true_and, and_true, Bool.not_true, Bool.not_false, Nat.reduceLeDiff, Nat.reduceMul, Nat.reduceSub, Nat.le_refl, Int.reduceToNat, Int.reduceLT, Int.reduceLE, Nat.one_mul, Nat.mul_one, g2]
        have hb : begins x i = true := by unfold begins; rw [g', g2]; rfl
        obtain ⟨s1, s2, s3, s4⟩ := endOf_spec (x := x) (s := i) (by omega)
        refine WL.of (fun n e m' => ∃ j : Nat, i ≤ j ∧ j ≤ endOf x i ∧ n = endOf x i - j ∧ e = [(0, u64 x), (3, v), (4, .int .i64 i), (5, .int .i64 j)] ∧ m' = m1) (endOf x i - i)
          ⟨i, by omega, by omega, by omega, by simp only [go_sem, not_true_eq_false, beq_self_eq_true, bne_self_eq_false, Bool.false_eq_true, if_false, if_true, Int.cast_ofNat_Int, decide_true, decide_false, reduceCtorEq, Nat.reduceEqDiff, Nat.reduceAdd, ne_eq, not_false_eq_true, Option.map_some, Option.bind_some, Option.map_none, Option.bind_none, true_and, and_true, Bool.not_true, Bool.not_false, Nat.reduceLeDiff, Nat.reduceMul, Nat.reduceSub, Nat.le_refl, Int.reduceToNat, Int.reduceLT, Int.reduceLE, Nat.one_mul, Nat.mul_one], rfl⟩ ?_
        rintro _ _ _ ⟨j, hj1, hj2, rfl, rfl, rfl⟩
        simp only [go_sem, not_true_eq_false, beq_self_eq_true, bne_self_eq_false, Bool.false_eq_true, if_false, if_true, Int.cast_ofNat_Int, decide_true, decide_false, reduceCtorEq, Nat.reduceEqDiff, Nat.reduceAdd, ne_eq, not_false_eq_true, Option.map_some, Option.bind_some, Option.map_none, Option.bind_none, true_and, and_true, Bool.not_true, Bool.not_false, Nat.reduceLeDiff, Nat.reduceMul, Nat.reduceSub, Nat.le_refl, Int.reduceToNat, Int.reduceLT, Int.reduceLE, Nat.one_mul, Nat.mul_one]
        refine gC.of ref04_Has_spec ?_
        rintro _ m_ ⟨rfl, hm_⟩
        replace hm_ := hm_.symm
        subst hm_
        simp only [go_sem, not_true_eq_false, beq_self_eq_true, bne_self_eq_false, Bool.false_eq_true, if_false, if_true, Int.cast_ofNat_Int, decide_true, decide_false, reduceCtorEq, Nat.reduceEqDiff, Nat.reduceAdd, ne_eq, not_false_eq_true, Option.map_some, Option.bind_some, Option.map_none, Option.bind_none, true_and, and_true, Bool.not_true, Bool.not_false, Nat.reduceLeDiff, Nat.reduceMul, Nat.reduceSub, Nat.le_refl, Int.reduceToNat, Int.reduceLT, Int.reduceLE, Nat.one_mul, Nat.mul_one]
        rw [inB_nat]
        refine gT.of (fun g3 => ?_) (fun g3 => ?_)
        · simp only [go_sem, not_true_eq_false, beq_self_eq_true, bne_self_eq_false, Bool.false_eq_true, if_false, if_true, Int.cast_ofNat_Int, decide_true, decide_false, reduceCtorEq, Nat.reduceEqDiff, Nat.reduceAdd, ne_eq, not_false_eq_true, Option.map_some, Option.bind_some, Option.map_none, Option.bind_none, true_and, and_true, Bool.not_true, Bool.not_false, Nat.reduceLeDiff, Nat.reduceMul, Nat.reduceSub, Nat.le_refl, Int.reduceToNat, Int.reduceLT, Int.reduceLE, Nat.one_mul, Nat.mul_one, g3]
          have hj : j < endOf x i := by
            apply Nat.lt_of_not_le
            intro hle
            have e : j = endOf x i := by omega
            by_cases h64 : j < 64
            · have := s4 (by omega); rw [← e, g3] at this; cases this
            · rw [BitVec.getLsbD_of_ge x j (by omega)] at g3; cases g3
          refine ⟨_, ?_, j + 1, by omega, by omega, rfl, ?_⟩
          · omega
          · rw [wrap_i64 (by omega) (by omega)]; rfl
        · simp only [go_sem, not_true_eq_false, beq_self_eq_true, bne_self_eq_false, Bool.false_eq_true, if_false, if_true, Int.cast_ofNat_Int, decide_true, decide_false, reduceCtorEq, Nat.reduceEqDiff, Nat.reduceAdd, ne_eq, not_false_eq_true, Option.map_some, Option.bind_some, Option.map_none, Option.bind_none, true_and, and_true, Bool.not_true, Bool.not_false, Nat.reduceLeDiff, Nat.reduceMul, Nat.reduceSub, Nat.le_refl, Int.reduceToNat, Int.reduceLT, Int.reduceLE, Nat.one_mul, Nat.mul_one, g3]
          have hj : j = endOf x i := by
            by_cases hlt : j < endOf x i
            · have := s3 j hj1 hlt; rw [g3] at this; cases this
            · omega
          have hlen : (runs x i).length ≤ 64 := by
            unfold runs starts
            rw [List.length_map]
            exact Nat.le_trans (List.length_filter_le _ _) (by simp; omega)
          obtain ⟨v', m', p1, p2, p3⟩ := hv.app (by_ := 16) (es := [.int .i64 (i : Int), .int .i64 (j : Int)]) hx (by omega) rfl rfl (by omega) (by omega)
          simp only [go_sem, not_true_eq_false, beq_self_eq_true, bne_self_eq_false, Bool.false_eq_true, if_false, if_true, Int.cast_ofNat_Int, decide_true, decide_false, reduceCtorEq, Nat.reduceEqDiff, Nat.reduceAdd, ne_eq, not_false_eq_true, Option.map_some, Option.bind_some, Option.map_none, Option.bind_none, true_and, and_true, Bool.not_true, Bool.not_false, Nat.reduceLeDiff, Nat.reduceMul, Nat.reduceSub, Nat.le_refl, Int.reduceToNat, Int.reduceLT, Int.reduceLE, Nat.one_mul, Nat.mul_one, p1, e10]
          refine ⟨_, ?_, i + 1, v', by omega, rfl, rfl, ?_, p3⟩
          · omega
          · rw [runs_succ, hb]
            simp only [if_true]
            rw [← hj, pairsV_append, List.length_append]
            exact p2
  · simp only [go_sem, not_true_eq_false, beq_self_eq_true, bne_self_eq_false, Bool.false_eq_true, if_false, if_true, Int.cast_ofNat_Int, decide_true, decide_false, reduceCtorEq, Nat.reduceEqDiff, Nat.reduceAdd, ne_eq, not_false_eq_true, Option.map_some, Option.bind_some, Option.map_none, Option.bind_none, true_and, and_true, Bool.not_true, Bool.not_false, Nat.reduceLeDiff, Nat.reduceMul, Nat.reduceSub, Nat.le_refl, Int.reduceToNat, Int.reduceLT, Int.reduceLE, Nat.one_mul, Nat.mul_one, h]
    simp only [decide_eq_false_iff_not] at h
    have : i = 64 := by omega
    subst this
    exact ⟨hv, hx⟩
end Go.Am


/- Turning a word: the quick way is the plain one. -/
set_option linter.unusedVariables false
set_option linter.unusedSimpArgs false
namespace Go.Am

theorem src_of {F k t j : Int} (hF : 0 < F) (ht : 0 ≤ t) (ht2 : t < F) (hj : 0 ≤ j) (hj2 : j < F) : (t + k) % F = j ↔ t = (j - k) % F := by
  constructor
  · intro h
    have : (j - k) % F = ((t + k) - k) % F := by rw [← h, Int.sub_emod, Int.emod_emod_of_dvd _ (Int.dvd_refl F), ← Int.sub_emod]
    rw [this, Int.add_sub_cancel, Int.emod_eq_of_lt ht ht2]
  · intro h
    rw [h, Int.add_emod, Int.emod_emod_of_dvd _ (Int.dvd_refl F), ← Int.add_emod, Int.sub_add_cancel, Int.emod_eq_of_lt hj hj2]

theorem src_val {F k j : Int} (hF : 0 < F) (hj : 0 ≤ j) (hj2 : j < F) : (j - k) % F = if k % F ≤ j then j - k % F else j - k % F + F := by
  have h1 : 0 ≤ k % F := Int.emod_nonneg _ (by omega)
  have h2 : k % F < F := Int.emod_lt_of_pos _ hF
  have e : (j - k) % F = (j - k % F) % F := by rw [Int.sub_emod, Int.sub_emod j (k % F), Int.emod_emod_of_dvd _ (Int.dvd_refl F)]
  rw [e]
  split
  · exact Int.emod_eq_of_lt (by omega) (by omega)
  · rw [← Int.add_emod_right]; exact Int.emod_eq_of_lt (by omega) (by omega)

theorem turnW_bit {F k : Int} {x : BitVec 64} {j : Nat} (hF : 0 < F) (hF2 : F ≤ 64) (hj : j < 64) : (turnW F x k).getLsbD j = (decide ((j : Int) < F) && x.getLsbD (((j : Int) - k) % F).toNat) := by
  unfold turnW
  rw [if_neg (by omega)]
  have h1 : 0 ≤ k % F := Int.emod_nonneg _ (by omega)
  have h2 : k % F < F := Int.emod_lt_of_pos _ hF
  rw [BitVec.getLsbD_and, BitVec.getLsbD_or, BitVec.getLsbD_shiftLeft, BitVec.getLsbD_ushiftRight, BitVec.getLsbD_and, BitVec.getLsbD_and, allB_bit, allB_bit, allB_bit]
  by_cases hjF : (j : Int) < F
  · rw [src_val hF (by omega) hjF]
    have e1 : decide ((j : Int) < F) = true := by simpa using hjF
    have e2 : decide (j < F.toNat) = true := by simp; omega
    rw [e1, e2]
    split
    · rename_i hk
      have e3 : decide (j < (k % F).toNat) = false := by simp; omega
      have e4 : decide ((F - k % F).toNat + j < F.toNat) = false := by simp; omega
      have e5 : ((j : Int) - k % F).toNat = j - (k % F).toNat := by omega
      have e6 : decide (j - (k % F).toNat < F.toNat) = true := by simp; omega
      have e7 : decide (j - (k % F).toNat < 64) = true := by simp; omega
      rw [e3, e4, e5, e6, e7]
      simp [hj]
    · rename_i hk
      have e3 : decide (j < (k % F).toNat) = true := by simp; omega
      have e4 : decide ((F - k % F).toNat + j < F.toNat) = true := by simp; omega
      have e5 : ((j : Int) - k % F + F).toNat = (F - k % F).toNat + j := by omega
      have e6 : decide ((F - k % F).toNat + j < 64) = true := by simp; omega
      rw [e3, e4, e5, e6]
      simp [hj]
  · have e1 : decide ((j : Int) < F) = false := by simpa using hjF
    have e2 : decide (j < F.toNat) = false := by simp; omega
    rw [e1, e2]
    simp

theorem laterW_bit {F k : Int} {x : BitVec 64} {j : Nat} (hF : 0 < F) (hF2 : F ≤ 64) (hj : j < 64) : ∀ {n : Nat}, (n : Int) ≤ F →
    (laterW F x k n).getLsbD j = (decide ((j : Int) < F) && decide (((j : Int) - k) % F < n) && x.getLsbD (((j : Int) - k) % F).toNat) := by
  intro n
  induction n with
  | zero =>
    intro _
    have : ¬ ((j : Int) - k) % F < 0 := by have := Int.emod_nonneg ((j : Int) - k) (b := F) (by omega); omega
    simp [laterW, this]
  | succ n ih =>
    intro hn
    have ih := ih (by omega)
    have hs0 : 0 ≤ ((j : Int) - k) % F := Int.emod_nonneg _ (by omega)
    rw [laterW]
    by_cases hb : x.getLsbD n = true
    · rw [if_pos hb, withB_bit hj, ih, Bool.eq_iff_iff]
      simp only [Bool.or_eq_true, Bool.and_eq_true, decide_eq_true_eq]
      constructor
      · rintro (⟨⟨g1, g2⟩, g3⟩ | g)
        · exact ⟨⟨g1, by omega⟩, g3⟩
        · have g1 : (j : Int) < F := by rw [g]; exact Int.emod_lt_of_pos _ hF
          have g2 := (src_of hF (by omega : (0 : Int) ≤ n) (by omega) (by omega) g1).1 g.symm
          rw [← g2]
          exact ⟨⟨g1, by omega⟩, by rw [Int.toNat_natCast]; exact hb⟩
      · rintro ⟨⟨g1, g2⟩, g3⟩
        by_cases e : ((j : Int) - k) % F = n
        · right; exact ((src_of hF (by omega : (0 : Int) ≤ n) (by omega) (by omega) g1).2 e.symm).symm
        · left; exact ⟨⟨g1, by omega⟩, g3⟩
    · rw [if_neg hb, ih, Bool.eq_iff_iff]
      simp only [Bool.and_eq_true, decide_eq_true_eq]
      constructor
      · rintro ⟨⟨g1, g2⟩, g3⟩; exact ⟨⟨g1, by omega⟩, g3⟩
      · rintro ⟨⟨g1, g2⟩, g3⟩
        refine ⟨⟨g1, ?_⟩, g3⟩
        by_cases e : ((j : Int) - k) % F = n
        · rw [e, Int.toNat_natCast] at g3; exact absurd g3 hb
        · omega

theorem roundW_bit {F k : Int} {j : Nat} (hF : 0 < F) (hF2 : F ≤ 64) (hj : j < 64) : ∀ {n : Nat}, (n : Int) ≤ F → (roundW F k n).getLsbD j = (decide ((j : Int) < F) && decide (((j : Int) - k) % F < n)) := by
  intro n
  induction n with
  | zero =>
    intro _
    have : ¬ ((j : Int) - k) % F < 0 := by have := Int.emod_nonneg ((j : Int) - k) (b := F) (by omega); omega
    simp [roundW, this]
  | succ n ih =>
    intro hn
    have ih := ih (by omega)
    rw [roundW, withB_bit hj, ih, Bool.eq_iff_iff]
    simp only [Bool.or_eq_true, Bool.and_eq_true, decide_eq_true_eq]
    constructor
    · rintro (⟨g1, g2⟩ | g)
      · exact ⟨g1, by omega⟩
      · have g1 : (j : Int) < F := by rw [g]; exact Int.emod_lt_of_pos _ hF
        have g2 := (src_of hF (by omega : (0 : Int) ≤ n) (by omega) (by omega) g1).1 g.symm
        exact ⟨g1, by omega⟩
    · rintro ⟨g1, g2⟩
      by_cases e : ((j : Int) - k) % F = n
      · right; exact ((src_of hF (by omega : (0 : Int) ≤ n) (by omega) (by omega) g1).2 e.symm).symm
      · left; exact ⟨g1, by omega⟩

theorem turn_later {F k : Int} {x : BitVec 64} (h0 : 0 ≤ F) (h64 : F ≤ 64) : turnW F x k = laterW F x k F.toNat := by
  by_cases hF : F = 0
  · subst hF; simp [turnW, laterW]
  · refine word_ext fun j hj => ?_
    rw [turnW_bit (by omega) h64 hj, laterW_bit (by omega) h64 hj (by omega)]
    have : ((j : Int) - k) % F < F := Int.emod_lt_of_pos _ (by omega)
    have e : decide (((j : Int) - k) % F < (F.toNat : Nat)) = true := by simp; omega
    rw [e, Bool.and_true]

theorem round_turn {F k : Int} {n : Nat} (h0 : 0 ≤ F) (h64 : F ≤ 64) (hn : (n : Int) ≤ F) : turnW F (allB n) k = roundW F k n := by
  by_cases hF : F = 0
  · subst hF
    have : n = 0 := by omega
    subst this; simp [turnW, roundW]
  · refine word_ext fun j hj => ?_
    rw [turnW_bit (by omega) h64 hj, roundW_bit (by omega) h64 hj hn, allB_bit]
    have h1 : ((j : Int) - k) % F < F := Int.emod_lt_of_pos _ (by omega)
    have h2 : 0 ≤ ((j : Int) - k) % F := Int.emod_nonneg _ hF
    have e : decide ((((j : Int) - k) % F).toNat < 64) = true := by simp; omega
    rw [e, Bool.true_and]
    congr 1
    rw [Bool.eq_iff_iff]; simp only [decide_eq_true_eq]; omega
end Go.Am


/- The laws MaskRounds and MaskEnds. -/
set_option linter.unusedVariables false
set_option linter.unusedSimpArgs false
namespace Go.Am

variable {m : Mem}

theorem fr_nn (f : Int) : 0 ≤ fr f := (fr_le f).1
theorem turn_later' {f k : Int} {x : BitVec 64} : turnW (fr f) x k = laterW (fr f) x k (fr f).toNat := turn_later (fr_le f).1 (fr_le f).2
theorem round_turn' {f k n : Int} : turnW (fr f) (allB (min (max n 0) (fr f)).toNat) k = roundW (fr f) k (min (max n 0) (fr f)).toNat :=
  round_turn (fr_le f).1 (fr_le f).2 (by have := (fr_le f).1; omega)

theorem MaskRounds_spec {f from_ n : Int} {x : BitVec 64} : WC R F.law04_MaskRounds [.int .i64 f, .int .i64 from_, .int .i64 n, u64 x] m fun v m' => v = .bool true := by
  refine WC.of R.law04_MaskRounds rfl ?_
  simp only [RC.law04_MaskRounds, go_sem, not_true_eq_false, beq_self_eq_true, bne_self_eq_false, Bool.false_eq_true, if_false, if_true, Int.cast_ofNat_Int, decide_true, decide_false, reduceCtorEq, Nat.reduceEqDiff, Nat.reduceAdd, ne_eq, not_false_eq_true, Option.map_some, Option.bind_some, Option.map_none, Option.bind_none, true_and, and_true, Bool.not_true, Bool.not_false, Nat.reduceLeDiff, Nat.reduceMul, Nat.reduceSub, Nat.le_refl, Int.reduceToNat, Int.reduceLT, Int.reduceLE, Nat.one_mul, Nat.mul_one]
  refine gC.of mask_Round_spec ?_
  rintro _ m_ ⟨rfl, hm_⟩
  replace hm_ := hm_.symm
  subst hm_
  simp only [go_sem, not_true_eq_false, beq_self_eq_true, bne_self_eq_false, Bool.false_eq_true, if_false, if_true, Int.cast_ofNat_Int, decide_true, decide_false, reduceCtorEq, Nat.reduceEqDiff, Nat.reduceAdd, ne_eq, not_false_eq_true, Option.map_some, Option.bind_some, Option.map_none, Option.bind_none, true_and, and_true, Bool.not_true, Bool.not_false, Nat.reduceLeDiff, Nat.reduceMul, Nat.reduceSub, Nat.le_refl, Int.reduceToNat, Int.reduceLT, Int.reduceLE, Nat.one_mul, Nat.mul_one]
  refine gC.of ref04_Round_spec ?_
  rintro _ m_ ⟨rfl, hm_⟩
  replace hm_ := hm_.symm
  subst hm_
  simp only [go_sem, not_true_eq_false, beq_self_eq_true, bne_self_eq_false, Bool.false_eq_true, if_false, if_true, Int.cast_ofNat_Int, decide_true, decide_false, reduceCtorEq, Nat.reduceEqDiff, Nat.reduceAdd, ne_eq, not_false_eq_true, Option.map_some, Option.bind_some, Option.map_none, Option.bind_none, true_and, and_true, Bool.not_true, Bool.not_false, Nat.reduceLeDiff, Nat.reduceMul, Nat.reduceSub, Nat.le_refl, Int.reduceToNat, Int.reduceLT, Int.reduceLE, Nat.one_mul, Nat.mul_one]
  rw [round_turn']
  simp only [go_sem, not_true_eq_false, beq_self_eq_true, bne_self_eq_false, Bool.false_eq_true, if_false, if_true, Int.cast_ofNat_Int, decide_true, decide_false, reduceCtorEq, Nat.reduceEqDiff, Nat.reduceAdd, ne_eq, not_false_eq_true, Option.map_some, Option.bind_some, Option.map_none, Option.bind_none, true_and, and_true, Bool.not_true, Bool.not_false, Nat.reduceLeDiff, Nat.reduceMul, Nat.reduceSub, Nat.le_refl, Int.reduceToNat, Int.reduceLT, Int.reduceLE, Nat.one_mul, Nat.mul_one]
  refine gC.of mask_Turn_spec ?_
  rintro _ m_ ⟨rfl, hm_⟩
  replace hm_ := hm_.symm
  subst hm_
  simp only [go_sem, not_true_eq_false, beq_self_eq_true, bne_self_eq_false, Bool.false_eq_true, if_false, if_true, Int.cast_ofNat_Int, decide_true, decide_false, reduceCtorEq, Nat.reduceEqDiff, Nat.reduceAdd, ne_eq, not_false_eq_true, Option.map_some, Option.bind_some, Option.map_none, Option.bind_none, true_and, and_true, Bool.not_true, Bool.not_false, Nat.reduceLeDiff, Nat.reduceMul, Nat.reduceSub, Nat.le_refl, Int.reduceToNat, Int.reduceLT, Int.reduceLE, Nat.one_mul, Nat.mul_one]
  refine gC.of ref04_Turn_spec ?_
  rintro _ m_ ⟨rfl, hm_⟩
  replace hm_ := hm_.symm
  subst hm_
  simp only [go_sem, not_true_eq_false, beq_self_eq_true, bne_self_eq_false, Bool.false_eq_true, if_false, if_true, Int.cast_ofNat_Int, decide_true, decide_false, reduceCtorEq, Nat.reduceEqDiff, Nat.reduceAdd, ne_eq, not_false_eq_true, Option.map_some, Option.bind_some, Option.map_none, Option.bind_none, true_and, and_true, Bool.not_true, Bool.not_false, Nat.reduceLeDiff, Nat.reduceMul, Nat.reduceSub, Nat.le_refl, Int.reduceToNat, Int.reduceLT, Int.reduceLE, Nat.one_mul, Nat.mul_one]
  rw [turn_later']
  simp only [go_sem, not_true_eq_false, beq_self_eq_true, bne_self_eq_false, Bool.false_eq_true, if_false, if_true, Int.cast_ofNat_Int, decide_true, decide_false, reduceCtorEq, Nat.reduceEqDiff, Nat.reduceAdd, ne_eq, not_false_eq_true, Option.map_some, Option.bind_some, Option.map_none, Option.bind_none, true_and, and_true, Bool.not_true, Bool.not_false, Nat.reduceLeDiff, Nat.reduceMul, Nat.reduceSub, Nat.le_refl, Int.reduceToNat, Int.reduceLT, Int.reduceLE, Nat.one_mul, Nat.mul_one]
  refine gC.of (ok_spec R.law04_awake) ?_
  rintro _ m_ ⟨rfl, hm_⟩
  replace hm_ := hm_.symm
  subst hm_
  simp only [go_sem, not_true_eq_false, beq_self_eq_true, bne_self_eq_false, Bool.false_eq_true, if_false, if_true, Int.cast_ofNat_Int, decide_true, decide_false, reduceCtorEq, Nat.reduceEqDiff, Nat.reduceAdd, ne_eq, not_false_eq_true, Option.map_some, Option.bind_some, Option.map_none, Option.bind_none, true_and, and_true, Bool.not_true, Bool.not_false, Nat.reduceLeDiff, Nat.reduceMul, Nat.reduceSub, Nat.le_refl, Int.reduceToNat, Int.reduceLT, Int.reduceLE, Nat.one_mul, Nat.mul_one]

theorem MaskEnds_spec {k t : Int} {x : BitVec 64} : WC R F.law04_MaskEnds [u64 x, .int .i64 k, .int .i64 t] m fun v m' => v = .bool true := by
  refine WC.of R.law04_MaskEnds rfl ?_
  simp only [RC.law04_MaskEnds, go_sem, not_true_eq_false, beq_self_eq_true, bne_self_eq_false, Bool.false_eq_true, if_false, if_true, Int.cast_ofNat_Int, decide_true, decide_false, reduceCtorEq, Nat.reduceEqDiff, Nat.reduceAdd, ne_eq, not_false_eq_true, Option.map_some, Option.bind_some, Option.map_none, Option.bind_none, true_and, and_true, Bool.not_true, Bool.not_false, Nat.reduceLeDiff, Nat.reduceMul, Nat.reduceSub, Nat.le_refl, Int.reduceToNat, Int.reduceLT, Int.reduceLE, Nat.one_mul, Nat.mul_one]
  refine gC.of mask_Next_spec ?_
  rintro v1 m1 ⟨h1, hm⟩
  subst hm
  have hs : ∃ (i : Int) (b : Bool), v1 = .tuple #[.int .i64 i, .bool b] := by
    rcases h1 with ⟨a1, a2⟩ | ⟨a1, n, a2, a3⟩
    · exact ⟨_, _, a2⟩
    · exact ⟨_, _, a3⟩
  obtain ⟨i, b, hv1⟩ := hs
  subst hv1
  simp only [go_sem, not_true_eq_false, beq_self_eq_true, bne_self_eq_false, Bool.false_eq_true, if_false, if_true, Int.cast_ofNat_Int, decide_true, decide_false, reduceCtorEq, Nat.reduceEqDiff, Nat.reduceAdd, ne_eq, not_false_eq_true, Option.map_some, Option.bind_some, Option.map_none, Option.bind_none, true_and, and_true, Bool.not_true, Bool.not_false, Nat.reduceLeDiff, Nat.reduceMul, Nat.reduceSub, Nat.le_refl, Int.reduceToNat, Int.reduceLT, Int.reduceLE, Nat.one_mul, Nat.mul_one]
  refine gC.of ref04_Next_spec ?_
  rintro v2 m2 ⟨h2, hx⟩
  have hv : v2 = .tuple #[.int .i64 i, .bool b] := by
    rcases h1 with ⟨a1, a2⟩ | ⟨a1, n, a2, a3⟩ <;> rcases h2 with ⟨b1, b2⟩ | ⟨b1, n', b2, b3⟩
    · rw [a2, b2]
    · exact absurd a1 b1
    · exact absurd b1 a1
    · rw [a3, b3, isNext_uniq a2 b2]
  subst hv
  simp only [go_sem, not_true_eq_false, beq_self_eq_true, bne_self_eq_false, Bool.false_eq_true, if_false, if_true, Int.cast_ofNat_Int, decide_true, decide_false, reduceCtorEq, Nat.reduceEqDiff, Nat.reduceAdd, ne_eq, not_false_eq_true, Option.map_some, Option.bind_some, Option.map_none, Option.bind_none, true_and, and_true, Bool.not_true, Bool.not_false, Nat.reduceLeDiff, Nat.reduceMul, Nat.reduceSub, Nat.le_refl, Int.reduceToNat, Int.reduceLT, Int.reduceLE, Nat.one_mul, Nat.mul_one]
  refine gC.of mask_Lowest_spec ?_
  rintro _ _ ⟨⟨w1, rfl, hw1⟩, rfl⟩
  simp only [go_sem, not_true_eq_false, beq_self_eq_true, bne_self_eq_false, Bool.false_eq_true, if_false, if_true, Int.cast_ofNat_Int, decide_true, decide_false, reduceCtorEq, Nat.reduceEqDiff, Nat.reduceAdd, ne_eq, not_false_eq_true, Option.map_some, Option.bind_some, Option.map_none, Option.bind_none, true_and, and_true, Bool.not_true, Bool.not_false, Nat.reduceLeDiff, Nat.reduceMul, Nat.reduceSub, Nat.le_refl, Int.reduceToNat, Int.reduceLT, Int.reduceLE, Nat.one_mul, Nat.mul_one]
  refine gC.of ref04_Lowest_spec ?_
  rintro _ m3 ⟨⟨w2, rfl, hw2⟩, hx2⟩
  cases isLow_uniq hw1 hw2
  simp only [go_sem, not_true_eq_false, beq_self_eq_true, bne_self_eq_false, Bool.false_eq_true, if_false, if_true, Int.cast_ofNat_Int, decide_true, decide_false, reduceCtorEq, Nat.reduceEqDiff, Nat.reduceAdd, ne_eq, not_false_eq_true, Option.map_some, Option.bind_some, Option.map_none, Option.bind_none, true_and, and_true, Bool.not_true, Bool.not_false, Nat.reduceLeDiff, Nat.reduceMul, Nat.reduceSub, Nat.le_refl, Int.reduceToNat, Int.reduceLT, Int.reduceLE, Nat.one_mul, Nat.mul_one]
  refine gC.of mask_Highest_spec ?_
  rintro _ _ ⟨⟨w3, rfl, hw3⟩, rfl⟩
  simp only [go_sem, not_true_eq_false, beq_self_eq_true, bne_self_eq_false, Bool.false_eq_true, if_false, if_true, Int.cast_ofNat_Int, decide_true, decide_false, reduceCtorEq, Nat.reduceEqDiff, Nat.reduceAdd, ne_eq, not_false_eq_true, Option.map_some, Option.bind_some, Option.map_none, Option.bind_none, true_and, and_true, Bool.not_true, Bool.not_false, Nat.reduceLeDiff, Nat.reduceMul, Nat.reduceSub, Nat.le_refl, Int.reduceToNat, Int.reduceLT, Int.reduceLE, Nat.one_mul, Nat.mul_one]
  refine gC.of ref04_Highest_spec ?_
  rintro _ m4 ⟨⟨w4, rfl, hw4⟩, hx3⟩
  cases isHigh_uniq hw3 hw4
  simp only [go_sem, not_true_eq_false, beq_self_eq_true, bne_self_eq_false, Bool.false_eq_true, if_false, if_true, Int.cast_ofNat_Int, decide_true, decide_false, reduceCtorEq, Nat.reduceEqDiff, Nat.reduceAdd, ne_eq, not_false_eq_true, Option.map_some, Option.bind_some, Option.map_none, Option.bind_none, true_and, and_true, Bool.not_true, Bool.not_false, Nat.reduceLeDiff, Nat.reduceMul, Nat.reduceSub, Nat.le_refl, Int.reduceToNat, Int.reduceLT, Int.reduceLE, Nat.one_mul, Nat.mul_one, beq_self_eq_true, Bool.false_eq_true, if_false]
  refine gC.of (ok_spec R.law04_awake) ?_
  rintro _ m_ ⟨rfl, hm_⟩
  replace hm_ := hm_.symm
  subst hm_
  simp only [go_sem, not_true_eq_false, beq_self_eq_true, bne_self_eq_false, Bool.false_eq_true, if_false, if_true, Int.cast_ofNat_Int, decide_true, decide_false, reduceCtorEq, Nat.reduceEqDiff, Nat.reduceAdd, ne_eq, not_false_eq_true, Option.map_some, Option.bind_some, Option.map_none, Option.bind_none, true_and, and_true, Bool.not_true, Bool.not_false, Nat.reduceLeDiff, Nat.reduceMul, Nat.reduceSub, Nat.le_refl, Int.reduceToNat, Int.reduceLT, Int.reduceLE, Nat.one_mul, Nat.mul_one]
end Go.Am


/- The law MaskRuns. -/
set_option linter.unusedVariables false
set_option linter.unusedSimpArgs false
namespace Go.Am

variable {m : Mem}

/-- The ticks that rows of pairs have. -/
def cov (l : List (Nat × Nat)) (j : Nat) : Bool := l.any fun r => decide (r.1 ≤ j) && decide (j < r.2)

theorem cov_runs {x : BitVec 64} {j : Nat} (hj : j < 64) : cov (runs x 64) j = x.getLsbD j := by
  rw [Bool.eq_iff_iff]
  unfold cov runs
  simp only [List.any_eq_true, List.mem_map, Bool.and_eq_true, decide_eq_true_eq]
  constructor
  · rintro ⟨r, ⟨s, hs, rfl⟩, h1, h2⟩
    rw [mem_starts] at hs
    exact (endOf_spec (x := x) (s := s) (by omega)).2.2.1 j h1 h2
  · intro h
    obtain ⟨l, s, e, h1, h2, -⟩ := starts_last hj h
    have : s ∈ starts x (j + 1) := by rw [e]; simp
    rw [mem_starts] at this
    exact ⟨_, ⟨s, by rw [mem_starts]; exact ⟨by omega, this.2⟩, rfl⟩, h1, h2⟩

theorem starts_pair {x : BitVec 64} {n : Nat} : (starts x n).Pairwise (· < ·) := List.Pairwise.filter _ (List.pairwise_lt_range)

theorem runs_apart {x : BitVec 64} {i : Nat} (h : i + 1 < (runs x 64).length) : ((runs x 64)[i]'(by omega)).2 < ((runs x 64)[i + 1]).1 := by
  unfold runs at h ⊢
  simp only [List.length_map] at h
  simp only [List.getElem_map]
  have h1 := List.pairwise_iff_getElem.1 (starts_pair (x := x) (n := 64)) i (i + 1) (by omega) h (by omega)
  have h2 : (starts x 64)[i + 1] ∈ starts x 64 := List.getElem_mem _
  rw [mem_starts] at h2
  obtain ⟨h3, h4⟩ := h2
  generalize (starts x 64)[i + 1] = b at *
  unfold begins at h4
  simp only [Bool.and_eq_true, Bool.not_eq_true', Bool.and_eq_false_iff, decide_eq_false_iff_not] at h4
  have h5 : x.getLsbD (b - 1) = false := by
    rcases h4.2 with h | h
    · omega
    · exact h
  have := endOf_le (x := x) (s := (starts x 64)[i]) (n := b - 1) (by omega) (by omega) h5
  omega

theorem runs_le {x : BitVec 64} {i : Nat} (h : i < (runs x 64).length) : ((runs x 64)[i]).1 ≤ ((runs x 64)[i]).2 ∧ ((runs x 64)[i]).2 ≤ 64 := by
  unfold runs at h ⊢
  simp only [List.length_map] at h
  simp only [List.getElem_map]
  have h2 : (starts x 64)[i] ∈ starts x 64 := List.getElem_mem _
  rw [mem_starts] at h2
  have := endOf_spec (x := x) (s := (starts x 64)[i]) (by omega)
  exact ⟨this.1, this.2.1⟩

theorem pairsV_drop {l : List (Nat × Nat)} : ∀ {i : Nat} (h : i < l.length), ((pairsV l).drop (i * 2)).take 2 = [.int .i64 (l[i].1 : Int), .int .i64 (l[i].2 : Int)] := by
  induction l with
  | nil => intro i h; simp at h
  | cons p l ih =>
    intro i h
    cases i with
    | zero => rfl
    | succ i =>
      have : pairsV (p :: l) = [.int .i64 (p.1 : Int), .int .i64 (p.2 : Int)] ++ pairsV l := rfl
      rw [this, show (i + 1) * 2 = [Value.int .i64 (p.1 : Int), .int .i64 (p.2 : Int)].length + i * 2 by simp; omega, ← List.drop_drop, List.drop_left, ih (by simpa using h)]
      rfl

theorem pairsV_get0 {l : List (Nat × Nat)} {i : Nat} (h : i < l.length) : (pairsV l)[i * 2 + 0]? = some (.int .i64 (l[i].1 : Int)) := by
  have := pairsV_drop h
  have h2 := congrArg (fun c => c[0]?) this
  simpa [List.getElem?_take, List.getElem?_drop] using h2
theorem pairsV_get1 {l : List (Nat × Nat)} {i : Nat} (h : i < l.length) : (pairsV l)[i * 2 + 1]? = some (.int .i64 (l[i].2 : Int)) := by
  have := pairsV_drop h
  have h2 := congrArg (fun c => c[1]?) this
  simpa [List.getElem?_take, List.getElem?_drop] using h2

/-- What is read of the i-th pair. -/
theorem pair_at {l : List (Nat × Nat)} {v : Value} (hs : Sl m 2 l.length (pairsV l) v) {i : Nat} (h : i < l.length) :
    ∃ b o, aIdxS 2 v (.int .i64 i) = some (.pointer (some ⟨b, o, none⟩)) ∧ aLoad false 1 m (.pointer (some ⟨b, o, none⟩)) = some (.int .i64 (l[i].1 : Int)) ∧
      aLoad false 1 m (.pointer (some ⟨b, o + 1, none⟩)) = some (.int .i64 (l[i].2 : Int)) ∧ aLoad true 2 m (.pointer (some ⟨b, o, none⟩)) = some (.agg [.int .i64 (l[i].1 : Int), .int .i64 (l[i].2 : Int)].toArray) := by
  obtain ⟨b, o, h1, h2, h3⟩ := hs.cell (k := .i64) h
  have a0 := h2 0 (by omega)
  rw [pairsV_get0 h, Nat.add_zero] at a0
  have a1 := h2 1 (by omega)
  rw [pairsV_get1 h] at a1
  rw [pairsV_drop h] at h3
  exact ⟨b, o, h1, a0, a1, h3⟩

theorem cov_take {l : List (Nat × Nat)} {i j : Nat} (h : i < l.length) : cov (l.take (i + 1)) j = (cov (l.take i) j || (decide (l[i].1 ≤ j) && decide (j < l[i].2))) := by
  unfold cov
  rw [List.take_succ_eq_append_getElem h, List.any_append]
  simp

set_option maxHeartbeats 4000000 in
theorem MaskRuns_spec {x : BitVec 64} : WC R F.law04_MaskRuns [u64 x] m fun v m' => v = .bool true := by
  refine WC.of R.law04_MaskRuns rfl ?_
  simp only [RC.law04_MaskRuns, go_sem, not_true_eq_false, beq_self_eq_true, bne_self_eq_false, Bool.false_eq_true, if_false, if_true, Int.cast_ofNat_Int, decide_true, decide_false, reduceCtorEq, Nat.reduceEqDiff, Nat.reduceAdd, ne_eq, not_false_eq_true, Option.map_some, Option.bind_some, Option.map_none, Option.bind_none, true_and, and_true, Bool.not_true, Bool.not_false, Nat.reduceLeDiff, Nat.reduceMul, Nat.reduceSub, Nat.le_refl, Int.reduceToNat, Int.reduceLT, Int.reduceLE, Nat.one_mul, Nat.mul_one]
  refine gC.of mask_Runs_spec ?_
  rintro lv m1 ⟨ho, hx⟩
  simp only [go_sem, not_true_eq_false, beq_self_eq_true, bne_self_eq_false, Bool.false_eq_true, if_false, if_true, Int.cast_ofNat_Int, decide_true, decide_false, reduceCtorEq, Nat.reduceEqDiff, Nat.reduceAdd, ne_eq, not_false_eq_true, Option.map_some, Option.bind_some, Option.map_none, Option.bind_none, true_and, and_true, Bool.not_true, Bool.not_false, Nat.reduceLeDiff, Nat.reduceMul, Nat.reduceSub, Nat.le_refl, Int.reduceToNat, Int.reduceLT, Int.reduceLE, Nat.one_mul, Nat.mul_one]
  refine gC.of ref04_Runs_spec ?_
  rintro wv m2 ⟨hw, hx2⟩
  replace ho := (ho.keep hx2).sl
  replace hw := hw.sl
  simp only [go_sem, not_true_eq_false, beq_self_eq_true, bne_self_eq_false, Bool.false_eq_true, if_false, if_true, Int.cast_ofNat_Int, decide_true, decide_false, reduceCtorEq, Nat.reduceEqDiff, Nat.reduceAdd, ne_eq, not_false_eq_true, Option.map_some, Option.bind_some, Option.map_none, Option.bind_none, true_and, and_true, Bool.not_true, Bool.not_false, Nat.reduceLeDiff, Nat.reduceMul, Nat.reduceSub, Nat.le_refl, Int.reduceToNat, Int.reduceLT, Int.reduceLE, Nat.one_mul, Nat.mul_one, ho.len, hw.len, bne_self_eq_false]
  have h64 : (runs x 64).length ≤ 64 := by
    unfold runs starts
    rw [List.length_map]
    exact Nat.le_trans (List.length_filter_le _ _) (by simp)
  generalize hL : runs x 64 = L at *
  refine WL.of (fun n e m' => ∃ (i : Nat) (y : BitVec 64), i ≤ L.length ∧ n = L.length - i ∧ e = [(0, u64 x), (3, lv), (4, wv), (5, u64 y), (6, .int .i64 i)] ∧
      (∀ j, j < 64 → y.getLsbD j = cov (L.take i) j) ∧ m' = m2) L.length ⟨0, 0#64, by omega, by omega, by simp only [go_sem, not_true_eq_false, beq_self_eq_true, bne_self_eq_false, Bool.false_eq_true, if_false, if_true, Int.cast_ofNat_Int, decide_true, decide_false, reduceCtorEq, Nat.reduceEqDiff, Nat.reduceAdd, ne_eq, not_false_eq_true, Option.map_some, Option.bind_some, Option.map_none, Option.bind_none, true_and, and_true, Bool.not_true, Bool.not_false, Nat.reduceLeDiff, Nat.reduceMul, Nat.reduceSub, Nat.le_refl, Int.reduceToNat, Int.reduceLT, Int.reduceLE, Nat.one_mul, Nat.mul_one], by intro j hj; simp [cov], rfl⟩ ?_
  rintro _ _ m2 ⟨i, y, hi, rfl, rfl, hy, hmm⟩
  subst hmm
  simp only [go_sem, not_true_eq_false, beq_self_eq_true, bne_self_eq_false, Bool.false_eq_true, if_false, if_true, Int.cast_ofNat_Int, decide_true, decide_false, reduceCtorEq, Nat.reduceEqDiff, Nat.reduceAdd, ne_eq, not_false_eq_true, Option.map_some, Option.bind_some, Option.map_none, Option.bind_none, true_and, and_true, Bool.not_true, Bool.not_false, Nat.reduceLeDiff, Nat.reduceMul, Nat.reduceSub, Nat.le_refl, Int.reduceToNat, Int.reduceLT, Int.reduceLE, Nat.one_mul, Nat.mul_one, ho.len]
  refine gT.of (fun h => ?_) (fun h => ?_)
  · simp only [go_sem, not_true_eq_false, beq_self_eq_true, bne_self_eq_false, Bool.false_eq_true, if_false, if_true, Int.cast_ofNat_Int, decide_true, decide_false, reduceCtorEq, Nat.reduceEqDiff, Nat.reduceAdd, ne_eq, not_false_eq_true, Option.map_some, Option.bind_some, Option.map_none, Option.bind_none, true_and, and_true, Bool.not_true, Bool.not_false, Nat.reduceLeDiff, Nat.reduceMul, Nat.reduceSub, Nat.le_refl, Int.reduceToNat, Int.reduceLT, Int.reduceLE, Nat.one_mul, Nat.mul_one, h]
    simp only [decide_eq_true_eq] at h
    have hil : i < L.length := by omega
    obtain ⟨b, o, a1, a2, a3, a4⟩ := pair_at ho hil
    obtain ⟨c, q, b1, b2, b3, b4⟩ := pair_at hw hil
    obtain ⟨r1, r2⟩ := runs_le (x := x) (i := i) (by rw [hL]; exact hil)
    simp only [hL] at r1 r2
    cases h0 : decide (0 < (i : Int))
    case' true =>
      have h1 := h0
      simp only [decide_eq_true_eq] at h1
      obtain ⟨k, hk⟩ : ∃ k, i = k + 1 := ⟨i - 1, by omega⟩
      have hw1 : IntKind.wrap .i64 ((i : Int) - 1) = (k : Int) := by rw [wrap_i64 (by omega) (by omega)]; omega
      obtain ⟨d, z, d1, d2, d3, d4⟩ := pair_at ho (i := k) (by omega)
      have hap := runs_apart (x := x) (i := k) (by rw [hL, ← hk]; exact hil)
      simp only [hL, ← hk] at hap
      have hap2 : decide (((L[i].1 : Nat) : Int) ≤ ((L[k].2 : Nat) : Int)) = false := by rw [decide_eq_false_iff_not]; omega
      simp only [go_sem, not_true_eq_false, beq_self_eq_true, bne_self_eq_false, Bool.false_eq_true, if_false, if_true, Int.cast_ofNat_Int, decide_true, decide_false, reduceCtorEq, Nat.reduceEqDiff, Nat.reduceAdd, ne_eq, not_false_eq_true, Option.map_some, Option.bind_some, Option.map_none, Option.bind_none, true_and, and_true, Bool.not_true, Bool.not_false, Nat.reduceLeDiff, Nat.reduceMul, Nat.reduceSub, Nat.le_refl, Int.reduceToNat, Int.reduceLT, Int.reduceLE, Nat.one_mul, Nat.mul_one, a1, a2, a3, a4, b1, b4, beq_self_eq_true, Bool.and_self, if_true, Nat.add_zero, h0, hw1, d1, d2, d3, hap2, Nat.zero_add]
    case' false =>
      simp only [go_sem, not_true_eq_false, beq_self_eq_true, bne_self_eq_false, Bool.false_eq_true, if_false, if_true, Int.cast_ofNat_Int, decide_true, decide_false, reduceCtorEq, Nat.reduceEqDiff, Nat.reduceAdd, ne_eq, not_false_eq_true, Option.map_some, Option.bind_some, Option.map_none, Option.bind_none, true_and, and_true, Bool.not_true, Bool.not_false, Nat.reduceLeDiff, Nat.reduceMul, Nat.reduceSub, Nat.le_refl, Int.reduceToNat, Int.reduceLT, Int.reduceLE, Nat.one_mul, Nat.mul_one, a1, a2, a3, a4, b1, b4, beq_self_eq_true, Bool.and_self, if_true, Nat.add_zero, h0, Nat.zero_add]
    all_goals
      clear h0
      generalize hs1 : L[i].1 = s1 at *
      generalize hs2 : L[i].2 = s2 at *
      refine WL.of (fun n e m' => ∃ (t : Nat) (z : BitVec 64), s1 ≤ t ∧ t ≤ s2 ∧ n = s2 - t ∧ e = [(0, u64 x), (3, lv), (4, wv), (5, u64 z), (6, .int .i64 i), (7, .int .i64 t)] ∧
        (∀ j, j < 64 → z.getLsbD j = (y.getLsbD j || (decide (s1 ≤ j) && decide (j < t)))) ∧ m' = m2) (s2 - s1) ⟨s1, y, by omega, by omega, rfl, by simp only [go_sem, not_true_eq_false, beq_self_eq_true, bne_self_eq_false, Bool.false_eq_true, if_false, if_true, Int.cast_ofNat_Int, decide_true, decide_false, reduceCtorEq, Nat.reduceEqDiff, Nat.reduceAdd, ne_eq, not_false_eq_true, Option.map_some, Option.bind_some, Option.map_none, Option.bind_none, true_and, and_true, Bool.not_true, Bool.not_false, Nat.reduceLeDiff, Nat.reduceMul, Nat.reduceSub, Nat.le_refl, Int.reduceToNat, Int.reduceLT, Int.reduceLE, Nat.one_mul, Nat.mul_one], ?_, rfl⟩ ?_
      · intro j hj
        have : (decide (s1 ≤ j) && decide (j < s1)) = false := by rw [Bool.and_eq_false_iff, decide_eq_false_iff_not, decide_eq_false_iff_not]; omega
        rw [this, Bool.or_false]
      rintro _ _ _ ⟨t, z, t1, t2, rfl, rfl, hz, rfl⟩
      simp only [go_sem, not_true_eq_false, beq_self_eq_true, bne_self_eq_false, Bool.false_eq_true, if_false, if_true, Int.cast_ofNat_Int, decide_true, decide_false, reduceCtorEq, Nat.reduceEqDiff, Nat.reduceAdd, ne_eq, not_false_eq_true, Option.map_some, Option.bind_some, Option.map_none, Option.bind_none, true_and, and_true, Bool.not_true, Bool.not_false, Nat.reduceLeDiff, Nat.reduceMul, Nat.reduceSub, Nat.le_refl, Int.reduceToNat, Int.reduceLT, Int.reduceLE, Nat.one_mul, Nat.mul_one, a1, a3]
      refine gT.of (fun h2 => ?_) (fun h2 => ?_)
      · simp only [go_sem, not_true_eq_false, beq_self_eq_true, bne_self_eq_false, Bool.false_eq_true, if_false, if_true, Int.cast_ofNat_Int, decide_true, decide_false, reduceCtorEq, Nat.reduceEqDiff, Nat.reduceAdd, ne_eq, not_false_eq_true, Option.map_some, Option.bind_some, Option.map_none, Option.bind_none, true_and, and_true, Bool.not_true, Bool.not_false, Nat.reduceLeDiff, Nat.reduceMul, Nat.reduceSub, Nat.le_refl, Int.reduceToNat, Int.reduceLT, Int.reduceLE, Nat.one_mul, Nat.mul_one, h2]
        simp only [decide_eq_true_eq] at h2
        refine gC.of ref04_With_spec ?_
        rintro _ m_ ⟨rfl, hm_⟩
        replace hm_ := hm_.symm
        subst hm_
        simp only [go_sem, not_true_eq_false, beq_self_eq_true, bne_self_eq_false, Bool.false_eq_true, if_false, if_true, Int.cast_ofNat_Int, decide_true, decide_false, reduceCtorEq, Nat.reduceEqDiff, Nat.reduceAdd, ne_eq, not_false_eq_true, Option.map_some, Option.bind_some, Option.map_none, Option.bind_none, true_and, and_true, Bool.not_true, Bool.not_false, Nat.reduceLeDiff, Nat.reduceMul, Nat.reduceSub, Nat.le_refl, Int.reduceToNat, Int.reduceLT, Int.reduceLE, Nat.one_mul, Nat.mul_one]
        refine ⟨s2 - (t + 1), by omega, t + 1, withB z t, by omega, by omega, rfl, ?_, ?_⟩
        · rw [wrap_i64 (by omega) (by omega)]; rfl
        · intro j hj
          rw [withB_bit hj, hz j hj, Bool.or_assoc]
          congr 1
          rw [Bool.eq_iff_iff]; simp; omega
      · simp only [go_sem, not_true_eq_false, beq_self_eq_true, bne_self_eq_false, Bool.false_eq_true, if_false, if_true, Int.cast_ofNat_Int, decide_true, decide_false, reduceCtorEq, Nat.reduceEqDiff, Nat.reduceAdd, ne_eq, not_false_eq_true, Option.map_some, Option.bind_some, Option.map_none, Option.bind_none, true_and, and_true, Bool.not_true, Bool.not_false, Nat.reduceLeDiff, Nat.reduceMul, Nat.reduceSub, Nat.le_refl, Int.reduceToNat, Int.reduceLT, Int.reduceLE, Nat.one_mul, Nat.mul_one, h2]
        simp only [decide_eq_false_iff_not] at h2
        refine ⟨L.length - (i + 1), by omega, i + 1, z, by omega, rfl, ?_, ?_⟩
        · rw [wrap_i64 (by omega) (by omega)]; rfl
        · intro j hj
          rw [cov_take hil, hz j hj, hy j hj, hs1, hs2, show t = s2 by omega]
  · simp only [go_sem, not_true_eq_false, beq_self_eq_true, bne_self_eq_false, Bool.false_eq_true, if_false, if_true, Int.cast_ofNat_Int, decide_true, decide_false, reduceCtorEq, Nat.reduceEqDiff, Nat.reduceAdd, ne_eq, not_false_eq_true, Option.map_some, Option.bind_some, Option.map_none, Option.bind_none, true_and, and_true, Bool.not_true, Bool.not_false, Nat.reduceLeDiff, Nat.reduceMul, Nat.reduceSub, Nat.le_refl, Int.reduceToNat, Int.reduceLT, Int.reduceLE, Nat.one_mul, Nat.mul_one, h]
    have he : y = x := word_ext fun j hj => by
      simp only [decide_eq_false_iff_not] at h
      rw [hy j hj, List.take_of_length_le (by omega), ← hL, cov_runs hj]
    subst he
    simp only [go_sem, not_true_eq_false, beq_self_eq_true, bne_self_eq_false, Bool.false_eq_true, if_false, if_true, Int.cast_ofNat_Int, decide_true, decide_false, reduceCtorEq, Nat.reduceEqDiff, Nat.reduceAdd, ne_eq, not_false_eq_true, Option.map_some, Option.bind_some, Option.map_none, Option.bind_none, true_and, and_true, Bool.not_true, Bool.not_false, Nat.reduceLeDiff, Nat.reduceMul, Nat.reduceSub, Nat.le_refl, Int.reduceToNat, Int.reduceLT, Int.reduceLE, Nat.one_mul, Nat.mul_one]
    refine gC.of (ok_spec R.law04_awake) ?_
    rintro _ m_ ⟨rfl, hm_⟩
    replace hm_ := hm_.symm
    subst hm_
    simp only [go_sem, not_true_eq_false, beq_self_eq_true, bne_self_eq_false, Bool.false_eq_true, if_false, if_true, Int.cast_ofNat_Int, decide_true, decide_false, reduceCtorEq, Nat.reduceEqDiff, Nat.reduceAdd, ne_eq, not_false_eq_true, Option.map_some, Option.bind_some, Option.map_none, Option.bind_none, true_and, and_true, Bool.not_true, Bool.not_false, Nat.reduceLeDiff, Nat.reduceMul, Nat.reduceSub, Nat.le_refl, Int.reduceToNat, Int.reduceLT, Int.reduceLE, Nat.one_mul, Nat.mul_one]
end Go.Am


/- The laws MaskSets and MaskApart. -/
set_option linter.unusedVariables false
set_option linter.unusedSimpArgs false
namespace Go.Am

variable {m : Mem}

theorem ofW_bit {j : Nat} (hj : j < 64) : ∀ {l : List Int} {w : BitVec 64}, (l.foldl withB w).getLsbD j = (w.getLsbD j || l.any fun t => decide ((j : Int) = t))
  | [], w => by simp
  | t :: l, w => by
    rw [List.foldl_cons, ofW_bit hj, withB_bit hj, List.any_cons, Bool.or_assoc]

def zs (l : List Nat) : List Int := l.map fun (t : Nat) => (t : Int)
theorem zs_len {l : List Nat} : (zs l).length = l.length := by simp [zs]
theorem zs_ints {l : List Nat} : intsZ (zs l) = ints l := by simp [zs, intsZ, ints]

theorem ofW_tks {x : BitVec 64} : ofW (zs (tks x 64)) = x := word_ext fun j hj => by
  unfold ofW
  rw [ofW_bit hj]
  rw [Bool.eq_iff_iff]
  simp only [zs, tks, BitVec.getLsbD_zero, Bool.false_or, List.any_eq_true, List.mem_map, List.mem_filter, List.mem_range, decide_eq_true_eq]
  constructor
  · rintro ⟨_, ⟨t, ⟨h1, h2⟩, rfl⟩, h3⟩
    have : j = t := by omega
    rw [this]; exact h2
  · intro h; exact ⟨_, ⟨j, ⟨hj, h⟩, rfl⟩, rfl⟩

set_option maxHeartbeats 4000000 in
theorem MaskSets_spec {x : BitVec 64} {f t : Int} {l : List Int} {v : Value} (hs : Sl m 1 l.length (intsZ l) v) (hb : SlLt m v) : WC R F.law04_MaskSets [u64 x, .int .i64 f, .int .i64 t, v] m fun v m' => v = .bool true := by
  refine WC.of R.law04_MaskSets rfl ?_
  simp only [RC.law04_MaskSets, go_sem, not_true_eq_false, beq_self_eq_true, bne_self_eq_false, Bool.false_eq_true, if_false, if_true, Int.cast_ofNat_Int, decide_true, decide_false, reduceCtorEq, Nat.reduceEqDiff, Nat.reduceAdd, ne_eq, not_false_eq_true, Option.map_some, Option.bind_some, Option.map_none, Option.bind_none, true_and, and_true, Bool.not_true, Bool.not_false, Nat.reduceLeDiff, Nat.reduceMul, Nat.reduceSub, Nat.le_refl, Int.reduceToNat, Int.reduceLT, Int.reduceLE, Nat.one_mul, Nat.mul_one, hs.len]
  refine gT.of (fun hl => ?_) (fun hl => ?_)
  · simp only [go_sem, not_true_eq_false, beq_self_eq_true, bne_self_eq_false, Bool.false_eq_true, if_false, if_true, Int.cast_ofNat_Int, decide_true, decide_false, reduceCtorEq, Nat.reduceEqDiff, Nat.reduceAdd, ne_eq, not_false_eq_true, Option.map_some, Option.bind_some, Option.map_none, Option.bind_none, true_and, and_true, Bool.not_true, Bool.not_false, Nat.reduceLeDiff, Nat.reduceMul, Nat.reduceSub, Nat.le_refl, Int.reduceToNat, Int.reduceLT, Int.reduceLE, Nat.one_mul, Nat.mul_one]
    refine gC.of (ok_spec R.law04_awake) ?_
    rintro _ m_ ⟨rfl, hm_⟩
    replace hm_ := hm_.symm
    subst hm_
    simp only [go_sem, not_true_eq_false, beq_self_eq_true, bne_self_eq_false, Bool.false_eq_true, if_false, if_true, Int.cast_ofNat_Int, decide_true, decide_false, reduceCtorEq, Nat.reduceEqDiff, Nat.reduceAdd, ne_eq, not_false_eq_true, Option.map_some, Option.bind_some, Option.map_none, Option.bind_none, true_and, and_true, Bool.not_true, Bool.not_false, Nat.reduceLeDiff, Nat.reduceMul, Nat.reduceSub, Nat.le_refl, Int.reduceToNat, Int.reduceLT, Int.reduceLE, Nat.one_mul, Nat.mul_one]
  · simp only [decide_eq_false_iff_not] at hl
    simp only [go_sem, not_true_eq_false, beq_self_eq_true, bne_self_eq_false, Bool.false_eq_true, if_false, if_true, Int.cast_ofNat_Int, decide_true, decide_false, reduceCtorEq, Nat.reduceEqDiff, Nat.reduceAdd, ne_eq, not_false_eq_true, Option.map_some, Option.bind_some, Option.map_none, Option.bind_none, true_and, and_true, Bool.not_true, Bool.not_false, Nat.reduceLeDiff, Nat.reduceMul, Nat.reduceSub, Nat.le_refl, Int.reduceToNat, Int.reduceLT, Int.reduceLE, Nat.one_mul, Nat.mul_one]
    refine gC.of mask_All_spec ?_
    rintro _ m_ ⟨rfl, hm_⟩
    replace hm_ := hm_.symm
    subst hm_
    simp only [go_sem, not_true_eq_false, beq_self_eq_true, bne_self_eq_false, Bool.false_eq_true, if_false, if_true, Int.cast_ofNat_Int, decide_true, decide_false, reduceCtorEq, Nat.reduceEqDiff, Nat.reduceAdd, ne_eq, not_false_eq_true, Option.map_some, Option.bind_some, Option.map_none, Option.bind_none, true_and, and_true, Bool.not_true, Bool.not_false, Nat.reduceLeDiff, Nat.reduceMul, Nat.reduceSub, Nat.le_refl, Int.reduceToNat, Int.reduceLT, Int.reduceLE, Nat.one_mul, Nat.mul_one]
    refine gC.of ref04_All_spec ?_
    rintro _ m_ ⟨rfl, hm_⟩
    replace hm_ := hm_.symm
    subst hm_
    simp only [go_sem, not_true_eq_false, beq_self_eq_true, bne_self_eq_false, Bool.false_eq_true, if_false, if_true, Int.cast_ofNat_Int, decide_true, decide_false, reduceCtorEq, Nat.reduceEqDiff, Nat.reduceAdd, ne_eq, not_false_eq_true, Option.map_some, Option.bind_some, Option.map_none, Option.bind_none, true_and, and_true, Bool.not_true, Bool.not_false, Nat.reduceLeDiff, Nat.reduceMul, Nat.reduceSub, Nat.le_refl, Int.reduceToNat, Int.reduceLT, Int.reduceLE, Nat.one_mul, Nat.mul_one]
    refine gC.of mask_Has_spec ?_
    rintro _ m_ ⟨rfl, hm_⟩
    replace hm_ := hm_.symm
    subst hm_
    simp only [go_sem, not_true_eq_false, beq_self_eq_true, bne_self_eq_false, Bool.false_eq_true, if_false, if_true, Int.cast_ofNat_Int, decide_true, decide_false, reduceCtorEq, Nat.reduceEqDiff, Nat.reduceAdd, ne_eq, not_false_eq_true, Option.map_some, Option.bind_some, Option.map_none, Option.bind_none, true_and, and_true, Bool.not_true, Bool.not_false, Nat.reduceLeDiff, Nat.reduceMul, Nat.reduceSub, Nat.le_refl, Int.reduceToNat, Int.reduceLT, Int.reduceLE, Nat.one_mul, Nat.mul_one]
    refine gC.of ref04_Has_spec ?_
    rintro _ m_ ⟨rfl, hm_⟩
    replace hm_ := hm_.symm
    subst hm_
    simp only [go_sem, not_true_eq_false, beq_self_eq_true, bne_self_eq_false, Bool.false_eq_true, if_false, if_true, Int.cast_ofNat_Int, decide_true, decide_false, reduceCtorEq, Nat.reduceEqDiff, Nat.reduceAdd, ne_eq, not_false_eq_true, Option.map_some, Option.bind_some, Option.map_none, Option.bind_none, true_and, and_true, Bool.not_true, Bool.not_false, Nat.reduceLeDiff, Nat.reduceMul, Nat.reduceSub, Nat.le_refl, Int.reduceToNat, Int.reduceLT, Int.reduceLE, Nat.one_mul, Nat.mul_one]
    refine gC.of mask_Count_spec ?_
    rintro _ m_ ⟨rfl, hm_⟩
    replace hm_ := hm_.symm
    subst hm_
    simp only [go_sem, not_true_eq_false, beq_self_eq_true, bne_self_eq_false, Bool.false_eq_true, if_false, if_true, Int.cast_ofNat_Int, decide_true, decide_false, reduceCtorEq, Nat.reduceEqDiff, Nat.reduceAdd, ne_eq, not_false_eq_true, Option.map_some, Option.bind_some, Option.map_none, Option.bind_none, true_and, and_true, Bool.not_true, Bool.not_false, Nat.reduceLeDiff, Nat.reduceMul, Nat.reduceSub, Nat.le_refl, Int.reduceToNat, Int.reduceLT, Int.reduceLE, Nat.one_mul, Nat.mul_one]
    refine gC.of ref04_Count_spec ?_
    rintro _ m1 ⟨rfl, hx1⟩
    rw [pop_rank]
    simp only [go_sem, not_true_eq_false, beq_self_eq_true, bne_self_eq_false, Bool.false_eq_true, if_false, if_true, Int.cast_ofNat_Int, decide_true, decide_false, reduceCtorEq, Nat.reduceEqDiff, Nat.reduceAdd, ne_eq, not_false_eq_true, Option.map_some, Option.bind_some, Option.map_none, Option.bind_none, true_and, and_true, Bool.not_true, Bool.not_false, Nat.reduceLeDiff, Nat.reduceMul, Nat.reduceSub, Nat.le_refl, Int.reduceToNat, Int.reduceLT, Int.reduceLE, Nat.one_mul, Nat.mul_one, show rank x 64 = (tks x 64).length from rfl]
    refine gC.of mask_Ticks_spec ?_
    rintro v2 m2 ⟨ho2, hx2⟩
    simp only [go_sem, not_true_eq_false, beq_self_eq_true, bne_self_eq_false, Bool.false_eq_true, if_false, if_true, Int.cast_ofNat_Int, decide_true, decide_false, reduceCtorEq, Nat.reduceEqDiff, Nat.reduceAdd, ne_eq, not_false_eq_true, Option.map_some, Option.bind_some, Option.map_none, Option.bind_none, true_and, and_true, Bool.not_true, Bool.not_false, Nat.reduceLeDiff, Nat.reduceMul, Nat.reduceSub, Nat.le_refl, Int.reduceToNat, Int.reduceLT, Int.reduceLE, Nat.one_mul, Nat.mul_one]
    refine gC.of ref04_Ticks_spec ?_
    rintro v3 m3 ⟨ho3, hx3⟩
    have s2 := (ho2.keep hx3).sl
    have s3 := ho3.sl
    have h64 : (tks x 64).length ≤ 64 := rank_le x 64
    rw [← zs_ints, ← zs_len] at s2 s3
    rw [← zs_len] at h64
    simp only [go_sem, not_true_eq_false, beq_self_eq_true, bne_self_eq_false, Bool.false_eq_true, if_false, if_true, Int.cast_ofNat_Int, decide_true, decide_false, reduceCtorEq, Nat.reduceEqDiff, Nat.reduceAdd, ne_eq, not_false_eq_true, Option.map_some, Option.bind_some, Option.map_none, Option.bind_none, true_and, and_true, Bool.not_true, Bool.not_false, Nat.reduceLeDiff, Nat.reduceMul, Nat.reduceSub, Nat.le_refl, Int.reduceToNat, Int.reduceLT, Int.reduceLE, Nat.one_mul, Nat.mul_one]
    refine gC.of (ref03_Same_spec s2 s3 (by omega) (by omega)) ?_
    rintro _ m_ ⟨rfl, hm_⟩
    replace hm_ := hm_.symm
    subst hm_
    simp only [go_sem, not_true_eq_false, beq_self_eq_true, bne_self_eq_false, Bool.false_eq_true, if_false, if_true, Int.cast_ofNat_Int, decide_true, decide_false, reduceCtorEq, Nat.reduceEqDiff, Nat.reduceAdd, ne_eq, not_false_eq_true, Option.map_some, Option.bind_some, Option.map_none, Option.bind_none, true_and, and_true, Bool.not_true, Bool.not_false, Nat.reduceLeDiff, Nat.reduceMul, Nat.reduceSub, Nat.le_refl, Int.reduceToNat, Int.reduceLT, Int.reduceLE, Nat.one_mul, Nat.mul_one]
    have sl : Sl m3 1 l.length (intsZ l) v := hs.keep hb (hx1.trans (hx2.trans hx3))
    refine gC.of (mask_Of_spec sl (by omega)) ?_
    rintro _ m_ ⟨rfl, hm_⟩
    replace hm_ := hm_.symm
    subst hm_
    simp only [go_sem, not_true_eq_false, beq_self_eq_true, bne_self_eq_false, Bool.false_eq_true, if_false, if_true, Int.cast_ofNat_Int, decide_true, decide_false, reduceCtorEq, Nat.reduceEqDiff, Nat.reduceAdd, ne_eq, not_false_eq_true, Option.map_some, Option.bind_some, Option.map_none, Option.bind_none, true_and, and_true, Bool.not_true, Bool.not_false, Nat.reduceLeDiff, Nat.reduceMul, Nat.reduceSub, Nat.le_refl, Int.reduceToNat, Int.reduceLT, Int.reduceLE, Nat.one_mul, Nat.mul_one]
    refine gC.of (ref04_Of_spec sl (by omega)) ?_
    rintro _ m_ ⟨rfl, hm_⟩
    replace hm_ := hm_.symm
    subst hm_
    simp only [go_sem, not_true_eq_false, beq_self_eq_true, bne_self_eq_false, Bool.false_eq_true, if_false, if_true, Int.cast_ofNat_Int, decide_true, decide_false, reduceCtorEq, Nat.reduceEqDiff, Nat.reduceAdd, ne_eq, not_false_eq_true, Option.map_some, Option.bind_some, Option.map_none, Option.bind_none, true_and, and_true, Bool.not_true, Bool.not_false, Nat.reduceLeDiff, Nat.reduceMul, Nat.reduceSub, Nat.le_refl, Int.reduceToNat, Int.reduceLT, Int.reduceLE, Nat.one_mul, Nat.mul_one]
    refine gC.of mask_Ticks_spec ?_
    rintro v4 m4 ⟨ho4, hx4⟩
    have s4 := ho4.sl
    rw [← zs_ints, ← zs_len] at s4
    simp only [go_sem, not_true_eq_false, beq_self_eq_true, bne_self_eq_false, Bool.false_eq_true, if_false, if_true, Int.cast_ofNat_Int, decide_true, decide_false, reduceCtorEq, Nat.reduceEqDiff, Nat.reduceAdd, ne_eq, not_false_eq_true, Option.map_some, Option.bind_some, Option.map_none, Option.bind_none, true_and, and_true, Bool.not_true, Bool.not_false, Nat.reduceLeDiff, Nat.reduceMul, Nat.reduceSub, Nat.le_refl, Int.reduceToNat, Int.reduceLT, Int.reduceLE, Nat.one_mul, Nat.mul_one]
    refine gC.of (mask_Of_spec s4 (by omega)) ?_
    rintro _ m_ ⟨rfl, hm_⟩
    replace hm_ := hm_.symm
    subst hm_
    simp only [go_sem, not_true_eq_false, beq_self_eq_true, bne_self_eq_false, Bool.false_eq_true, if_false, if_true, Int.cast_ofNat_Int, decide_true, decide_false, reduceCtorEq, Nat.reduceEqDiff, Nat.reduceAdd, ne_eq, not_false_eq_true, Option.map_some, Option.bind_some, Option.map_none, Option.bind_none, true_and, and_true, Bool.not_true, Bool.not_false, Nat.reduceLeDiff, Nat.reduceMul, Nat.reduceSub, Nat.le_refl, Int.reduceToNat, Int.reduceLT, Int.reduceLE, Nat.one_mul, Nat.mul_one]
    rw [ofW_tks]
    simp only [go_sem, not_true_eq_false, beq_self_eq_true, bne_self_eq_false, Bool.false_eq_true, if_false, if_true, Int.cast_ofNat_Int, decide_true, decide_false, reduceCtorEq, Nat.reduceEqDiff, Nat.reduceAdd, ne_eq, not_false_eq_true, Option.map_some, Option.bind_some, Option.map_none, Option.bind_none, true_and, and_true, Bool.not_true, Bool.not_false, Nat.reduceLeDiff, Nat.reduceMul, Nat.reduceSub, Nat.le_refl, Int.reduceToNat, Int.reduceLT, Int.reduceLE, Nat.one_mul, Nat.mul_one]
    refine gC.of (ok_spec R.law04_awake) ?_
    rintro _ m_ ⟨rfl, hm_⟩
    replace hm_ := hm_.symm
    subst hm_
    simp only [go_sem, not_true_eq_false, beq_self_eq_true, bne_self_eq_false, Bool.false_eq_true, if_false, if_true, Int.cast_ofNat_Int, decide_true, decide_false, reduceCtorEq, Nat.reduceEqDiff, Nat.reduceAdd, ne_eq, not_false_eq_true, Option.map_some, Option.bind_some, Option.map_none, Option.bind_none, true_and, and_true, Bool.not_true, Bool.not_false, Nat.reduceLeDiff, Nat.reduceMul, Nat.reduceSub, Nat.le_refl, Int.reduceToNat, Int.reduceLT, Int.reduceLE, Nat.one_mul, Nat.mul_one]
end Go.Am


/- The law MaskApart. -/
set_option linter.unusedVariables false
set_option linter.unusedSimpArgs false
namespace Go.Am

variable {m : Mem}

theorem rank_with {x : BitVec 64} {t : Nat} (ht : t < 64) (hb : x.getLsbD t = false) : ∀ {n : Nat}, n ≤ 64 → rank (withB x t) n = rank x n + (if t < n then 1 else 0)
  | 0, _ => by simp [rank, tks]
  | n + 1, h => by
    rw [rank_succ, rank_succ, rank_with ht hb (by omega), withB_bit (by omega)]
    by_cases e : n = t
    · subst e; simp [hb]
    · have : decide ((n : Int) = (t : Int)) = false := by rw [decide_eq_false_iff_not]; omega
      rw [this, Bool.or_false]
      by_cases e2 : t < n
      · rw [if_pos e2, if_pos (show t < n + 1 by omega)]; omega
      · rw [if_neg e2, if_neg (show ¬ t < n + 1 by omega)]; omega

theorem rank_zero {n : Nat} : rank 0#64 n = 0 := by
  unfold rank tks; simp

theorem rank_round {F k : Int} (hF : 0 < F) (hF2 : F ≤ 64) : ∀ {n : Nat}, (n : Int) ≤ F → rank (roundW F k n) 64 = n
  | 0, _ => by simp [roundW, rank_zero]
  | n + 1, h => by
    have h1 := Int.emod_nonneg ((n : Int) + k) (show F ≠ 0 by omega)
    have h2 := Int.emod_lt_of_pos ((n : Int) + k) hF
    simp only [roundW]
    obtain ⟨t, ht⟩ : ∃ t : Nat, ((n : Int) + k) % F = t := ⟨(((n : Int) + k) % F).toNat, by omega⟩
    rw [ht]
    have hb : (roundW F k n).getLsbD t = false := by
      rw [roundW_bit hF hF2 (by omega) (by omega), ← ht]
      have : (((n : Int) + k) % F - k) % F = n := by
        rw [Int.emod_sub_emod, show (n : Int) + k - k = n by omega]; exact Int.emod_eq_of_lt (by omega) (by omega)
      rw [this]; simp
    rw [rank_with (by omega) hb (Nat.le_refl _), rank_round hF hF2 (by omega), if_pos (by omega)]

theorem pop_round {F k : Int} {n : Nat} (hF : 0 < F) (hF2 : F ≤ 64) (hn : (n : Int) ≤ F) : pop (roundW F k n) = n := by rw [pop_rank, rank_round hF hF2 hn]

/-- What comes behind so many, round. -/
theorem behind {F r U : Int} (h0 : 0 ≤ U) (hU : U ≤ F) (h1 : 0 ≤ r) (h2 : r < F) : (r - U) % F = if U ≤ r then r - U else r - U + F := by
  split
  · exact Int.emod_eq_of_lt (by omega) (by omega)
  · rw [← Int.add_emod_right]; exact Int.emod_eq_of_lt (by omega) (by omega)

theorem round_off {F a : Int} {U n : Nat} (hF : 0 < F) (hF2 : F ≤ 64) (h : (U : Int) + n ≤ F) : roundW F (a + U) n &&& roundW F a U = 0#64 := by
  refine word_ext fun j hj => ?_
  rw [BitVec.getLsbD_and, roundW_bit hF hF2 hj (by omega), roundW_bit hF hF2 hj (by omega), BitVec.getLsbD_zero, Bool.eq_false_iff]
  simp only [ne_eq, Bool.and_eq_true, decide_eq_true_eq, not_and, and_imp]
  intro h1 h2 _ h3
  have e : ((j : Int) - (a + U)) % F = (((j : Int) - a) % F - U) % F := by rw [Int.emod_sub_emod]; congr 1; omega
  rw [e, behind (by omega) (by omega) (Int.emod_nonneg _ (by omega)) (Int.emod_lt_of_pos _ hF)] at h2
  have := Int.emod_nonneg ((j : Int) - a) (show F ≠ 0 by omega)
  split at h2 <;> omega

theorem round_on {F a : Int} {U n : Nat} (hF : 0 < F) (hF2 : F ≤ 64) (h : (U : Int) + n ≤ F) : roundW F a U ||| roundW F (a + U) n = roundW F a (U + n) := by
  refine word_ext fun j hj => ?_
  rw [BitVec.getLsbD_or, roundW_bit hF hF2 hj (by omega), roundW_bit hF hF2 hj (by omega), roundW_bit hF hF2 hj (by omega)]
  have e : ((j : Int) - (a + U)) % F = (((j : Int) - a) % F - U) % F := by rw [Int.emod_sub_emod]; congr 1; omega
  rw [e, behind (by omega) (by omega) (Int.emod_nonneg _ (by omega)) (Int.emod_lt_of_pos _ hF)]
  have h5 := Int.emod_nonneg ((j : Int) - a) (show F ≠ 0 by omega)
  have h6 := Int.emod_lt_of_pos ((j : Int) - a) hF
  generalize ((j : Int) - a) % F = r at *
  rw [Bool.eq_iff_iff]
  simp only [Bool.or_eq_true, Bool.and_eq_true, decide_eq_true_eq]
  split <;> omega

theorem round_in {F a : Int} {n : Nat} (hF : 0 < F) (hF2 : F ≤ 64) (h : (n : Int) ≤ F) : roundW F a n &&& ~~~ allB F.toNat = 0#64 := by
  refine word_ext fun j hj => ?_
  rw [BitVec.getLsbD_and, BitVec.getLsbD_not, roundW_bit hF hF2 hj (by omega), allB_bit, BitVec.getLsbD_zero, Bool.eq_false_iff]
  simp only [ne_eq, Bool.and_eq_true, decide_eq_true_eq, Bool.not_eq_true', Bool.and_eq_false_iff, decide_eq_false_iff_not]
  omega
set_option maxHeartbeats 4000000 in
theorem MaskApart_spec {f from_ : Int} {l : List Int} {v : Value} (hs : Sl m 1 l.length (intsZ l) v) : WC R F.law04_MaskApart [.int .i64 f, .int .i64 from_, v] m fun v m' => v = .bool true := by
  refine WC.of R.law04_MaskApart rfl ?_
  simp only [RC.law04_MaskApart, go_sem, not_true_eq_false, beq_self_eq_true, bne_self_eq_false, Bool.false_eq_true, if_false, if_true, Int.cast_ofNat_Int, decide_true, decide_false, reduceCtorEq, Nat.reduceEqDiff, Nat.reduceAdd, ne_eq, not_false_eq_true, Option.map_some, Option.bind_some, Option.map_none, Option.bind_none, true_and, and_true, Bool.not_true, Bool.not_false, Nat.reduceLeDiff, Nat.reduceMul, Nat.reduceSub, Nat.le_refl, Int.reduceToNat, Int.reduceLT, Int.reduceLE, Nat.one_mul, Nat.mul_one, hs.len]
  refine gT.of (fun h1 => ?_) (fun h1 => ?_)
  · simp only [go_sem, not_true_eq_false, beq_self_eq_true, bne_self_eq_false, Bool.false_eq_true, if_false, if_true, Int.cast_ofNat_Int, decide_true, decide_false, reduceCtorEq, Nat.reduceEqDiff, Nat.reduceAdd, ne_eq, not_false_eq_true, Option.map_some, Option.bind_some, Option.map_none, Option.bind_none, true_and, and_true, Bool.not_true, Bool.not_false, Nat.reduceLeDiff, Nat.reduceMul, Nat.reduceSub, Nat.le_refl, Int.reduceToNat, Int.reduceLT, Int.reduceLE, Nat.one_mul, Nat.mul_one, h1]
    refine gC.of (ok_spec R.law04_awake) ?_
    rintro _ m_ ⟨rfl, hm_⟩
    replace hm_ := hm_.symm
    subst hm_
    simp only [go_sem, not_true_eq_false, beq_self_eq_true, bne_self_eq_false, Bool.false_eq_true, if_false, if_true, Int.cast_ofNat_Int, decide_true, decide_false, reduceCtorEq, Nat.reduceEqDiff, Nat.reduceAdd, ne_eq, not_false_eq_true, Option.map_some, Option.bind_some, Option.map_none, Option.bind_none, true_and, and_true, Bool.not_true, Bool.not_false, Nat.reduceLeDiff, Nat.reduceMul, Nat.reduceSub, Nat.le_refl, Int.reduceToNat, Int.reduceLT, Int.reduceLE, Nat.one_mul, Nat.mul_one]
  simp only [go_sem, not_true_eq_false, beq_self_eq_true, bne_self_eq_false, Bool.false_eq_true, if_false, if_true, Int.cast_ofNat_Int, decide_true, decide_false, reduceCtorEq, Nat.reduceEqDiff, Nat.reduceAdd, ne_eq, not_false_eq_true, Option.map_some, Option.bind_some, Option.map_none, Option.bind_none, true_and, and_true, Bool.not_true, Bool.not_false, Nat.reduceLeDiff, Nat.reduceMul, Nat.reduceSub, Nat.le_refl, Int.reduceToNat, Int.reduceLT, Int.reduceLE, Nat.one_mul, Nat.mul_one, h1]
  refine gT.of (fun h2 => ?_) (fun h2 => ?_)
  · simp only [go_sem, not_true_eq_false, beq_self_eq_true, bne_self_eq_false, Bool.false_eq_true, if_false, if_true, Int.cast_ofNat_Int, decide_true, decide_false, reduceCtorEq, Nat.reduceEqDiff, Nat.reduceAdd, ne_eq, not_false_eq_true, Option.map_some, Option.bind_some, Option.map_none, Option.bind_none, true_and, and_true, Bool.not_true, Bool.not_false, Nat.reduceLeDiff, Nat.reduceMul, Nat.reduceSub, Nat.le_refl, Int.reduceToNat, Int.reduceLT, Int.reduceLE, Nat.one_mul, Nat.mul_one, h2]
    refine gC.of (ok_spec R.law04_awake) ?_
    rintro _ m_ ⟨rfl, hm_⟩
    replace hm_ := hm_.symm
    subst hm_
    simp only [go_sem, not_true_eq_false, beq_self_eq_true, bne_self_eq_false, Bool.false_eq_true, if_false, if_true, Int.cast_ofNat_Int, decide_true, decide_false, reduceCtorEq, Nat.reduceEqDiff, Nat.reduceAdd, ne_eq, not_false_eq_true, Option.map_some, Option.bind_some, Option.map_none, Option.bind_none, true_and, and_true, Bool.not_true, Bool.not_false, Nat.reduceLeDiff, Nat.reduceMul, Nat.reduceSub, Nat.le_refl, Int.reduceToNat, Int.reduceLT, Int.reduceLE, Nat.one_mul, Nat.mul_one]
  simp only [go_sem, not_true_eq_false, beq_self_eq_true, bne_self_eq_false, Bool.false_eq_true, if_false, if_true, Int.cast_ofNat_Int, decide_true, decide_false, reduceCtorEq, Nat.reduceEqDiff, Nat.reduceAdd, ne_eq, not_false_eq_true, Option.map_some, Option.bind_some, Option.map_none, Option.bind_none, true_and, and_true, Bool.not_true, Bool.not_false, Nat.reduceLeDiff, Nat.reduceMul, Nat.reduceSub, Nat.le_refl, Int.reduceToNat, Int.reduceLT, Int.reduceLE, Nat.one_mul, Nat.mul_one, h1, h2, hs.len]
  refine gT.of (fun h3 => ?_) (fun h3 => ?_)
  · simp only [go_sem, not_true_eq_false, beq_self_eq_true, bne_self_eq_false, Bool.false_eq_true, if_false, if_true, Int.cast_ofNat_Int, decide_true, decide_false, reduceCtorEq, Nat.reduceEqDiff, Nat.reduceAdd, ne_eq, not_false_eq_true, Option.map_some, Option.bind_some, Option.map_none, Option.bind_none, true_and, and_true, Bool.not_true, Bool.not_false, Nat.reduceLeDiff, Nat.reduceMul, Nat.reduceSub, Nat.le_refl, Int.reduceToNat, Int.reduceLT, Int.reduceLE, Nat.one_mul, Nat.mul_one]
    refine gC.of (ok_spec R.law04_awake) ?_
    rintro _ m_ ⟨rfl, hm_⟩
    replace hm_ := hm_.symm
    subst hm_
    simp only [go_sem, not_true_eq_false, beq_self_eq_true, bne_self_eq_false, Bool.false_eq_true, if_false, if_true, Int.cast_ofNat_Int, decide_true, decide_false, reduceCtorEq, Nat.reduceEqDiff, Nat.reduceAdd, ne_eq, not_false_eq_true, Option.map_some, Option.bind_some, Option.map_none, Option.bind_none, true_and, and_true, Bool.not_true, Bool.not_false, Nat.reduceLeDiff, Nat.reduceMul, Nat.reduceSub, Nat.le_refl, Int.reduceToNat, Int.reduceLT, Int.reduceLE, Nat.one_mul, Nat.mul_one]
  simp only [go_sem, not_true_eq_false, beq_self_eq_true, bne_self_eq_false, Bool.false_eq_true, if_false, if_true, Int.cast_ofNat_Int, decide_true, decide_false, reduceCtorEq, Nat.reduceEqDiff, Nat.reduceAdd, ne_eq, not_false_eq_true, Option.map_some, Option.bind_some, Option.map_none, Option.bind_none, true_and, and_true, Bool.not_true, Bool.not_false, Nat.reduceLeDiff, Nat.reduceMul, Nat.reduceSub, Nat.le_refl, Int.reduceToNat, Int.reduceLT, Int.reduceLE, Nat.one_mul, Nat.mul_one]
  simp only [decide_eq_false_iff_not] at h1 h2 h3
  refine ⟨by omega, ?_⟩
  have hf1 : 0 < f := by omega
  have hf2 : f ≤ 64 := by omega
  have hr : -64 < from_.tmod f ∧ from_.tmod f < 64 := by
    have a := Int.tmod_lt_of_pos from_ hf1
    have b := Int.lt_tmod_of_pos from_ hf1
    omega
  generalize from_.tmod f = a at *
  have hfr : fr f = f := by unfold fr; omega
  refine WL.of (fun n e m' => ∃ (i U : Nat), i ≤ l.length ∧ (U : Int) ≤ f ∧ n = l.length - i ∧ e = [(0, .int .i64 f), (2, v), (7, .int .i64 (a + U)), (8, .int .i64 U), (9, u64 (roundW f a U)), (10, .int .i64 i)] ∧ m' = m)
    l.length ⟨0, 0, by omega, by omega, by omega, by simp [roundW]; simp only [go_sem, not_true_eq_false, beq_self_eq_true, bne_self_eq_false, Bool.false_eq_true, if_false, if_true, Int.cast_ofNat_Int, decide_true, decide_false, reduceCtorEq, Nat.reduceEqDiff, Nat.reduceAdd, ne_eq, not_false_eq_true, Option.map_some, Option.bind_some, Option.map_none, Option.bind_none, true_and, and_true, Bool.not_true, Bool.not_false, Nat.reduceLeDiff, Nat.reduceMul, Nat.reduceSub, Nat.le_refl, Int.reduceToNat, Int.reduceLT, Int.reduceLE, Nat.one_mul, Nat.mul_one], rfl⟩ ?_
  rintro _ _ _ ⟨i, U, hi, hU, rfl, rfl, rfl⟩
  simp only [go_sem, not_true_eq_false, beq_self_eq_true, bne_self_eq_false, Bool.false_eq_true, if_false, if_true, Int.cast_ofNat_Int, decide_true, decide_false, reduceCtorEq, Nat.reduceEqDiff, Nat.reduceAdd, ne_eq, not_false_eq_true, Option.map_some, Option.bind_some, Option.map_none, Option.bind_none, true_and, and_true, Bool.not_true, Bool.not_false, Nat.reduceLeDiff, Nat.reduceMul, Nat.reduceSub, Nat.le_refl, Int.reduceToNat, Int.reduceLT, Int.reduceLE, Nat.one_mul, Nat.mul_one, hs.len]
  refine gT.of (fun h => ?_) (fun h => ?_)
  · simp only [go_sem, not_true_eq_false, beq_self_eq_true, bne_self_eq_false, Bool.false_eq_true, if_false, if_true, Int.cast_ofNat_Int, decide_true, decide_false, reduceCtorEq, Nat.reduceEqDiff, Nat.reduceAdd, ne_eq, not_false_eq_true, Option.map_some, Option.bind_some, Option.map_none, Option.bind_none, true_and, and_true, Bool.not_true, Bool.not_false, Nat.reduceLeDiff, Nat.reduceMul, Nat.reduceSub, Nat.le_refl, Int.reduceToNat, Int.reduceLT, Int.reduceLE, Nat.one_mul, Nat.mul_one, h]
    simp only [decide_eq_true_eq] at h
    have hil : i < l.length := by omega
    obtain ⟨p, e1, e2⟩ := hs.get (k := .i64) (i := i) hil
    rw [intsZ_get hil] at e2
    generalize l[i] = n at *
    have hi1 : IntKind.wrap .i64 ((i : Int) + 1) = ((i + 1 : Nat) : Int) := by rw [wrap_i64 (by omega) (by omega)]; omega
    have hw : IntKind.wrap .i64 (f - U) = f - U := wrap_i64 (by omega) (by omega)
    simp only [go_sem, not_true_eq_false, beq_self_eq_true, bne_self_eq_false, Bool.false_eq_true, if_false, if_true, Int.cast_ofNat_Int, decide_true, decide_false, reduceCtorEq, Nat.reduceEqDiff, Nat.reduceAdd, ne_eq, not_false_eq_true, Option.map_some, Option.bind_some, Option.map_none, Option.bind_none, true_and, and_true, Bool.not_true, Bool.not_false, Nat.reduceLeDiff, Nat.reduceMul, Nat.reduceSub, Nat.le_refl, Int.reduceToNat, Int.reduceLT, Int.reduceLE, Nat.one_mul, Nat.mul_one, e1, e2, hw]
    refine gT.of (fun g1 => ?_) (fun g1 => ?_)
    · simp only [go_sem, not_true_eq_false, beq_self_eq_true, bne_self_eq_false, Bool.false_eq_true, if_false, if_true, Int.cast_ofNat_Int, decide_true, decide_false, reduceCtorEq, Nat.reduceEqDiff, Nat.reduceAdd, ne_eq, not_false_eq_true, Option.map_some, Option.bind_some, Option.map_none, Option.bind_none, true_and, and_true, Bool.not_true, Bool.not_false, Nat.reduceLeDiff, Nat.reduceMul, Nat.reduceSub, Nat.le_refl, Int.reduceToNat, Int.reduceLT, Int.reduceLE, Nat.one_mul, Nat.mul_one, g1, hi1]
      exact ⟨l.length - (i + 1), by omega, i + 1, U, by omega, by omega, rfl, rfl⟩
    simp only [go_sem, not_true_eq_false, beq_self_eq_true, bne_self_eq_false, Bool.false_eq_true, if_false, if_true, Int.cast_ofNat_Int, decide_true, decide_false, reduceCtorEq, Nat.reduceEqDiff, Nat.reduceAdd, ne_eq, not_false_eq_true, Option.map_some, Option.bind_some, Option.map_none, Option.bind_none, true_and, and_true, Bool.not_true, Bool.not_false, Nat.reduceLeDiff, Nat.reduceMul, Nat.reduceSub, Nat.le_refl, Int.reduceToNat, Int.reduceLT, Int.reduceLE, Nat.one_mul, Nat.mul_one, g1, hw]
    refine gT.of (fun g2 => ?_) (fun g2 => ?_)
    · simp only [go_sem, not_true_eq_false, beq_self_eq_true, bne_self_eq_false, Bool.false_eq_true, if_false, if_true, Int.cast_ofNat_Int, decide_true, decide_false, reduceCtorEq, Nat.reduceEqDiff, Nat.reduceAdd, ne_eq, not_false_eq_true, Option.map_some, Option.bind_some, Option.map_none, Option.bind_none, true_and, and_true, Bool.not_true, Bool.not_false, Nat.reduceLeDiff, Nat.reduceMul, Nat.reduceSub, Nat.le_refl, Int.reduceToNat, Int.reduceLT, Int.reduceLE, Nat.one_mul, Nat.mul_one, g2, hi1]
      exact ⟨l.length - (i + 1), by omega, i + 1, U, by omega, by omega, rfl, rfl⟩
    simp only [go_sem, not_true_eq_false, beq_self_eq_true, bne_self_eq_false, Bool.false_eq_true, if_false, if_true, Int.cast_ofNat_Int, decide_true, decide_false, reduceCtorEq, Nat.reduceEqDiff, Nat.reduceAdd, ne_eq, not_false_eq_true, Option.map_some, Option.bind_some, Option.map_none, Option.bind_none, true_and, and_true, Bool.not_true, Bool.not_false, Nat.reduceLeDiff, Nat.reduceMul, Nat.reduceSub, Nat.le_refl, Int.reduceToNat, Int.reduceLT, Int.reduceLE, Nat.one_mul, Nat.mul_one, g2]
    simp only [decide_eq_false_iff_not] at g1 g2
    obtain ⟨n, rfl⟩ : ∃ k : Nat, n = k := ⟨n.toNat, by omega⟩
    have hU2 : (U : Int) + n ≤ f := by omega
    have hw1 : IntKind.wrap .i64 (((U : Nat) : Int) + n) = ((U + n : Nat) : Int) := by rw [wrap_i64 (by omega) (by omega)]; omega
    have hw2 : IntKind.wrap .i64 (a + U + n) = a + ((U + n : Nat) : Int) := by rw [wrap_i64 (by omega) (by omega)]; omega
    refine gC.of mask_Round_spec ?_
    rintro _ m_ ⟨rfl, hm_⟩
    replace hm_ := hm_.symm
    subst hm_
    simp only [go_sem, not_true_eq_false, beq_self_eq_true, bne_self_eq_false, Bool.false_eq_true, if_false, if_true, Int.cast_ofNat_Int, decide_true, decide_false, reduceCtorEq, Nat.reduceEqDiff, Nat.reduceAdd, ne_eq, not_false_eq_true, Option.map_some, Option.bind_some, Option.map_none, Option.bind_none, true_and, and_true, Bool.not_true, Bool.not_false, Nat.reduceLeDiff, Nat.reduceMul, Nat.reduceSub, Nat.le_refl, Int.reduceToNat, Int.reduceLT, Int.reduceLE, Nat.one_mul, Nat.mul_one]
    rw [round_turn', hfr, show (min (max ((n : Nat) : Int) 0) f).toNat = n by omega]
    simp only [go_sem, not_true_eq_false, beq_self_eq_true, bne_self_eq_false, Bool.false_eq_true, if_false, if_true, Int.cast_ofNat_Int, decide_true, decide_false, reduceCtorEq, Nat.reduceEqDiff, Nat.reduceAdd, ne_eq, not_false_eq_true, Option.map_some, Option.bind_some, Option.map_none, Option.bind_none, true_and, and_true, Bool.not_true, Bool.not_false, Nat.reduceLeDiff, Nat.reduceMul, Nat.reduceSub, Nat.le_refl, Int.reduceToNat, Int.reduceLT, Int.reduceLE, Nat.one_mul, Nat.mul_one, round_off hf1 hf2 hU2]
    refine gC.of mask_Count_spec ?_
    rintro _ m_ ⟨rfl, hm_⟩
    replace hm_ := hm_.symm
    subst hm_
    simp only [go_sem, not_true_eq_false, beq_self_eq_true, bne_self_eq_false, Bool.false_eq_true, if_false, if_true, Int.cast_ofNat_Int, decide_true, decide_false, reduceCtorEq, Nat.reduceEqDiff, Nat.reduceAdd, ne_eq, not_false_eq_true, Option.map_some, Option.bind_some, Option.map_none, Option.bind_none, true_and, and_true, Bool.not_true, Bool.not_false, Nat.reduceLeDiff, Nat.reduceMul, Nat.reduceSub, Nat.le_refl, Int.reduceToNat, Int.reduceLT, Int.reduceLE, Nat.one_mul, Nat.mul_one]
    rw [pop_round hf1 hf2 (by omega)]
    simp only [go_sem, not_true_eq_false, beq_self_eq_true, bne_self_eq_false, Bool.false_eq_true, if_false, if_true, Int.cast_ofNat_Int, decide_true, decide_false, reduceCtorEq, Nat.reduceEqDiff, Nat.reduceAdd, ne_eq, not_false_eq_true, Option.map_some, Option.bind_some, Option.map_none, Option.bind_none, true_and, and_true, Bool.not_true, Bool.not_false, Nat.reduceLeDiff, Nat.reduceMul, Nat.reduceSub, Nat.le_refl, Int.reduceToNat, Int.reduceLT, Int.reduceLE, Nat.one_mul, Nat.mul_one]
    refine gC.of mask_All_spec ?_
    rintro _ m_ ⟨rfl, hm_⟩
    replace hm_ := hm_.symm
    subst hm_
    simp only [go_sem, not_true_eq_false, beq_self_eq_true, bne_self_eq_false, Bool.false_eq_true, if_false, if_true, Int.cast_ofNat_Int, decide_true, decide_false, reduceCtorEq, Nat.reduceEqDiff, Nat.reduceAdd, ne_eq, not_false_eq_true, Option.map_some, Option.bind_some, Option.map_none, Option.bind_none, true_and, and_true, Bool.not_true, Bool.not_false, Nat.reduceLeDiff, Nat.reduceMul, Nat.reduceSub, Nat.le_refl, Int.reduceToNat, Int.reduceLT, Int.reduceLE, Nat.one_mul, Nat.mul_one]
    rw [hfr]
    simp only [go_sem, not_true_eq_false, beq_self_eq_true, bne_self_eq_false, Bool.false_eq_true, if_false, if_true, Int.cast_ofNat_Int, decide_true, decide_false, reduceCtorEq, Nat.reduceEqDiff, Nat.reduceAdd, ne_eq, not_false_eq_true, Option.map_some, Option.bind_some, Option.map_none, Option.bind_none, true_and, and_true, Bool.not_true, Bool.not_false, Nat.reduceLeDiff, Nat.reduceMul, Nat.reduceSub, Nat.le_refl, Int.reduceToNat, Int.reduceLT, Int.reduceLE, Nat.one_mul, Nat.mul_one, round_in hf1 hf2 (show (n : Int) ≤ f by omega), round_on hf1 hf2 hU2, hw1, hw2, hi1]
    exact ⟨l.length - (i + 1), by omega, i + 1, U + n, by omega, by omega, rfl, rfl⟩
  · simp only [go_sem, not_true_eq_false, beq_self_eq_true, bne_self_eq_false, Bool.false_eq_true, if_false, if_true, Int.cast_ofNat_Int, decide_true, decide_false, reduceCtorEq, Nat.reduceEqDiff, Nat.reduceAdd, ne_eq, not_false_eq_true, Option.map_some, Option.bind_some, Option.map_none, Option.bind_none, true_and, and_true, Bool.not_true, Bool.not_false, Nat.reduceLeDiff, Nat.reduceMul, Nat.reduceSub, Nat.le_refl, Int.reduceToNat, Int.reduceLT, Int.reduceLE, Nat.one_mul, Nat.mul_one, h]
    refine gC.of mask_Count_spec ?_
    rintro _ m_ ⟨rfl, hm_⟩
    replace hm_ := hm_.symm
    subst hm_
    simp only [go_sem, not_true_eq_false, beq_self_eq_true, bne_self_eq_false, Bool.false_eq_true, if_false, if_true, Int.cast_ofNat_Int, decide_true, decide_false, reduceCtorEq, Nat.reduceEqDiff, Nat.reduceAdd, ne_eq, not_false_eq_true, Option.map_some, Option.bind_some, Option.map_none, Option.bind_none, true_and, and_true, Bool.not_true, Bool.not_false, Nat.reduceLeDiff, Nat.reduceMul, Nat.reduceSub, Nat.le_refl, Int.reduceToNat, Int.reduceLT, Int.reduceLE, Nat.one_mul, Nat.mul_one]
    rw [pop_round hf1 hf2 hU]
    simp only [go_sem, not_true_eq_false, beq_self_eq_true, bne_self_eq_false, Bool.false_eq_true, if_false, if_true, Int.cast_ofNat_Int, decide_true, decide_false, reduceCtorEq, Nat.reduceEqDiff, Nat.reduceAdd, ne_eq, not_false_eq_true, Option.map_some, Option.bind_some, Option.map_none, Option.bind_none, true_and, and_true, Bool.not_true, Bool.not_false, Nat.reduceLeDiff, Nat.reduceMul, Nat.reduceSub, Nat.le_refl, Int.reduceToNat, Int.reduceLT, Int.reduceLE, Nat.one_mul, Nat.mul_one]
    refine gC.of (ok_spec R.law04_awake) ?_
    rintro _ m_ ⟨rfl, hm_⟩
    replace hm_ := hm_.symm
    subst hm_
    simp only [go_sem, not_true_eq_false, beq_self_eq_true, bne_self_eq_false, Bool.false_eq_true, if_false, if_true, Int.cast_ofNat_Int, decide_true, decide_false, reduceCtorEq, Nat.reduceEqDiff, Nat.reduceAdd, ne_eq, not_false_eq_true, Option.map_some, Option.bind_some, Option.map_none, Option.bind_none, true_and, and_true, Bool.not_true, Bool.not_false, Nat.reduceLeDiff, Nat.reduceMul, Nat.reduceSub, Nat.le_refl, Int.reduceToNat, Int.reduceLT, Int.reduceLE, Nat.one_mul, Nat.mul_one]
end Go.Am


/- The walks, of arguments as they are read. -/
set_option linter.unusedVariables false
namespace Go.Am

theorem law04_MaskRounds_walk (m : Mem) (us : List Value) (h : RdAs m [(false, [.int .i64]), (false, [.int .i64]), (false, [.int .i64]), (false, [.int .u64])] us) : WC R F.law04_MaskRounds us m fun v _ => v = .bool true := by
  obtain ⟨_, _, rfl, h1, h⟩ := h.one; obtain ⟨_, _, rfl, h2, h⟩ := h.one; obtain ⟨_, _, rfl, h3, h⟩ := h.one; obtain ⟨_, _, rfl, h4, h⟩ := h.one; cases h.none
  obtain ⟨f, rfl, -⟩ := h1.rd.i64; obtain ⟨k, rfl, -⟩ := h2.rd.i64; obtain ⟨n, rfl, -⟩ := h3.rd.i64; obtain ⟨x, rfl⟩ := h4.rd.u64
  exact MaskRounds_spec

theorem law04_MaskRuns_walk (m : Mem) (us : List Value) (h : RdAs m [(false, [.int .u64])] us) : WC R F.law04_MaskRuns us m fun v _ => v = .bool true := by
  obtain ⟨_, _, rfl, h1, h⟩ := h.one; cases h.none
  obtain ⟨x, rfl⟩ := h1.rd.u64
  exact MaskRuns_spec

theorem law04_MaskEnds_walk (m : Mem) (us : List Value) (h : RdAs m [(false, [.int .u64]), (false, [.int .i64]), (false, [.int .i64])] us) : WC R F.law04_MaskEnds us m fun v _ => v = .bool true := by
  obtain ⟨_, _, rfl, h1, h⟩ := h.one; obtain ⟨_, _, rfl, h2, h⟩ := h.one; obtain ⟨_, _, rfl, h3, h⟩ := h.one; cases h.none
  obtain ⟨x, rfl⟩ := h1.rd.u64; obtain ⟨k, rfl, -⟩ := h2.rd.i64; obtain ⟨n, rfl, -⟩ := h3.rd.i64
  exact MaskEnds_spec

theorem law04_MaskApart_walk (m : Mem) (us : List Value) (h : RdAs m [(false, [.int .i64]), (false, [.int .i64]), (false, [.sl [.int .i64]])] us) : WC R F.law04_MaskApart us m fun v _ => v = .bool true := by
  obtain ⟨_, _, rfl, h1, h⟩ := h.one; obtain ⟨_, _, rfl, h2, h⟩ := h.one; obtain ⟨_, _, rfl, h3, h⟩ := h.one; cases h.none
  obtain ⟨x, rfl, -⟩ := h1.rd.i64; obtain ⟨k, rfl, -⟩ := h2.rd.i64; obtain ⟨l, h3, -⟩ := ints_read h3.rd
  exact MaskApart_spec h3

theorem law04_MaskSets_walk (m : Mem) (us : List Value) (h : RdAs m [(false, [.int .u64]), (false, [.int .i64]), (false, [.int .i64]), (false, [.sl [.int .i64]])] us) : WC R F.law04_MaskSets us m fun v _ => v = .bool true := by
  obtain ⟨_, _, rfl, h1, h⟩ := h.one; obtain ⟨_, _, rfl, h2, h⟩ := h.one; obtain ⟨_, _, rfl, h3, h⟩ := h.one; obtain ⟨_, _, rfl, h4, h⟩ := h.one; cases h.none
  obtain ⟨x, rfl⟩ := h1.rd.u64; obtain ⟨f, rfl, -⟩ := h2.rd.i64; obtain ⟨n, rfl, -⟩ := h3.rd.i64; obtain ⟨l, h4, hb, -⟩ := ints_read h4.rd
  exact MaskSets_spec h4 hb
end Go.Am
