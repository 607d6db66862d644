/- Parts of the proofs of the statements of this seat: Sort2Shed, Sort3Shed, Sort4Shed, Sort5Shed, Sort6Shed, Sort7Shed, SlcShedWt, ShedW3, ShedW4, ShedW5, ShedX1, WShedChooses, ShedX2, ShedX3, WShedLeast, WShedCores. No conditions. -/
import Derived.Test.YthhadbmbpefagaaShedChoosesPart5
import Derived.Test.YthhadbmbpefagaaShedChoosesPart4
import Derived.Test.YthhadbmbpefagaaShedChoosesPart3
set_option linter.unusedVariables false
set_option linter.unusedSimpArgs false

/- Sorting a row at api_Want (Shed): the pivot is chosen; by a heap. Printed out of SortT2.tmpl by sortgen.py. -/
set_option linter.unusedVariables false
set_option linter.unusedSimpArgs false
namespace Go.Am
open Go.Sort
variable {α : Type} [Inhabited α] {S : SortC R α 2} {m : Mem} {d : Array α}

theorem so_choose {a b : Nat} (h : S.Row m d) (hb : b ≤ S.n) (ha : a < b) (hm : S.m0.next ≤ m.next) : WC R F.slices_choosePivotCmpFunc_api_Want [S.sv, .int .i64 a, .int .i64 b, S.cv] m fun r m' =>
    r = .tuple #[.int .i64 (choosePivot S.lt d a b).1, .int .i64 (hintN (choosePivot S.lt d a b).2)] ∧ S.Row m' d := by
  refine WC.of R.slices_choosePivotCmpFunc_api_Want rfl ?_
  have hn := S.small
  have i1 : (b - a) / 4 ≤ b - a := Nat.div_le_self _ _
  simp only [RC.slices_choosePivotCmpFunc_api_Want, go_sem, nsub (show a ≤ b by omega) (show b < 4000000 by omega), nq4 (show b - a < 4000000 by omega), nm1 (show (b - a) / 4 < 1000000 by omega), nm2 (show (b - a) / 4 < 1000000 by omega), nm3 (show (b - a) / 4 < 1000000 by omega),
    nadd (show a + (b - a) / 4 < 4000000 by omega), nadd (show a + (b - a) / 4 * 2 < 4000000 by omega), nadd (show a + (b - a) / 4 * 3 < 4000000 by omega)]
  have hx1 : Ext m (m.new (.cells [.int .i64 0] (some 1))) := Ext.new
  have hc : so_Cnt (m.new (.cells [.int .i64 0] (some 1))) m.next 0 := ⟨by simp [Mem.new], by simp [Mem.new]⟩
  have hq : S.b ≠ m.next := by have := h.lt; omega
  generalize m.new (.cells [.int .i64 0] (some 1)) = m1 at hx1 hc ⊢
  have h1 := h.keep hx1
  have fin : ∀ (m2 : Mem) (j s : Nat), S.Row m2 d → so_Cnt m2 m.next s → s ≤ 12 → choosePivot S.lt d a b = (j, if s = 0 then .increasing else if s = 12 then .decreasing else .unknown) →
      ∀ (K : Value → Mem → Prop), (∀ r m', r = .tuple #[.int .i64 (choosePivot S.lt d a b).1, .int .i64 (hintN (choosePivot S.lt d a b).2)] ∧ S.Row m' d → K r m') →
      (s = 0 → K (.tuple #[.int .i64 j, .int .i64 1]) m2) ∧ (s = 12 → K (.tuple #[.int .i64 j, .int .i64 2]) m2) ∧ (s ≠ 0 → s ≠ 12 → K (.tuple #[.int .i64 j, .int .i64 0]) m2) := by
    intro m2 j s hr hcn hs he K hK
    refine ⟨fun e => hK _ _ ⟨?_, hr⟩, fun e => hK _ _ ⟨?_, hr⟩, fun e e2 => hK _ _ ⟨?_, hr⟩⟩
    · rw [he, if_pos e]; rfl
    · rw [he, if_neg (by omega), if_pos e]; rfl
    · rw [he, if_neg e, if_neg e2]; rfl
  refine ⟨by omega, by omega, by omega, ?_⟩
  refine gT.of (fun g1' => ?_) (fun g1' => ?_) <;> (have g1 := g1'; try simp only [decide_eq_true_eq, decide_eq_false_iff_not, beq_iff_eq, bne_iff_ne, beq_eq_false_iff_ne, ne_eq, Bool.not_eq_true', Bool.not_eq_false', bne_eq_false_iff_eq, Int.not_lt, Int.not_le] at g1)
  · simp only [go_sem, g1']
    refine gT.of (fun g2' => ?_) (fun g2' => ?_) <;> (have g2 := g2'; try simp only [decide_eq_true_eq, decide_eq_false_iff_not, beq_iff_eq, bne_iff_ne, beq_eq_false_iff_ne, ne_eq, Bool.not_eq_true', Bool.not_eq_false', bne_eq_false_iff_eq, Int.not_lt, Int.not_le] at g2)
    · simp only [go_sem, g2']
      refine gC.of (so_medianAdj h1 hc hq hm (show 0 < a + (b - a) / 4 by omega) (show a + (b - a) / 4 + 1 < S.n by omega) (by omega)) ?_
      rintro _ m2 ⟨rfl, h2, hc2, p1, p2⟩
      generalize hA : medianAdjacent S.lt d (a + (b - a) / 4) 0 = A at hc2 p1 p2 ⊢
      simp only [go_sem]
      refine gC.of (so_medianAdj h2 hc2 hq hm (show 0 < a + (b - a) / 4 * 2 by omega) (show a + (b - a) / 4 * 2 + 1 < S.n by omega) (by omega)) ?_
      rintro _ m3 ⟨rfl, h3, hc3, p3, p4⟩
      generalize hB : medianAdjacent S.lt d (a + (b - a) / 4 * 2) A.2 = B at hc3 p3 p4 ⊢
      simp only [go_sem]
      refine gC.of (so_medianAdj h3 hc3 hq hm (show 0 < a + (b - a) / 4 * 3 by omega) (show a + (b - a) / 4 * 3 + 1 < S.n by omega) (by omega)) ?_
      rintro _ m4 ⟨rfl, h4, hc4, p5, p6⟩
      generalize hC : medianAdjacent S.lt d (a + (b - a) / 4 * 3) B.2 = C at hc4 p5 p6 ⊢
      simp only [go_sem]
      refine gC.of (so_median h4 hc4 hq hm p1 p3 p5 (by omega)) ?_
      rintro _ m5 ⟨rfl, h5, hc5, p7, p8⟩
      generalize hM : median S.lt d A.1 B.1 C.1 C.2 = M at hc5 p7 p8 ⊢
      have he : choosePivot S.lt d a b = (M.1, if M.2 = 0 then .increasing else if M.2 = 12 then .decreasing else .unknown) := by
        unfold choosePivot
        simp only [Nat.mul_one, hA, hB, hC, hM]
        rw [if_pos (show b - a ≥ 8 by omega), if_pos (show b - a ≥ 50 by omega)]
      obtain ⟨k1, k2, k3⟩ := fin m5 _ _ h5 hc5 (by omega) he _ (fun r m' h => h)
      simp only [go_sem, ruB, hc5.at_]
      refine gT.of (fun g3' => ?_) (fun g3' => ?_) <;> (have g3 := g3'; try simp only [decide_eq_true_eq, decide_eq_false_iff_not, beq_iff_eq, bne_iff_ne, beq_eq_false_iff_ne, ne_eq, Bool.not_eq_true', Bool.not_eq_false', bne_eq_false_iff_eq, Int.not_lt, Int.not_le] at g3)
      · simp only [go_sem, g3']
        exact k1 (by omega)
      · simp only [go_sem, g3']
        refine gT.of (fun g4' => ?_) (fun g4' => ?_) <;> (have g4 := g4'; try simp only [decide_eq_true_eq, decide_eq_false_iff_not, beq_iff_eq, bne_iff_ne, beq_eq_false_iff_ne, ne_eq, Bool.not_eq_true', Bool.not_eq_false', bne_eq_false_iff_eq, Int.not_lt, Int.not_le] at g4)
        · simp only [go_sem, g4']
          exact k2 (by omega)
        · simp only [go_sem, g4']
          exact k3 (by omega) (by omega)
    · simp only [go_sem, g2']
      refine gC.of (so_median h1 hc hq hm (show a + (b - a) / 4 < S.n by omega) (show a + (b - a) / 4 * 2 < S.n by omega) (show a + (b - a) / 4 * 3 < S.n by omega) (by omega)) ?_
      rintro _ m5 ⟨rfl, h5, hc5, p7, p8⟩
      generalize hM : median S.lt d (a + (b - a) / 4) (a + (b - a) / 4 * 2) (a + (b - a) / 4 * 3) 0 = M at hc5 p7 p8 ⊢
      have he : choosePivot S.lt d a b = (M.1, if M.2 = 0 then .increasing else if M.2 = 12 then .decreasing else .unknown) := by
        unfold choosePivot
        simp only [Nat.mul_one, hM]
        rw [if_pos (show b - a ≥ 8 by omega), if_neg (show ¬ b - a ≥ 50 by omega)]
      obtain ⟨k1, k2, k3⟩ := fin m5 _ _ h5 hc5 (by omega) he _ (fun r m' h => h)
      simp only [go_sem, ruB, hc5.at_]
      refine gT.of (fun g3' => ?_) (fun g3' => ?_) <;> (have g3 := g3'; try simp only [decide_eq_true_eq, decide_eq_false_iff_not, beq_iff_eq, bne_iff_ne, beq_eq_false_iff_ne, ne_eq, Bool.not_eq_true', Bool.not_eq_false', bne_eq_false_iff_eq, Int.not_lt, Int.not_le] at g3)
      · simp only [go_sem, g3']
        exact k1 (by omega)
      · simp only [go_sem, g3']
        refine gT.of (fun g4' => ?_) (fun g4' => ?_) <;> (have g4 := g4'; try simp only [decide_eq_true_eq, decide_eq_false_iff_not, beq_iff_eq, bne_iff_ne, beq_eq_false_iff_ne, ne_eq, Bool.not_eq_true', Bool.not_eq_false', bne_eq_false_iff_eq, Int.not_lt, Int.not_le] at g4)
        · simp only [go_sem, g4']
          exact k2 (by omega)
        · simp only [go_sem, g4']
          exact k3 (by omega) (by omega)
  · have he : choosePivot S.lt d a b = (a + (b - a) / 4 * 2, .increasing) := by
      unfold choosePivot
      simp only
      rw [if_neg (show ¬ b - a ≥ 8 by omega)]
      rfl
    obtain ⟨k1, k2, k3⟩ := fin m1 _ 0 h1 hc (by omega) he _ (fun r m' h => h)
    simp only [go_sem, ruB, g1', hc.at_]
    exact k1 rfl

theorem so_sift {lo hi first : Nat} (h : S.Row m d) (hb : first + hi ≤ S.n) (hl : lo < 1000000) : WC R F.slices_siftDownCmpFunc_api_Want [S.sv, .int .i64 lo, .int .i64 hi, .int .i64 first, S.cv] m fun r m' => S.Row m' (siftDown S.lt hi first lo d) ∧ m.next ≤ m'.next := by
  refine WC.of R.slices_siftDownCmpFunc_api_Want rfl ?_
  have hn := S.small
  simp only [RC.slices_siftDownCmpFunc_api_Want, go_sem]
  refine WL.of (fun r e m' => ∃ (k : Nat) (d' : Array α), r = hi - k ∧ k < 1000000 ∧ e = [(0, S.sv), (2, .int .i64 hi), (3, .int .i64 first), (4, S.cv), (10, .int .i64 k)] ∧ S.Row m' d' ∧ m.next ≤ m'.next ∧ siftDown S.lt hi first k d' = siftDown S.lt hi first lo d) (hi - lo)
    ⟨lo, d, rfl, by omega, by simp only [go_sem] <;> rfl, h, Nat.le_refl _, rfl⟩ ?_
  rintro n0 _ m1 ⟨k, d', hr, hk, rfl, h1, hm1, he⟩
  simp only [RB.slices_siftDownCmpFunc_api_Want_1, go_sem, nmm2 (show k < 1000000 by omega), nadd1 (show 2 * k < 4000000 by omega)]
  refine gT.of (fun g1' => ?_) (fun g1' => ?_) <;> (have g1 := g1'; try simp only [decide_eq_true_eq, decide_eq_false_iff_not, beq_iff_eq, bne_iff_ne, beq_eq_false_iff_ne, ne_eq, Bool.not_eq_true', Bool.not_eq_false', bne_eq_false_iff_eq, Int.not_lt, Int.not_le] at g1)
  · simp only [go_sem, g1']
    rw [siftDown, dif_pos (by omega)] at he
    rw [← he]
    exact ⟨h1, hm1⟩
  · have c1 : first + (2 * k + 1) < S.n := by omega
    have c0 : first + k < S.n := by omega
    rw [siftDown, dif_neg (by omega)] at he
    simp only [go_sem, g1', nadd1 (show 2 * k + 1 < 4000000 by omega)]
    refine gT.of (fun g2' => ?_) (fun g2' => ?_) <;> (have g2 := g2'; try simp only [decide_eq_true_eq, decide_eq_false_iff_not, beq_iff_eq, bne_iff_ne, beq_eq_false_iff_ne, ne_eq, Bool.not_eq_true', Bool.not_eq_false', bne_eq_false_iff_eq, Int.not_lt, Int.not_le] at g2)
    · have c2 : first + (2 * k + 1 + 1) < S.n := by omega
      have hl1 := h1.ld c1
      have hl2 := h1.ld c2
      simp only [go_sem, g2', nadd (show first + (2 * k + 1) < 4000000 by omega), nadd1 (show first + (2 * k + 1) < 4000000 by omega), Nat.add_assoc first (2 * k + 1) 1, S.ix c1, S.ix c2, hl1, hl2]
      refine gC.of (S.cmp m1 d'[first + (2 * k + 1)]! d'[first + (2 * k + 1 + 1)]!) ?_
      rintro _ m2 ⟨rfl, hx2⟩
      simp only [go_sem]
      have h2 := h1.keep hx2
      have hm2 := Nat.le_trans hm1 hx2.next
      refine gT.of (fun g3' => ?_) (fun g3' => ?_) <;> (have g3 := g3'; try simp only [decide_eq_true_eq, decide_eq_false_iff_not, beq_iff_eq, bne_iff_ne, beq_eq_false_iff_ne, ne_eq, Bool.not_eq_true', Bool.not_eq_false', bne_eq_false_iff_eq, Int.not_lt, Int.not_le] at g3)
      · have hlt := S.lt_t g3
        rw [if_pos (show (decide (2 * k + 1 + 1 < hi) && S.lt d'[first + (2 * k + 1)]! d'[first + (2 * k + 1) + 1]!) = true by rw [Bool.and_eq_true, decide_eq_true_eq]; exact ⟨by omega, hlt⟩)] at he
        simp only [go_sem, g3', nadd1 (show 2 * k + 1 < 4000000 by omega), nadd (show first + k < 4000000 by omega), nadd (show first + (2 * k + 1 + 1) < 4000000 by omega), S.ix c0, S.ix c2, h2.ld c0, h2.ld c2]
        refine gC.of (S.cmp m2 d'[first + k]! d'[first + (2 * k + 1 + 1)]!) ?_
        rintro _ m3 ⟨rfl, hx3⟩
        simp only [go_sem]
        have h3 := h2.keep hx3
        have hm3 := Nat.le_trans hm2 hx3.next
        refine gT.of (fun g4' => ?_) (fun g4' => ?_) <;> (have g4 := g4'; try simp only [decide_eq_true_eq, decide_eq_false_iff_not, beq_iff_eq, bne_iff_ne, beq_eq_false_iff_ne, ne_eq, Bool.not_eq_true', Bool.not_eq_false', bne_eq_false_iff_eq, Int.not_lt, Int.not_le] at g4)
        · rw [show (2 * k + 2) = (2 * k + 1 + 1) from rfl, S.lt_f' (by simpa using g4)] at he
          simp only [go_sem, g4']
          rw [← he]
          exact ⟨h3, hm3⟩
        · have g4 : S.cf d'[first + k]! d'[first + (2 * k + 1 + 1)]! < 0 := by simpa using g4
          rw [show (2 * k + 2) = (2 * k + 1 + 1) from rfl, S.lt_t g4, if_neg (by simp), dif_pos (by omega)] at he
          obtain ⟨n1, n2, t1, t2, h5⟩ := h3.sw c0 c2
          simp only [go_sem, g4', nadd (show first + k < 4000000 by omega), nadd (show first + (2 * k + 1 + 1) < 4000000 by omega), S.ix c0, S.ix c2, h3.ld c0, h3.ld c2, t1, t2]
          exact ⟨hi - (2 * k + 1 + 1), by omega, 2 * k + 1 + 1, _, rfl, by omega, rfl, h5, by rw [aStore_next t2, aStore_next t1]; exact hm3, he⟩
      · have hlf := S.lt_f' (by simpa using g3)
        rw [if_neg (show ¬ (decide (2 * k + 1 + 1 < hi) && S.lt d'[first + (2 * k + 1)]! d'[first + (2 * k + 1) + 1]!) = true by rw [Bool.and_eq_true]; intro hh; exact absurd (hlf.symm.trans hh.2) (by simp))] at he
        simp only [go_sem, g3', nadd (show first + k < 4000000 by omega), nadd (show first + (2 * k + 1) < 4000000 by omega), S.ix c0, S.ix c1, h2.ld c0, h2.ld c1]
        refine gC.of (S.cmp m2 d'[first + k]! d'[first + (2 * k + 1)]!) ?_
        rintro _ m3 ⟨rfl, hx3⟩
        simp only [go_sem]
        have h3 := h2.keep hx3
        have hm3 := Nat.le_trans hm2 hx3.next
        refine gT.of (fun g4' => ?_) (fun g4' => ?_) <;> (have g4 := g4'; try simp only [decide_eq_true_eq, decide_eq_false_iff_not, beq_iff_eq, bne_iff_ne, beq_eq_false_iff_ne, ne_eq, Bool.not_eq_true', Bool.not_eq_false', bne_eq_false_iff_eq, Int.not_lt, Int.not_le] at g4)
        · rw [S.lt_f' (by simpa using g4)] at he
          simp only [go_sem, g4']
          rw [← he]
          exact ⟨h3, hm3⟩
        · have g4 : S.cf d'[first + k]! d'[first + (2 * k + 1)]! < 0 := by simpa using g4
          rw [S.lt_t g4, if_neg (by simp)] at he
          obtain ⟨n1, n2, t1, t2, h5⟩ := h3.sw c0 c1
          simp only [go_sem, g4', nadd (show first + k < 4000000 by omega), nadd (show first + (2 * k + 1) < 4000000 by omega), S.ix c0, S.ix c1, h3.ld c0, h3.ld c1, t1, t2]
          exact ⟨hi - (2 * k + 1), by omega, 2 * k + 1, _, rfl, by omega, rfl, h5, by rw [aStore_next t2, aStore_next t1]; exact hm3, he⟩
    · rw [if_neg (by simp; omega)] at he
      simp only [go_sem, g2', nadd (show first + k < 4000000 by omega), nadd (show first + (2 * k + 1) < 4000000 by omega), S.ix c0, S.ix c1, h1.ld c0, h1.ld c1]
      refine gC.of (S.cmp m1 d'[first + k]! d'[first + (2 * k + 1)]!) ?_
      rintro _ m3 ⟨rfl, hx3⟩
      simp only [go_sem]
      have h3 := h1.keep hx3
      have hm3 := Nat.le_trans hm1 hx3.next
      refine gT.of (fun g4' => ?_) (fun g4' => ?_) <;> (have g4 := g4'; try simp only [decide_eq_true_eq, decide_eq_false_iff_not, beq_iff_eq, bne_iff_ne, beq_eq_false_iff_ne, ne_eq, Bool.not_eq_true', Bool.not_eq_false', bne_eq_false_iff_eq, Int.not_lt, Int.not_le] at g4)
      · rw [S.lt_f' (by simpa using g4)] at he
        simp only [go_sem, g4']
        rw [← he]
        exact ⟨h3, hm3⟩
      · have g4 : S.cf d'[first + k]! d'[first + (2 * k + 1)]! < 0 := by simpa using g4
        rw [S.lt_t g4, if_neg (by simp)] at he
        obtain ⟨n1, n2, t1, t2, h5⟩ := h3.sw c0 c1
        simp only [go_sem, g4', nadd (show first + k < 4000000 by omega), nadd (show first + (2 * k + 1) < 4000000 by omega), S.ix c0, S.ix c1, h3.ld c0, h3.ld c1, t1, t2]
        exact ⟨hi - (2 * k + 1), by omega, 2 * k + 1, _, rfl, by omega, rfl, h5, by rw [aStore_next t2, aStore_next t1]; exact hm3, he⟩

theorem so_heap {a b : Nat} (h : S.Row m d) (hb : b ≤ S.n) (ha : a < b) : WC R F.slices_heapSortCmpFunc_api_Want [S.sv, .int .i64 a, .int .i64 b, S.cv] m fun r m' => S.Row m' (heapSort S.lt d a b) := by
  refine WC.of R.slices_heapSortCmpFunc_api_Want rfl ?_
  have hn := S.small
  simp only [RC.slices_heapSortCmpFunc_api_Want, go_sem, nsub (show a ≤ b by omega) (show b < 4000000 by omega), nsub1 (show 0 < b - a by omega) (show b - a < 4000000 by omega), nq2 (show b - a - 1 < 4000000 by omega)]
  refine ⟨by omega, ?_⟩
  have e0 : ((((b - a - 1) / 2 + 1 : Nat) : Int) - 1) = (((b - a - 1) / 2 : Nat) : Int) := by omega
  have e9 : ((((b - a) : Nat) : Int) - 1) = (((b - a - 1) : Nat) : Int) := by omega
  refine WL.of (fun r e m' => ∃ (k : Nat) (d' : Array α), r = k ∧ k ≤ (b - a - 1) / 2 + 1 ∧ e = [(0, S.sv), (3, S.cv), (8, .int .i64 a), (9, .int .i64 0), (10, .int .i64 (b - a : Nat)), (11, .int .i64 ((k : Int) - 1))] ∧ S.Row m' d' ∧ heapBuild S.lt (b - a) a k d' = heapBuild S.lt (b - a) a ((b - a - 1) / 2 + 1) d) ((b - a - 1) / 2 + 1)
    ⟨(b - a - 1) / 2 + 1, d, rfl, Nat.le_refl _, by rw [e0]; simp only [go_sem] <;> rfl, h, rfl⟩ ?_
  rintro n0 _ m1 ⟨k, d', hr, hk, rfl, h1, he⟩
  simp only [RB.slices_heapSortCmpFunc_api_Want_2, go_sem]
  refine gT.of (fun g1' => ?_) (fun g1' => ?_) <;> (have g1 := g1'; try simp only [decide_eq_true_eq, decide_eq_false_iff_not, beq_iff_eq, bne_iff_ne, beq_eq_false_iff_ne, ne_eq, Bool.not_eq_true', Bool.not_eq_false', bne_eq_false_iff_eq, Int.not_lt, Int.not_le] at g1)
  · obtain ⟨k, rfl⟩ : ∃ k', k = k' + 1 := ⟨k - 1, by omega⟩
    have e1 : (((k + 1 : Nat) : Int) - 1) = (k : Int) := by omega
    rw [e1] at g1'
    simp only [go_sem, e1, g1']
    refine gC.of (so_sift (lo := k) (hi := b - a) (first := a) h1 (by omega) (by omega)) ?_
    rintro _ m2 ⟨h2, hm2⟩
    have e2 : IntKind.wrap .i64 ((k : Int) - 1) = (k : Int) - 1 := wrap_i64 (by omega) (by omega)
    simp only [go_sem, e2]
    exact ⟨k, by omega, k, _, rfl, by omega, rfl, h2, he⟩
  · have : k = 0 := by omega
    subst this
    simp only [heapBuild] at he
    simp only [go_sem, g1', nsub1 (show 0 < b - a by omega) (show b - a < 4000000 by omega)]
    refine WL.of (fun r e m' => ∃ (k : Nat) (d'' : Array α), r = k ∧ k ≤ b - a ∧ e = [(0, S.sv), (3, S.cv), (8, .int .i64 a), (9, .int .i64 0), (12, .int .i64 ((k : Int) - 1))] ∧ S.Row m' d'' ∧ heapPop S.lt a k d'' = heapPop S.lt a (b - a) d') (b - a)
      ⟨b - a, d', rfl, Nat.le_refl _, by rw [e9]; simp only [go_sem] <;> rfl, h1, rfl⟩ ?_
    rintro n1 _ m2 ⟨k, d'', hr2, hk2, rfl, h2, he2⟩
    simp only [RB.slices_heapSortCmpFunc_api_Want_1, go_sem]
    refine gT.of (fun g2' => ?_) (fun g2' => ?_) <;> (have g2 := g2'; try simp only [decide_eq_true_eq, decide_eq_false_iff_not, beq_iff_eq, bne_iff_ne, beq_eq_false_iff_ne, ne_eq, Bool.not_eq_true', Bool.not_eq_false', bne_eq_false_iff_eq, Int.not_lt, Int.not_le] at g2)
    · obtain ⟨k, rfl⟩ : ∃ k', k = k' + 1 := ⟨k - 1, by omega⟩
      have e1 : (((k + 1 : Nat) : Int) - 1) = (k : Int) := by omega
      rw [e1] at g2'
      have c0 : a < S.n := by omega
      have c1 : a + k < S.n := by omega
      obtain ⟨n1, n2, t1, t2, h5⟩ := h2.sw c0 c1
      have e2 : IntKind.wrap .i64 ((k : Int) - 1) = (k : Int) - 1 := wrap_i64 (by omega) (by omega)
      simp only [go_sem, e1, g2', nadd (show a + k < 4000000 by omega), S.ix c0, S.ix c1, h2.ld c0, h2.ld c1, t1, t2]
      refine gC.of (so_sift (lo := 0) (hi := k) (first := a) h5 (by omega) (by omega)) ?_
      rintro _ m3 ⟨h3, hm3⟩
      simp only [go_sem, e2]
      exact ⟨k, by omega, k, _, rfl, by omega, rfl, h3, he2⟩
    · have : k = 0 := by omega
      subst this
      simp only [heapPop] at he2
      simp only [go_sem, g2']
      rw [show heapSort S.lt d a b = d'' by rw [he2, he]; rfl]
      exact h2
end Go.Am


/- Sorting a row at api_Want (Shed): partitions. Printed out of SortT3.tmpl by sortgen.py. -/
set_option linter.unusedVariables false
set_option linter.unusedSimpArgs false
namespace Go.Am
open Go.Sort
variable {α : Type} [Inhabited α] {S : SortC R α 2} {m : Mem} {d : Array α}

theorem so_pa2 {a i j : Nat} (h : S.Row m d) (ha : a < S.n) (hj : j < S.n) (hi : i ≤ S.n) :
    WL R [0, 1, 4, 12, 13] RB.slices_partitionCmpFunc_api_Want_2 [(0, S.sv), (1, .int .i64 a), (4, S.cv), (12, .int .i64 i), (13, .int .i64 j)] m fun x e m' =>
      x = .exit 6 ∧ e = [(0, S.sv), (1, .int .i64 a), (4, S.cv), (12, .int .i64 (scanUp (fun x => S.lt x d[a]!) d j i)), (13, .int .i64 j), (120, .bool false)] ∧ S.Row m' d := by
  have hn := S.small
  refine WL.of (fun r e m' => ∃ (k : Nat), r = S.n + 1 - k ∧ k ≤ S.n ∧ e = [(0, S.sv), (1, .int .i64 a), (4, S.cv), (12, .int .i64 k), (13, .int .i64 j)] ∧ S.Row m' d ∧ scanUp (fun x => S.lt x d[a]!) d j k = scanUp (fun x => S.lt x d[a]!) d j i) (S.n + 1 - i)
    ⟨i, rfl, hi, by simp only [go_sem] <;> rfl, h, rfl⟩ ?_
  rintro n0 _ m1 ⟨k, hr, hk, rfl, h1, he⟩
  rw [scanUp] at he
  simp only [RB.slices_partitionCmpFunc_api_Want_2, go_sem]
  refine gT.of (fun g1' => ?_) (fun g1' => ?_) <;> (have g1 := g1'; try simp only [decide_eq_true_eq, decide_eq_false_iff_not, beq_iff_eq, bne_iff_ne, beq_eq_false_iff_ne, ne_eq, Bool.not_eq_true', Bool.not_eq_false', bne_eq_false_iff_eq, Int.not_lt, Int.not_le] at g1)
  · have hk2 : k < S.n := by omega
    simp only [go_sem, g1', S.ix hk2, S.ix ha, h1.ld hk2, h1.ld ha]
    refine gC.of (S.cmp m1 d[k]! d[a]!) ?_
    rintro _ m2 ⟨rfl, hx2⟩
    simp only [go_sem]
    have h2 := h1.keep hx2
    refine gT.of (fun g2' => ?_) (fun g2' => ?_) <;> (have g2 := g2'; try simp only [decide_eq_true_eq, decide_eq_false_iff_not, beq_iff_eq, bne_iff_ne, beq_eq_false_iff_ne, ne_eq, Bool.not_eq_true', Bool.not_eq_false', bne_eq_false_iff_eq, Int.not_lt, Int.not_le] at g2)
    · rw [if_pos (by rw [S.lt_t g2]; simp; omega)] at he
      simp only [go_sem, g2', nadd1 (show k < 4000000 by omega)]
      exact ⟨S.n + 1 - (k + 1), by omega, k + 1, rfl, by omega, rfl, h2, he⟩
    · rw [if_neg (by rw [S.lt_f' g2]; simp)] at he
      rw [← he]
      simp only [go_sem, g2']
      exact h2
  · rw [if_neg (by simp; omega)] at he
    rw [← he]
    simp only [go_sem, g1']
    exact h1

theorem so_pa5 {a i j : Nat} (h : S.Row m d) (ha : a < S.n) (hj : j < S.n) (hi : i ≤ S.n) :
    WL R [0, 1, 4, 12, 13] RB.slices_partitionCmpFunc_api_Want_5 [(0, S.sv), (1, .int .i64 a), (4, S.cv), (12, .int .i64 i), (13, .int .i64 j)] m fun x e m' =>
      x = .exit 0 ∧ e = [(0, S.sv), (1, .int .i64 a), (4, S.cv), (12, .int .i64 (scanUp (fun x => S.lt x d[a]!) d j i)), (13, .int .i64 j), (47, .bool false)] ∧ S.Row m' d := by
  have hn := S.small
  refine WL.of (fun r e m' => ∃ (k : Nat), r = S.n + 1 - k ∧ k ≤ S.n ∧ e = [(0, S.sv), (1, .int .i64 a), (4, S.cv), (12, .int .i64 k), (13, .int .i64 j)] ∧ S.Row m' d ∧ scanUp (fun x => S.lt x d[a]!) d j k = scanUp (fun x => S.lt x d[a]!) d j i) (S.n + 1 - i)
    ⟨i, rfl, hi, by simp only [go_sem] <;> rfl, h, rfl⟩ ?_
  rintro n0 _ m1 ⟨k, hr, hk, rfl, h1, he⟩
  rw [scanUp] at he
  simp only [RB.slices_partitionCmpFunc_api_Want_5, go_sem]
  refine gT.of (fun g1' => ?_) (fun g1' => ?_) <;> (have g1 := g1'; try simp only [decide_eq_true_eq, decide_eq_false_iff_not, beq_iff_eq, bne_iff_ne, beq_eq_false_iff_ne, ne_eq, Bool.not_eq_true', Bool.not_eq_false', bne_eq_false_iff_eq, Int.not_lt, Int.not_le] at g1)
  · have hk2 : k < S.n := by omega
    simp only [go_sem, g1', S.ix hk2, S.ix ha, h1.ld hk2, h1.ld ha]
    refine gC.of (S.cmp m1 d[k]! d[a]!) ?_
    rintro _ m2 ⟨rfl, hx2⟩
    simp only [go_sem]
    have h2 := h1.keep hx2
    refine gT.of (fun g2' => ?_) (fun g2' => ?_) <;> (have g2 := g2'; try simp only [decide_eq_true_eq, decide_eq_false_iff_not, beq_iff_eq, bne_iff_ne, beq_eq_false_iff_ne, ne_eq, Bool.not_eq_true', Bool.not_eq_false', bne_eq_false_iff_eq, Int.not_lt, Int.not_le] at g2)
    · rw [if_pos (by rw [S.lt_t g2]; simp; omega)] at he
      simp only [go_sem, g2', nadd1 (show k < 4000000 by omega)]
      exact ⟨S.n + 1 - (k + 1), by omega, k + 1, rfl, by omega, rfl, h2, he⟩
    · rw [if_neg (by rw [S.lt_f' g2]; simp)] at he
      rw [← he]
      simp only [go_sem, g2']
      exact h2
  · rw [if_neg (by simp; omega)] at he
    rw [← he]
    simp only [go_sem, g1']
    exact h1

theorem so_pa1 {a i j : Nat} (h : S.Row m d) (ha : a < S.n) (hj : j < S.n) (hi : 1 ≤ i) :
    WL R [0, 1, 4, 12, 13] RB.slices_partitionCmpFunc_api_Want_1 [(0, S.sv), (1, .int .i64 a), (4, S.cv), (12, .int .i64 i), (13, .int .i64 j)] m fun x e m' =>
      x = .exit 8 ∧ e = [(0, S.sv), (1, .int .i64 a), (4, S.cv), (12, .int .i64 i), (13, .int .i64 (scanDown (fun x => !S.lt x d[a]!) d i j)), (139, .bool false)] ∧ S.Row m' d := by
  have hn := S.small
  refine WL.of (fun r e m' => ∃ (k : Nat), r = k ∧ k < S.n ∧ e = [(0, S.sv), (1, .int .i64 a), (4, S.cv), (12, .int .i64 i), (13, .int .i64 k)] ∧ S.Row m' d ∧ scanDown (fun x => !S.lt x d[a]!) d i k = scanDown (fun x => !S.lt x d[a]!) d i j) j
    ⟨j, rfl, hj, by simp only [go_sem] <;> rfl, h, rfl⟩ ?_
  rintro n0 _ m1 ⟨k, hr, hk, rfl, h1, he⟩
  simp only [RB.slices_partitionCmpFunc_api_Want_1, go_sem]
  refine gT.of (fun g1' => ?_) (fun g1' => ?_) <;> (have g1 := g1'; try simp only [decide_eq_true_eq, decide_eq_false_iff_not, beq_iff_eq, bne_iff_ne, beq_eq_false_iff_ne, ne_eq, Bool.not_eq_true', Bool.not_eq_false', bne_eq_false_iff_eq, Int.not_lt, Int.not_le] at g1)
  · obtain ⟨k, rfl⟩ : ∃ k', k = k' + 1 := ⟨k - 1, by omega⟩
    simp only [scanDown] at he
    have e1 := nsub1 (i := k + 1) (by omega) (by omega)
    simp only [Nat.add_sub_cancel] at e1
    simp only [go_sem, g1', S.ix hk, S.ix ha, h1.ld hk, h1.ld ha]
    refine gC.of (S.cmp m1 d[k + 1]! d[a]!) ?_
    rintro _ m2 ⟨rfl, hx2⟩
    simp only [go_sem]
    have h2 := h1.keep hx2
    refine gT.of (fun g2' => ?_) (fun g2' => ?_) <;> (have g2 := g2'; try simp only [decide_eq_true_eq, decide_eq_false_iff_not, beq_iff_eq, bne_iff_ne, beq_eq_false_iff_ne, ne_eq, Bool.not_eq_true', Bool.not_eq_false', bne_eq_false_iff_eq, Int.not_lt, Int.not_le] at g2)
    · rw [if_pos (by rw [S.lt_f' (by simpa using g2)]; simp; omega)] at he
      simp only [go_sem, g2', e1]
      exact ⟨k, by omega, k, rfl, by omega, rfl, h2, he⟩
    · rw [if_neg (by rw [S.lt_t (by simpa using g2)]; simp)] at he
      rw [← he]
      simp only [go_sem, g2']
      exact h2
  · have he2 : scanDown (fun x => !S.lt x d[a]!) d i k = k := by
      cases k with
      | zero => rfl
      | succ k => simp only [scanDown]; rw [if_neg (by simp; omega)]
    rw [← he, he2]
    simp only [go_sem, g1']
    exact h1

theorem so_pa4 {a i j : Nat} (h : S.Row m d) (ha : a < S.n) (hj : j < S.n) (hi : 1 ≤ i) :
    WL R [0, 1, 4, 12, 13] RB.slices_partitionCmpFunc_api_Want_4 [(0, S.sv), (1, .int .i64 a), (4, S.cv), (12, .int .i64 i), (13, .int .i64 j)] m fun x e m' =>
      x = .exit 2 ∧ e = [(0, S.sv), (1, .int .i64 a), (4, S.cv), (12, .int .i64 i), (13, .int .i64 (scanDown (fun x => !S.lt x d[a]!) d i j)), (66, .bool false)] ∧ S.Row m' d := by
  have hn := S.small
  refine WL.of (fun r e m' => ∃ (k : Nat), r = k ∧ k < S.n ∧ e = [(0, S.sv), (1, .int .i64 a), (4, S.cv), (12, .int .i64 i), (13, .int .i64 k)] ∧ S.Row m' d ∧ scanDown (fun x => !S.lt x d[a]!) d i k = scanDown (fun x => !S.lt x d[a]!) d i j) j
    ⟨j, rfl, hj, by simp only [go_sem] <;> rfl, h, rfl⟩ ?_
  rintro n0 _ m1 ⟨k, hr, hk, rfl, h1, he⟩
  simp only [RB.slices_partitionCmpFunc_api_Want_4, go_sem]
  refine gT.of (fun g1' => ?_) (fun g1' => ?_) <;> (have g1 := g1'; try simp only [decide_eq_true_eq, decide_eq_false_iff_not, beq_iff_eq, bne_iff_ne, beq_eq_false_iff_ne, ne_eq, Bool.not_eq_true', Bool.not_eq_false', bne_eq_false_iff_eq, Int.not_lt, Int.not_le] at g1)
  · obtain ⟨k, rfl⟩ : ∃ k', k = k' + 1 := ⟨k - 1, by omega⟩
    simp only [scanDown] at he
    have e1 := nsub1 (i := k + 1) (by omega) (by omega)
    simp only [Nat.add_sub_cancel] at e1
    simp only [go_sem, g1', S.ix hk, S.ix ha, h1.ld hk, h1.ld ha]
    refine gC.of (S.cmp m1 d[k + 1]! d[a]!) ?_
    rintro _ m2 ⟨rfl, hx2⟩
    simp only [go_sem]
    have h2 := h1.keep hx2
    refine gT.of (fun g2' => ?_) (fun g2' => ?_) <;> (have g2 := g2'; try simp only [decide_eq_true_eq, decide_eq_false_iff_not, beq_iff_eq, bne_iff_ne, beq_eq_false_iff_ne, ne_eq, Bool.not_eq_true', Bool.not_eq_false', bne_eq_false_iff_eq, Int.not_lt, Int.not_le] at g2)
    · rw [if_pos (by rw [S.lt_f' (by simpa using g2)]; simp; omega)] at he
      simp only [go_sem, g2', e1]
      exact ⟨k, by omega, k, rfl, by omega, rfl, h2, he⟩
    · rw [if_neg (by rw [S.lt_t (by simpa using g2)]; simp)] at he
      rw [← he]
      simp only [go_sem, g2']
      exact h2
  · have he2 : scanDown (fun x => !S.lt x d[a]!) d i k = k := by
      cases k with
      | zero => rfl
      | succ k => simp only [scanDown]; rw [if_neg (by simp; omega)]
    rw [← he, he2]
    simp only [go_sem, g1']
    exact h1

theorem so_pa3 {a i j : Nat} (h : S.Row m d) (ha : a < S.n) (hj : j < S.n) (hi : 1 ≤ i) (hij : i ≤ j + 1) :
    WL R [0, 1, 4, 12, 13] RB.slices_partitionCmpFunc_api_Want_3 [(0, S.sv), (1, .int .i64 a), (4, S.cv), (12, .int .i64 i), (13, .int .i64 j)] m fun x e m' =>
      x = .exit 4 ∧ (∃ q b, e = [(0, S.sv), (1, .int .i64 a), (4, S.cv), (12, q), (13, .int .i64 (partLoop S.lt a i j d).1), (144, b)]) ∧ S.Row m' (partLoop S.lt a i j d).2 := by
  have hn := S.small
  refine WL.of (fun r e m' => ∃ (i' j' : Nat) (d' : Array α), r = j' + 1 - i' ∧ 1 ≤ i' ∧ i' ≤ j' + 1 ∧ j' < S.n ∧ e = [(0, S.sv), (1, .int .i64 a), (4, S.cv), (12, .int .i64 i'), (13, .int .i64 j')] ∧ S.Row m' d' ∧ partLoop S.lt a i' j' d' = partLoop S.lt a i j d) (j + 1 - i)
    ⟨i, j, d, rfl, hi, hij, hj, by simp only [go_sem] <;> rfl, h, rfl⟩ ?_
  rintro n0 _ m1 ⟨i', j', d', hr, hi', hij', hj', rfl, h1, he⟩
  simp only [RB.slices_partitionCmpFunc_api_Want_3, go_sem]
  rw [partLoop_eq] at he
  have u1 := scanUp_ge (fun x => S.lt x d'[a]!) d' j' i'
  have u2 := (scanUp_spec (fun x => S.lt x d'[a]!) d' j' _ i' rfl).2.1 hij'
  have u3 := (scanUp_spec (fun x => S.lt x d'[a]!) d' j' _ i' rfl).2.2.2
  refine WL.mono (so_pa2 h1 ha hj' (by omega)) ?_
  rintro _ _ m2 ⟨rfl, rfl, h2⟩
  generalize scanUp (fun x => S.lt x d'[a]!) d' j' i' = i2 at u1 u2 u3 he ⊢
  simp only [go_sem]
  have w1 := scanDown_le (fun x => !S.lt x d'[a]!) d' i2 j'
  have w2 := (scanDown_spec (fun x => !S.lt x d'[a]!) d' i2 j').2.1 (by omega)
  have w3 := (scanDown_spec (fun x => !S.lt x d'[a]!) d' i2 j').2.2.2
  refine WL.mono (so_pa1 h2 ha hj' (by omega)) ?_
  rintro _ _ m3 ⟨rfl, rfl, h3⟩
  generalize scanDown (fun x => !S.lt x d'[a]!) d' i2 j' = j2 at w1 w2 w3 he ⊢
  have hne : i2 ≠ j2 := by
    intro e
    subst e
    have q1 := u3 (by omega)
    have q2 := w3 (by omega) (by omega)
    first | (simp [q1] at q2; done) | (cases hh : S.lt d'[a]! d'[i2]! <;> simp [hh] at q1 q2)
  simp only [go_sem]
  refine gT.of (fun g1' => ?_) (fun g1' => ?_) <;> (have g1 := g1'; try simp only [decide_eq_true_eq, decide_eq_false_iff_not, beq_iff_eq, bne_iff_ne, beq_eq_false_iff_ne, ne_eq, Bool.not_eq_true', Bool.not_eq_false', bne_eq_false_iff_eq, Int.not_lt, Int.not_le] at g1)
  · rw [if_pos (by omega)] at he
    simp only [go_sem, g1']
    rw [← he]
    exact ⟨⟨_, _, rfl⟩, h3⟩
  · rw [if_neg (by omega)] at he
    have c1 : i2 < S.n := by omega
    have c2 : j2 < S.n := by omega
    obtain ⟨n1, n2, t1, t2, h5⟩ := h3.sw c1 c2
    simp only [go_sem, g1', S.ix c1, S.ix c2, h3.ld c1, h3.ld c2, t1, t2, nadd1 (show i2 < 4000000 by omega), nsub1 (show 0 < j2 by omega) (show j2 < 4000000 by omega)]
    exact ⟨j2 - 1 + 1 - (i2 + 1), by omega, i2 + 1, j2 - 1, _, rfl, by omega, by omega, by omega, rfl, h5, he⟩

theorem so_part {a b p : Nat} (h : S.Row m d) (hb : b ≤ S.n) (hp : a ≤ p) (hp2 : p < b) : WC R F.slices_partitionCmpFunc_api_Want [S.sv, .int .i64 a, .int .i64 b, .int .i64 p, S.cv] m fun r m' =>
    r = .tuple #[.int .i64 (partition S.lt d a b p).1, .bool (partition S.lt d a b p).2.1] ∧ S.Row m' (partition S.lt d a b p).2.2 := by
  refine WC.of R.slices_partitionCmpFunc_api_Want rfl ?_
  have hn := S.small
  have ca : a < S.n := by omega
  have cp : p < S.n := by omega
  obtain ⟨n1, n2, t1, t2, h1⟩ := h.sw ca cp
  simp only [RC.slices_partitionCmpFunc_api_Want, go_sem, S.ix ca, S.ix cp, h.ld ca, h.ld cp, t1, t2, nadd1 (show a < 4000000 by omega), nsub1 (show 0 < b by omega) (show b < 4000000 by omega)]
  have u1 := scanUp_ge (fun x => S.lt x (swp d a p)[a]!) (swp d a p) (b - 1) (a + 1)
  have u2 := (scanUp_spec (fun x => S.lt x (swp d a p)[a]!) (swp d a p) (b - 1) _ (a + 1) rfl).2.1 (by omega)
  have w1 := scanDown_le (fun x => !S.lt x (swp d a p)[a]!) (swp d a p) (scanUp (fun x => S.lt x (swp d a p)[a]!) (swp d a p) (b - 1) (a + 1)) (b - 1)
  have w2 := (scanDown_spec (fun x => !S.lt x (swp d a p)[a]!) (swp d a p) (scanUp (fun x => S.lt x (swp d a p)[a]!) (swp d a p) (b - 1) (a + 1)) (b - 1)).2.1 (by omega)
  have u3 := (scanUp_spec (fun x => S.lt x (swp d a p)[a]!) (swp d a p) (b - 1) _ (a + 1) rfl).2.2.2
  have w3 := (scanDown_spec (fun x => !S.lt x (swp d a p)[a]!) (swp d a p) (scanUp (fun x => S.lt x (swp d a p)[a]!) (swp d a p) (b - 1) (a + 1)) (b - 1)).2.2.2
  have hpe : partition S.lt d a b p = (if scanUp (fun x => S.lt x (swp d a p)[a]!) (swp d a p) (b - 1) (a + 1) > scanDown (fun x => !S.lt x (swp d a p)[a]!) (swp d a p) (scanUp (fun x => S.lt x (swp d a p)[a]!) (swp d a p) (b - 1) (a + 1)) (b - 1) then
      (scanDown (fun x => !S.lt x (swp d a p)[a]!) (swp d a p) (scanUp (fun x => S.lt x (swp d a p)[a]!) (swp d a p) (b - 1) (a + 1)) (b - 1), true, swp (swp d a p) (scanDown (fun x => !S.lt x (swp d a p)[a]!) (swp d a p) (scanUp (fun x => S.lt x (swp d a p)[a]!) (swp d a p) (b - 1) (a + 1)) (b - 1)) a)
      else ((partLoop S.lt a (scanUp (fun x => S.lt x (swp d a p)[a]!) (swp d a p) (b - 1) (a + 1) + 1) (scanDown (fun x => !S.lt x (swp d a p)[a]!) (swp d a p) (scanUp (fun x => S.lt x (swp d a p)[a]!) (swp d a p) (b - 1) (a + 1)) (b - 1) - 1) (swp (swp d a p) (scanUp (fun x => S.lt x (swp d a p)[a]!) (swp d a p) (b - 1) (a + 1)) (scanDown (fun x => !S.lt x (swp d a p)[a]!) (swp d a p) (scanUp (fun x => S.lt x (swp d a p)[a]!) (swp d a p) (b - 1) (a + 1)) (b - 1)))).1, false,
        swp (partLoop S.lt a (scanUp (fun x => S.lt x (swp d a p)[a]!) (swp d a p) (b - 1) (a + 1) + 1) (scanDown (fun x => !S.lt x (swp d a p)[a]!) (swp d a p) (scanUp (fun x => S.lt x (swp d a p)[a]!) (swp d a p) (b - 1) (a + 1)) (b - 1) - 1) (swp (swp d a p) (scanUp (fun x => S.lt x (swp d a p)[a]!) (swp d a p) (b - 1) (a + 1)) (scanDown (fun x => !S.lt x (swp d a p)[a]!) (swp d a p) (scanUp (fun x => S.lt x (swp d a p)[a]!) (swp d a p) (b - 1) (a + 1)) (b - 1)))).2
          (partLoop S.lt a (scanUp (fun x => S.lt x (swp d a p)[a]!) (swp d a p) (b - 1) (a + 1) + 1) (scanDown (fun x => !S.lt x (swp d a p)[a]!) (swp d a p) (scanUp (fun x => S.lt x (swp d a p)[a]!) (swp d a p) (b - 1) (a + 1)) (b - 1) - 1) (swp (swp d a p) (scanUp (fun x => S.lt x (swp d a p)[a]!) (swp d a p) (b - 1) (a + 1)) (scanDown (fun x => !S.lt x (swp d a p)[a]!) (swp d a p) (scanUp (fun x => S.lt x (swp d a p)[a]!) (swp d a p) (b - 1) (a + 1)) (b - 1)))).1 a)) := rfl
  rw [hpe]
  refine WL.mono (so_pa5 h1 ca (show b - 1 < S.n by omega) (by omega)) ?_
  rintro _ _ m2 ⟨rfl, rfl, h2⟩
  generalize scanUp (fun x => S.lt x (swp d a p)[a]!) (swp d a p) (b - 1) (a + 1) = i2 at u1 u2 u3 w1 w2 w3 ⊢
  simp only [go_sem]
  refine WL.mono (so_pa4 h2 ca (show b - 1 < S.n by omega) (by omega)) ?_
  rintro _ _ m3 ⟨rfl, rfl, h3⟩
  generalize scanDown (fun x => !S.lt x (swp d a p)[a]!) (swp d a p) i2 (b - 1) = j2 at w1 w2 w3 ⊢
  have hne : i2 ≠ j2 := by
    intro e
    subst e
    have q1 := u3 (by omega)
    have q2 := w3 (by omega) (by omega)
    first | (simp [q1] at q2; done) | (cases hh : S.lt d'[a]! d'[i2]! <;> simp [hh] at q1 q2)
  clear u3 w3
  generalize swp d a p = d1 at *
  simp only [go_sem]
  have c2 : j2 < S.n := by omega
  refine gT.of (fun g1' => ?_) (fun g1' => ?_) <;> (have g1 := g1'; try simp only [decide_eq_true_eq, decide_eq_false_iff_not, beq_iff_eq, bne_iff_ne, beq_eq_false_iff_ne, ne_eq, Bool.not_eq_true', Bool.not_eq_false', bne_eq_false_iff_eq, Int.not_lt, Int.not_le] at g1)
  · rw [if_pos (by omega)]
    obtain ⟨k1, k2, r1, r2, h5⟩ := h3.sw c2 ca
    simp only [go_sem, g1', S.ix c2, S.ix ca, h3.ld c2, h3.ld ca, r1, r2]
    exact h5
  · rw [if_neg (by omega)]
    have c1 : i2 < S.n := by omega
    obtain ⟨k1, k2, r1, r2, h5⟩ := h3.sw c1 c2
    simp only [go_sem, g1', S.ix c1, S.ix c2, h3.ld c1, h3.ld c2, r1, r2, nadd1 (show i2 < 4000000 by omega), nsub1 (show 0 < j2 by omega) (show j2 < 4000000 by omega)]
    refine WL.mono (so_pa3 h5 ca (show j2 - 1 < S.n by omega) (by omega) (by omega)) ?_
    rintro _ _ m4 ⟨rfl, ⟨q, bb, rfl⟩, h6⟩
    have hle := partLoop_le (S := S) (a := a) (j2 - 1 + 1 - (i2 + 1)) (i2 + 1) (j2 - 1) (swp d1 i2 j2) (Nat.le_refl _)
    generalize partLoop S.lt a (i2 + 1) (j2 - 1) (swp d1 i2 j2) = P at *
    have c3 : P.1 < S.n := by omega
    obtain ⟨k3, k4, r3, r4, h7⟩ := h6.sw c3 ca
    simp only [go_sem, S.ix c3, S.ix ca, h6.ld c3, h6.ld ca, r3, r4]
    exact h7

theorem so_pe2 {a i j : Nat} (h : S.Row m d) (ha : a < S.n) (hj : j < S.n) (hi : i ≤ S.n) :
    WL R [0, 1, 4, 11, 12] RB.slices_partitionEqualCmpFunc_api_Want_2 [(0, S.sv), (1, .int .i64 a), (4, S.cv), (11, .int .i64 i), (12, .int .i64 j)] m fun x e m' =>
      x = .exit 2 ∧ e = [(0, S.sv), (1, .int .i64 a), (4, S.cv), (11, .int .i64 (scanUp (fun x => !S.lt d[a]! x) d j i)), (12, .int .i64 j), (47, .bool false)] ∧ S.Row m' d := by
  have hn := S.small
  refine WL.of (fun r e m' => ∃ (k : Nat), r = S.n + 1 - k ∧ k ≤ S.n ∧ e = [(0, S.sv), (1, .int .i64 a), (4, S.cv), (11, .int .i64 k), (12, .int .i64 j)] ∧ S.Row m' d ∧ scanUp (fun x => !S.lt d[a]! x) d j k = scanUp (fun x => !S.lt d[a]! x) d j i) (S.n + 1 - i)
    ⟨i, rfl, hi, by simp only [go_sem] <;> rfl, h, rfl⟩ ?_
  rintro n0 _ m1 ⟨k, hr, hk, rfl, h1, he⟩
  rw [scanUp] at he
  simp only [RB.slices_partitionEqualCmpFunc_api_Want_2, go_sem]
  refine gT.of (fun g1' => ?_) (fun g1' => ?_) <;> (have g1 := g1'; try simp only [decide_eq_true_eq, decide_eq_false_iff_not, beq_iff_eq, bne_iff_ne, beq_eq_false_iff_ne, ne_eq, Bool.not_eq_true', Bool.not_eq_false', bne_eq_false_iff_eq, Int.not_lt, Int.not_le] at g1)
  · have hk2 : k < S.n := by omega
    simp only [go_sem, g1', S.ix hk2, S.ix ha, h1.ld hk2, h1.ld ha]
    refine gC.of (S.cmp m1 d[a]! d[k]!) ?_
    rintro _ m2 ⟨rfl, hx2⟩
    simp only [go_sem]
    have h2 := h1.keep hx2
    refine gT.of (fun g2' => ?_) (fun g2' => ?_) <;> (have g2 := g2'; try simp only [decide_eq_true_eq, decide_eq_false_iff_not, beq_iff_eq, bne_iff_ne, beq_eq_false_iff_ne, ne_eq, Bool.not_eq_true', Bool.not_eq_false', bne_eq_false_iff_eq, Int.not_lt, Int.not_le] at g2)
    · rw [if_pos (by rw [S.lt_f' (by simpa using g2)]; simp; omega)] at he
      simp only [go_sem, g2', nadd1 (show k < 4000000 by omega)]
      exact ⟨S.n + 1 - (k + 1), by omega, k + 1, rfl, by omega, rfl, h2, he⟩
    · rw [if_neg (by rw [S.lt_t (by simpa using g2)]; simp)] at he
      rw [← he]
      simp only [go_sem, g2']
      exact h2
  · rw [if_neg (by simp; omega)] at he
    rw [← he]
    simp only [go_sem, g1']
    exact h1

theorem so_pe1 {a i j : Nat} (h : S.Row m d) (ha : a < S.n) (hj : j < S.n) (hi : 1 ≤ i) :
    WL R [0, 1, 4, 11, 12] RB.slices_partitionEqualCmpFunc_api_Want_1 [(0, S.sv), (1, .int .i64 a), (4, S.cv), (11, .int .i64 i), (12, .int .i64 j)] m fun x e m' =>
      x = .exit 4 ∧ e = [(0, S.sv), (1, .int .i64 a), (4, S.cv), (11, .int .i64 i), (12, .int .i64 (scanDown (fun x => S.lt d[a]! x) d i j)), (65, .bool false)] ∧ S.Row m' d := by
  have hn := S.small
  refine WL.of (fun r e m' => ∃ (k : Nat), r = k ∧ k < S.n ∧ e = [(0, S.sv), (1, .int .i64 a), (4, S.cv), (11, .int .i64 i), (12, .int .i64 k)] ∧ S.Row m' d ∧ scanDown (fun x => S.lt d[a]! x) d i k = scanDown (fun x => S.lt d[a]! x) d i j) j
    ⟨j, rfl, hj, by simp only [go_sem] <;> rfl, h, rfl⟩ ?_
  rintro n0 _ m1 ⟨k, hr, hk, rfl, h1, he⟩
  simp only [RB.slices_partitionEqualCmpFunc_api_Want_1, go_sem]
  refine gT.of (fun g1' => ?_) (fun g1' => ?_) <;> (have g1 := g1'; try simp only [decide_eq_true_eq, decide_eq_false_iff_not, beq_iff_eq, bne_iff_ne, beq_eq_false_iff_ne, ne_eq, Bool.not_eq_true', Bool.not_eq_false', bne_eq_false_iff_eq, Int.not_lt, Int.not_le] at g1)
  · obtain ⟨k, rfl⟩ : ∃ k', k = k' + 1 := ⟨k - 1, by omega⟩
    simp only [scanDown] at he
    have e1 := nsub1 (i := k + 1) (by omega) (by omega)
    simp only [Nat.add_sub_cancel] at e1
    simp only [go_sem, g1', S.ix hk, S.ix ha, h1.ld hk, h1.ld ha]
    refine gC.of (S.cmp m1 d[a]! d[k + 1]!) ?_
    rintro _ m2 ⟨rfl, hx2⟩
    simp only [go_sem]
    have h2 := h1.keep hx2
    refine gT.of (fun g2' => ?_) (fun g2' => ?_) <;> (have g2 := g2'; try simp only [decide_eq_true_eq, decide_eq_false_iff_not, beq_iff_eq, bne_iff_ne, beq_eq_false_iff_ne, ne_eq, Bool.not_eq_true', Bool.not_eq_false', bne_eq_false_iff_eq, Int.not_lt, Int.not_le] at g2)
    · rw [if_pos (by rw [S.lt_t g2]; simp; omega)] at he
      simp only [go_sem, g2', e1]
      exact ⟨k, by omega, k, rfl, by omega, rfl, h2, he⟩
    · rw [if_neg (by rw [S.lt_f' g2]; simp)] at he
      rw [← he]
      simp only [go_sem, g2']
      exact h2
  · have he2 : scanDown (fun x => S.lt d[a]! x) d i k = k := by
      cases k with
      | zero => rfl
      | succ k => simp only [scanDown]; rw [if_neg (by simp; omega)]
    rw [← he, he2]
    simp only [go_sem, g1']
    exact h1

theorem so_pe3 {a i j : Nat} (h : S.Row m d) (ha : a < S.n) (hj : j < S.n) (hi : 1 ≤ i) (hij : i ≤ j + 1) :
    WL R [0, 1, 4, 11, 12] RB.slices_partitionEqualCmpFunc_api_Want_3 [(0, S.sv), (1, .int .i64 a), (4, S.cv), (11, .int .i64 i), (12, .int .i64 j)] m fun x e m' =>
      x = .exit 0 ∧ (∃ q b, e = [(0, S.sv), (1, .int .i64 a), (4, S.cv), (11, .int .i64 (partEqLoop S.lt a i j d).1), (12, q), (70, b)]) ∧ S.Row m' (partEqLoop S.lt a i j d).2 := by
  have hn := S.small
  refine WL.of (fun r e m' => ∃ (i' j' : Nat) (d' : Array α), r = j' + 1 - i' ∧ 1 ≤ i' ∧ i' ≤ j' + 1 ∧ j' < S.n ∧ e = [(0, S.sv), (1, .int .i64 a), (4, S.cv), (11, .int .i64 i'), (12, .int .i64 j')] ∧ S.Row m' d' ∧ partEqLoop S.lt a i' j' d' = partEqLoop S.lt a i j d) (j + 1 - i)
    ⟨i, j, d, rfl, hi, hij, hj, by simp only [go_sem] <;> rfl, h, rfl⟩ ?_
  rintro n0 _ m1 ⟨i', j', d', hr, hi', hij', hj', rfl, h1, he⟩
  simp only [RB.slices_partitionEqualCmpFunc_api_Want_3, go_sem]
  rw [partEqLoop_eq] at he
  have u1 := scanUp_ge (fun x => !S.lt d'[a]! x) d' j' i'
  have u2 := (scanUp_spec (fun x => !S.lt d'[a]! x) d' j' _ i' rfl).2.1 hij'
  have u3 := (scanUp_spec (fun x => !S.lt d'[a]! x) d' j' _ i' rfl).2.2.2
  refine WL.mono (so_pe2 h1 ha hj' (by omega)) ?_
  rintro _ _ m2 ⟨rfl, rfl, h2⟩
  generalize scanUp (fun x => !S.lt d'[a]! x) d' j' i' = i2 at u1 u2 u3 he ⊢
  simp only [go_sem]
  have w1 := scanDown_le (fun x => S.lt d'[a]! x) d' i2 j'
  have w2 := (scanDown_spec (fun x => S.lt d'[a]! x) d' i2 j').2.1 (by omega)
  have w3 := (scanDown_spec (fun x => S.lt d'[a]! x) d' i2 j').2.2.2
  refine WL.mono (so_pe1 h2 ha hj' (by omega)) ?_
  rintro _ _ m3 ⟨rfl, rfl, h3⟩
  generalize scanDown (fun x => S.lt d'[a]! x) d' i2 j' = j2 at w1 w2 w3 he ⊢
  have hne : i2 ≠ j2 := by
    intro e
    subst e
    have q1 := u3 (by omega)
    have q2 := w3 (by omega) (by omega)
    first | (simp [q1] at q2; done) | (cases hh : S.lt d'[a]! d'[i2]! <;> simp [hh] at q1 q2)
  simp only [go_sem]
  refine gT.of (fun g1' => ?_) (fun g1' => ?_) <;> (have g1 := g1'; try simp only [decide_eq_true_eq, decide_eq_false_iff_not, beq_iff_eq, bne_iff_ne, beq_eq_false_iff_ne, ne_eq, Bool.not_eq_true', Bool.not_eq_false', bne_eq_false_iff_eq, Int.not_lt, Int.not_le] at g1)
  · rw [if_pos (by omega)] at he
    simp only [go_sem, g1']
    rw [← he]
    exact ⟨⟨_, _, rfl⟩, h3⟩
  · rw [if_neg (by omega)] at he
    have c1 : i2 < S.n := by omega
    have c2 : j2 < S.n := by omega
    obtain ⟨n1, n2, t1, t2, h5⟩ := h3.sw c1 c2
    simp only [go_sem, g1', S.ix c1, S.ix c2, h3.ld c1, h3.ld c2, t1, t2, nadd1 (show i2 < 4000000 by omega), nsub1 (show 0 < j2 by omega) (show j2 < 4000000 by omega)]
    exact ⟨j2 - 1 + 1 - (i2 + 1), by omega, i2 + 1, j2 - 1, _, rfl, by omega, by omega, by omega, rfl, h5, he⟩

theorem so_parte {a b p : Nat} (h : S.Row m d) (hb : b ≤ S.n) (hp : a ≤ p) (hp2 : p < b) : WC R F.slices_partitionEqualCmpFunc_api_Want [S.sv, .int .i64 a, .int .i64 b, .int .i64 p, S.cv] m fun r m' =>
    r = .int .i64 (partitionEqual S.lt d a b p).1 ∧ S.Row m' (partitionEqual S.lt d a b p).2 := by
  refine WC.of R.slices_partitionEqualCmpFunc_api_Want rfl ?_
  have hn := S.small
  have ca : a < S.n := by omega
  have cp : p < S.n := by omega
  obtain ⟨n1, n2, t1, t2, h1⟩ := h.sw ca cp
  simp only [RC.slices_partitionEqualCmpFunc_api_Want, go_sem, S.ix ca, S.ix cp, h.ld ca, h.ld cp, t1, t2, nadd1 (show a < 4000000 by omega), nsub1 (show 0 < b by omega) (show b < 4000000 by omega)]
  refine WL.mono (so_pe3 h1 ca (show b - 1 < S.n by omega) (by omega) (by omega)) ?_
  rintro _ _ m2 ⟨rfl, ⟨q, bb, rfl⟩, h2⟩
  simp only [go_sem]
  exact ⟨rfl, h2⟩
end Go.Am


/- Sorting a row at api_Want (Shed): insertion of a few. Printed out of SortT4.tmpl by sortgen.py. -/
set_option linter.unusedVariables false
set_option linter.unusedSimpArgs false
namespace Go.Am
open Go.Sort
variable {α : Type} [Inhabited α] {S : SortC R α 2} {m : Mem} {d : Array α}

theorem so_pi3 {a b i : Nat} {v10 : Value} {rest : Env} (h : S.Row m d) (hb : b ≤ S.n) (hi : 1 ≤ i) (hib : i ≤ b) :
    WL R [0, 1, 2, 3, 9, 10] RB.slices_partialInsertionSortCmpFunc_api_Want_3 ((0, S.sv) :: (1, .int .i64 a) :: (2, .int .i64 b) :: (3, S.cv) :: (9, .int .i64 i) :: (10, v10) :: rest) m fun x e m' =>
      x = .exit 2 ∧ e = [(0, S.sv), (1, .int .i64 a), (2, .int .i64 b), (3, S.cv), (9, .int .i64 (scanSorted S.lt d b i)), (10, v10), (36, .bool false)] ∧ S.Row m' d ∧ i ≤ scanSorted S.lt d b i ∧ scanSorted S.lt d b i ≤ b := by
  have hn := S.small
  refine WL.of (fun r e m' => ∃ (k : Nat), r = b - k ∧ 1 ≤ k ∧ i ≤ k ∧ k ≤ b ∧ e = [(0, S.sv), (1, .int .i64 a), (2, .int .i64 b), (3, S.cv), (9, .int .i64 k), (10, v10)] ∧ S.Row m' d ∧ scanSorted S.lt d b k = scanSorted S.lt d b i) (b - i)
    ⟨i, rfl, hi, Nat.le_refl _, hib, by simp only [go_sem] <;> rfl, h, rfl⟩ ?_
  rintro n0 _ m1 ⟨k, hr, hk1, hik, hkb, rfl, h1, he⟩
  rw [scanSorted] at he
  simp only [RB.slices_partialInsertionSortCmpFunc_api_Want_3, go_sem]
  refine gT.of (fun g1' => ?_) (fun g1' => ?_) <;> (have g1 := g1'; try simp only [decide_eq_true_eq, decide_eq_false_iff_not, beq_iff_eq, bne_iff_ne, beq_eq_false_iff_ne, ne_eq, Bool.not_eq_true', Bool.not_eq_false', bne_eq_false_iff_eq, Int.not_lt, Int.not_le] at g1)
  · have c1 : k < S.n := by omega
    have c0 : k - 1 < S.n := by omega
    simp only [go_sem, g1', nsub1 (show 0 < k by omega) (show k < 4000000 by omega), S.ix c1, S.ix c0, h1.ld c1, h1.ld c0]
    refine gC.of (S.cmp m1 d[k]! d[k - 1]!) ?_
    rintro _ m2 ⟨rfl, hx2⟩
    simp only [go_sem]
    have h2 := h1.keep hx2
    refine gT.of (fun g2' => ?_) (fun g2' => ?_) <;> (have g2 := g2'; try simp only [decide_eq_true_eq, decide_eq_false_iff_not, beq_iff_eq, bne_iff_ne, beq_eq_false_iff_ne, ne_eq, Bool.not_eq_true', Bool.not_eq_false', bne_eq_false_iff_eq, Int.not_lt, Int.not_le] at g2)
    · rw [if_pos (by rw [S.lt_f' (by simpa using g2)]; simp; omega)] at he
      simp only [go_sem, g2', nadd1 (show k < 4000000 by omega)]
      exact ⟨b - (k + 1), by omega, k + 1, rfl, by omega, by omega, by omega, rfl, h2, he⟩
    · rw [if_neg (by rw [S.lt_t (by simpa using g2)]; simp)] at he
      rw [← he]
      simp only [go_sem, g2']
      exact ⟨h2, hik, hkb⟩
  · rw [if_neg (by simp; omega)] at he
    rw [← he]
    simp only [go_sem, g1']
    exact ⟨h1, hik, hkb⟩

theorem so_pi2 {j : Nat} {v1 v2 v9 v10 : Value} (h : S.Row m d) (hj : j < S.n) :
    WL R [0, 1, 2, 3, 9, 10, 11] RB.slices_partialInsertionSortCmpFunc_api_Want_2 [(0, S.sv), (1, v1), (2, v2), (3, S.cv), (9, v9), (10, v10), (11, .int .i64 j)] m fun x e m' =>
      x = .exit 4 ∧ (∃ rest, e = (0, S.sv) :: (1, v1) :: (2, v2) :: (3, S.cv) :: (9, v9) :: (10, v10) :: rest) ∧ S.Row m' (shiftDown S.lt j d) := by
  have hn := S.small
  refine WL.of (fun r e m' => ∃ (k : Nat) (d' : Array α), r = k ∧ k < S.n ∧ e = [(0, S.sv), (1, v1), (2, v2), (3, S.cv), (9, v9), (10, v10), (11, .int .i64 k)] ∧ S.Row m' d' ∧ shiftDown S.lt k d' = shiftDown S.lt j d) j
    ⟨j, d, rfl, hj, by simp only [go_sem] <;> rfl, h, rfl⟩ ?_
  rintro n0 _ m1 ⟨k, d', hr, hk, rfl, h1, he⟩
  simp only [RB.slices_partialInsertionSortCmpFunc_api_Want_2, go_sem]
  refine gT.of (fun g1' => ?_) (fun g1' => ?_) <;> (have g1 := g1'; try simp only [decide_eq_true_eq, decide_eq_false_iff_not, beq_iff_eq, bne_iff_ne, beq_eq_false_iff_ne, ne_eq, Bool.not_eq_true', Bool.not_eq_false', bne_eq_false_iff_eq, Int.not_lt, Int.not_le] at g1)
  · obtain ⟨k, rfl⟩ : ∃ k', k = k' + 1 := ⟨k - 1, by omega⟩
    simp only [shiftDown] at he
    have c0 : k < S.n := by omega
    have e1 := nsub1 (i := k + 1) (by omega) (by omega)
    simp only [Nat.add_sub_cancel] at e1
    simp only [go_sem, g1', e1, S.ix hk, S.ix c0, h1.ld hk, h1.ld c0]
    refine gC.of (S.cmp m1 d'[k + 1]! d'[k]!) ?_
    rintro _ m2 ⟨rfl, hx2⟩
    simp only [go_sem]
    have h2 := h1.keep hx2
    refine gT.of (fun g2' => ?_) (fun g2' => ?_) <;> (have g2 := g2'; try simp only [decide_eq_true_eq, decide_eq_false_iff_not, beq_iff_eq, bne_iff_ne, beq_eq_false_iff_ne, ne_eq, Bool.not_eq_true', Bool.not_eq_false', bne_eq_false_iff_eq, Int.not_lt, Int.not_le] at g2)
    · rw [if_pos (by rw [S.lt_f' (by simpa using g2)]; rfl)] at he
      rw [← he]
      simp only [go_sem, g2']
      exact ⟨⟨_, rfl⟩, h2⟩
    · rw [if_neg (by rw [S.lt_t (by simpa using g2)]; simp)] at he
      obtain ⟨n1, n2, t1, t2, h5⟩ := h2.sw hk c0
      simp only [go_sem, g2', e1, S.ix hk, S.ix c0, h2.ld hk, h2.ld c0, t1, t2]
      exact ⟨k, by omega, k, _, rfl, c0, rfl, h5, he⟩
  · have hk0 : k = 0 := by omega
    subst hk0
    simp only [shiftDown] at he
    rw [← he]
    simp only [go_sem, g1']
    exact ⟨⟨_, rfl⟩, h1⟩

theorem so_pi1 {b j : Nat} {v1 v9 v10 : Value} (h : S.Row m d) (hj : 1 ≤ j) (hb : b ≤ S.n) (hjb : j ≤ b) :
    WL R [0, 1, 2, 3, 9, 10, 12] RB.slices_partialInsertionSortCmpFunc_api_Want_1 [(0, S.sv), (1, v1), (2, .int .i64 b), (3, S.cv), (9, v9), (10, v10), (12, .int .i64 j)] m fun x e m' =>
      x = .exit 6 ∧ (∃ rest, e = (0, S.sv) :: (1, v1) :: (2, .int .i64 b) :: (3, S.cv) :: (9, v9) :: (10, v10) :: rest) ∧ S.Row m' (shiftUp S.lt b j d) := by
  have hn := S.small
  refine WL.of (fun r e m' => ∃ (k : Nat) (d' : Array α), r = b - k ∧ 1 ≤ k ∧ k ≤ b ∧ e = [(0, S.sv), (1, v1), (2, .int .i64 b), (3, S.cv), (9, v9), (10, v10), (12, .int .i64 k)] ∧ S.Row m' d' ∧ shiftUp S.lt b k d' = shiftUp S.lt b j d) (b - j)
    ⟨j, d, rfl, hj, hjb, by simp only [go_sem] <;> rfl, h, rfl⟩ ?_
  rintro n0 _ m1 ⟨k, d', hr, hk1, hkb, rfl, h1, he⟩
  rw [shiftUp] at he
  simp only [RB.slices_partialInsertionSortCmpFunc_api_Want_1, go_sem]
  refine gT.of (fun g1' => ?_) (fun g1' => ?_) <;> (have g1 := g1'; try simp only [decide_eq_true_eq, decide_eq_false_iff_not, beq_iff_eq, bne_iff_ne, beq_eq_false_iff_ne, ne_eq, Bool.not_eq_true', Bool.not_eq_false', bne_eq_false_iff_eq, Int.not_lt, Int.not_le] at g1)
  · rw [if_pos (by omega)] at he
    have c1 : k < S.n := by omega
    have c0 : k - 1 < S.n := by omega
    have e1 := nsub1 (show 0 < k by omega) (show k < 4000000 by omega)
    simp only [go_sem, g1', e1, S.ix c1, S.ix c0, h1.ld c1, h1.ld c0]
    refine gC.of (S.cmp m1 d'[k]! d'[k - 1]!) ?_
    rintro _ m2 ⟨rfl, hx2⟩
    simp only [go_sem]
    have h2 := h1.keep hx2
    refine gT.of (fun g2' => ?_) (fun g2' => ?_) <;> (have g2 := g2'; try simp only [decide_eq_true_eq, decide_eq_false_iff_not, beq_iff_eq, bne_iff_ne, beq_eq_false_iff_ne, ne_eq, Bool.not_eq_true', Bool.not_eq_false', bne_eq_false_iff_eq, Int.not_lt, Int.not_le] at g2)
    · rw [if_pos (by rw [S.lt_f' (by simpa using g2)]; rfl)] at he
      rw [← he]
      simp only [go_sem, g2']
      exact ⟨⟨_, rfl⟩, h2⟩
    · rw [if_neg (by rw [S.lt_t (by simpa using g2)]; simp)] at he
      obtain ⟨n1, n2, t1, t2, h5⟩ := h2.sw c1 c0
      simp only [go_sem, g2', e1, S.ix c1, S.ix c0, h2.ld c1, h2.ld c0, t1, t2, nadd1 (show k < 4000000 by omega)]
      exact ⟨b - (k + 1), by omega, k + 1, _, rfl, by omega, by omega, rfl, h5, he⟩
  · rw [if_neg (by omega)] at he
    rw [← he]
    simp only [go_sem, g1']
    exact ⟨⟨_, rfl⟩, h1⟩

theorem so_pins {a b : Nat} (h : S.Row m d) (hb : b ≤ S.n) (hab : a < b) : WC R F.slices_partialInsertionSortCmpFunc_api_Want [S.sv, .int .i64 a, .int .i64 b, S.cv] m fun r m' =>
    r = .bool (partialInsertionSort S.lt d a b).2 ∧ S.Row m' (partialInsertionSort S.lt d a b).1 := by
  refine WC.of R.slices_partialInsertionSortCmpFunc_api_Want rfl ?_
  have hn := S.small
  simp only [RC.slices_partialInsertionSortCmpFunc_api_Want, go_sem, nadd1 (show a < 4000000 by omega)]
  refine WL.of (fun r e m' => ∃ (s i : Nat) (d' : Array α), r = s ∧ s ≤ 5 ∧ a < i ∧ i ≤ b ∧ e = [(0, S.sv), (1, .int .i64 a), (2, .int .i64 b), (3, S.cv), (9, .int .i64 i), (10, .int .i64 (5 - s : Nat))] ∧ S.Row m' d' ∧ partialIns S.lt a b s i d' = partialInsertionSort S.lt d a b) 5
    ⟨5, a + 1, d, rfl, by omega, by omega, by omega, by simp only [go_sem] <;> rfl, h, rfl⟩ ?_
  rintro n0 _ m1 ⟨s, i, d', hr, hs, hai, hib, rfl, h1, he⟩
  simp only [RB.slices_partialInsertionSortCmpFunc_api_Want_4, go_sem]
  refine gT.of (fun g1' => ?_) (fun g1' => ?_) <;> (have g1 := g1'; try simp only [decide_eq_true_eq, decide_eq_false_iff_not, beq_iff_eq, bne_iff_ne, beq_eq_false_iff_ne, ne_eq, Bool.not_eq_true', Bool.not_eq_false', bne_eq_false_iff_eq, Int.not_lt, Int.not_le] at g1)
  · obtain ⟨s, rfl⟩ : ∃ s', s = s' + 1 := ⟨s - 1, by omega⟩
    simp only [go_sem, g1']
    refine WL.mono (so_pi3 h1 hb (by omega) hib) ?_
    rintro _ _ m2 ⟨rfl, rfl, h2, p1, p2⟩
    simp only [partialIns] at he
    generalize scanSorted S.lt d' b i = i2 at p1 p2 he ⊢
    simp only [go_sem]
    refine gT.of (fun g2' => ?_) (fun g2' => ?_) <;> (have g2 := g2'; try simp only [decide_eq_true_eq, decide_eq_false_iff_not, beq_iff_eq, bne_iff_ne, beq_eq_false_iff_ne, ne_eq, Bool.not_eq_true', Bool.not_eq_false', bne_eq_false_iff_eq, Int.not_lt, Int.not_le] at g2)
    · rw [if_pos (by omega)] at he
      simp only [go_sem, g2']
      rw [← he]
      exact ⟨rfl, h2⟩
    · rw [if_neg (by omega)] at he
      simp only [go_sem, g2', nsub (show a ≤ b by omega) (show b < 4000000 by omega)]
      refine gT.of (fun g3' => ?_) (fun g3' => ?_) <;> (have g3 := g3'; try simp only [decide_eq_true_eq, decide_eq_false_iff_not, beq_iff_eq, bne_iff_ne, beq_eq_false_iff_ne, ne_eq, Bool.not_eq_true', Bool.not_eq_false', bne_eq_false_iff_eq, Int.not_lt, Int.not_le] at g3)
      · rw [if_pos (by omega)] at he
        simp only [go_sem, g3']
        rw [← he]
        exact ⟨rfl, h2⟩
      · rw [if_neg (by omega)] at he
        have c1 : i2 < S.n := by omega
        have c0 : i2 - 1 < S.n := by omega
        have e1 := nsub1 (show 0 < i2 by omega) (show i2 < 4000000 by omega)
        obtain ⟨n1, n2, t1, t2, h5⟩ := h2.sw c1 c0
        simp only [go_sem, g3', e1, S.ix c1, S.ix c0, h2.ld c1, h2.ld c0, t1, t2, nsub (show a ≤ i2 by omega) (show i2 < 4000000 by omega)]
        have se : IntKind.wrap .i64 (((5 - (s + 1) : Nat) : Int) + 1) = ((5 - s : Nat) : Int) := by rw [wrap_i64 (by omega) (by omega)]; omega
        refine gT.of (fun g4' => ?_) (fun g4' => ?_) <;> (have g4 := g4'; try simp only [decide_eq_true_eq, decide_eq_false_iff_not, beq_iff_eq, bne_iff_ne, beq_eq_false_iff_ne, ne_eq, Bool.not_eq_true', Bool.not_eq_false', bne_eq_false_iff_eq, Int.not_lt, Int.not_le] at g4)
        · rw [if_pos (show i2 - a ≥ 2 by omega)] at he
          simp only [go_sem, g4', e1]
          refine WL.mono (so_pi2 h5 c0) ?_
          rintro _ _ m3 ⟨rfl, ⟨rest, rfl⟩, h6⟩
          simp only [go_sem, nsub (show i2 ≤ b by omega) (show b < 4000000 by omega)]
          refine gT.of (fun g5' => ?_) (fun g5' => ?_) <;> (have g5 := g5'; try simp only [decide_eq_true_eq, decide_eq_false_iff_not, beq_iff_eq, bne_iff_ne, beq_eq_false_iff_ne, ne_eq, Bool.not_eq_true', Bool.not_eq_false', bne_eq_false_iff_eq, Int.not_lt, Int.not_le] at g5)
          · rw [if_pos (show b - i2 ≥ 2 by omega)] at he
            simp only [go_sem, g5', nadd1 (show i2 < 4000000 by omega)]
            refine WL.mono (so_pi1 h6 (by omega) hb (by omega)) ?_
            rintro _ _ m4 ⟨rfl, ⟨rest, rfl⟩, h7⟩
            simp only [go_sem, se]
            exact ⟨s, by omega, s, i2, _, rfl, by omega, by omega, by omega, rfl, h7, he⟩
          · rw [if_neg (show ¬ b - i2 ≥ 2 by omega)] at he
            simp only [go_sem, g5', se]
            exact ⟨s, by omega, s, i2, _, rfl, by omega, by omega, by omega, rfl, h6, he⟩
        · rw [if_neg (show ¬ i2 - a ≥ 2 by omega)] at he
          simp only [go_sem, g4', nsub (show i2 ≤ b by omega) (show b < 4000000 by omega)]
          refine gT.of (fun g5' => ?_) (fun g5' => ?_) <;> (have g5 := g5'; try simp only [decide_eq_true_eq, decide_eq_false_iff_not, beq_iff_eq, bne_iff_ne, beq_eq_false_iff_ne, ne_eq, Bool.not_eq_true', Bool.not_eq_false', bne_eq_false_iff_eq, Int.not_lt, Int.not_le] at g5)
          · rw [if_pos (show b - i2 ≥ 2 by omega)] at he
            simp only [go_sem, g5', nadd1 (show i2 < 4000000 by omega)]
            refine WL.mono (so_pi1 h5 (by omega) hb (by omega)) ?_
            rintro _ _ m4 ⟨rfl, ⟨rest, rfl⟩, h7⟩
            simp only [go_sem, se]
            exact ⟨s, by omega, s, i2, _, rfl, by omega, by omega, by omega, rfl, h7, he⟩
          · rw [if_neg (show ¬ b - i2 ≥ 2 by omega)] at he
            simp only [go_sem, g5', se]
            exact ⟨s, by omega, s, i2, _, rfl, by omega, by omega, by omega, rfl, h5, he⟩
  · have hs0 : s = 0 := by omega
    subst hs0
    simp only [partialIns] at he
    simp only [go_sem, g1']
    rw [← he]
    exact ⟨rfl, h1⟩
end Go.Am


/- Sorting a row at api_Want (Shed): patterns are broken. Printed out of SortT5.tmpl by sortgen.py. -/
set_option linter.unusedVariables false
set_option linter.unusedSimpArgs false
namespace Go.Am
open Go.Sort
variable {α : Type} [Inhabited α] {S : SortC R α 2} {m : Mem} {d : Array α}

set_option maxRecDepth 20000 in
theorem so_len64 {x : BitVec 64} (hx : x.toNat < 1000000) : WC R F.math_bits_Len64 [u64 x] m fun r m' => r = .int .i64 (bitsLen x.toNat : Nat) ∧ m' = m := by
  refine WC.of R.math_bits_Len64 rfl ?_
  have e32 : (4294967296#64).toNat = 4294967296 := rfl
  have e16 : (65536#64).toNat = 65536 := rfl
  have e8 : (256#64).toNat = 256 := rfl
  have s16 : (16#64).toNat = 16 := rfl
  have s8 : (8#64).toNat = 8 := rfl
  have q16 : (x >>> 16).toNat = x.toNat / 2 ^ 16 := by rw [BitVec.toNat_ushiftRight, Nat.shiftRight_eq_div_pow]
  have q8 : (x >>> 8).toNat = x.toNat / 2 ^ 8 := by rw [BitVec.toNat_ushiftRight, Nat.shiftRight_eq_div_pow]
  have g32 : decide (4294967296 ≤ x.toNat) = false := by simp; omega
  simp only [RC.math_bits_Len64, go_sem, e32, g32, e16]
  refine gT.of (fun h1' => ?_) (fun h1' => ?_) <;> (have h1 := h1'; try simp only [decide_eq_true_eq, decide_eq_false_iff_not, beq_iff_eq, bne_iff_ne, beq_eq_false_iff_ne, ne_eq, Bool.not_eq_true', Bool.not_eq_false', bne_eq_false_iff_eq, Int.not_lt, Int.not_le] at h1)
  · have c1 : x.toNat / 2 ^ 16 < 256 := by omega
    have g8 : decide (256 ≤ x.toNat / 2 ^ 16) = false := by simp; omega
    have l8 := len8 c1
    have b8 := bitsLen8 c1
    have bb := bitsLen_shr (n := x.toNat) (k := 16) h1
    have w1 : IntKind.wrap .i64 (0 + 16) = 16 := rfl
    have w2 : IntKind.wrap .i64 ((bitsLen (x.toNat / 2 ^ 16) : Nat) : Int) = (bitsLen (x.toNat / 2 ^ 16) : Nat) := wrap_i64 (by omega) (by omega)
    have w3 : IntKind.wrap .i64 (16 + (bitsLen (x.toNat / 2 ^ 16) : Nat)) = ((bitsLen x.toNat : Nat) : Int) := by rw [wrap_i64 (by omega) (by omega)]; omega
    simp only [go_sem, h1', s16, e8, q16, g8, w1, conv_u8, wrap_u8 c1, l8, conv_i64_u8, w2, w3]
  · simp only [go_sem, h1', e8]
    refine gT.of (fun h2' => ?_) (fun h2' => ?_) <;> (have h2 := h2'; try simp only [decide_eq_true_eq, decide_eq_false_iff_not, beq_iff_eq, bne_iff_ne, beq_eq_false_iff_ne, ne_eq, Bool.not_eq_true', Bool.not_eq_false', bne_eq_false_iff_eq, Int.not_lt, Int.not_le] at h2)
    · have c1 : x.toNat / 2 ^ 8 < 256 := by omega
      have l8 := len8 c1
      have b8 := bitsLen8 c1
      have bb := bitsLen_shr (n := x.toNat) (k := 8) h2
      have w1 : IntKind.wrap .i64 (0 + 8) = 8 := rfl
      have w2 : IntKind.wrap .i64 ((bitsLen (x.toNat / 2 ^ 8) : Nat) : Int) = (bitsLen (x.toNat / 2 ^ 8) : Nat) := wrap_i64 (by omega) (by omega)
      have w3 : IntKind.wrap .i64 (8 + (bitsLen (x.toNat / 2 ^ 8) : Nat)) = ((bitsLen x.toNat : Nat) : Int) := by rw [wrap_i64 (by omega) (by omega)]; omega
      simp only [go_sem, h2', s8, w1, conv_u8, q8, wrap_u8 c1, l8, conv_i64_u8, w2, w3]
    · have c1 : x.toNat < 256 := by omega
      have l8 := len8 c1
      have b8 := bitsLen8 c1
      have w2 : IntKind.wrap .i64 ((bitsLen x.toNat : Nat) : Int) = (bitsLen x.toNat : Nat) := wrap_i64 (by omega) (by omega)
      have w3 : IntKind.wrap .i64 (0 + (bitsLen x.toNat : Nat)) = ((bitsLen x.toNat : Nat) : Int) := by rw [wrap_i64 (by omega) (by omega)]; omega
      simp only [go_sem, h2', conv_u8, wrap_u8 c1, l8, conv_i64_u8, w2, w3]

theorem so_len {x : BitVec 64} (hx : x.toNat < 1000000) : WC R F.math_bits_Len [u64 x] m fun r m' => r = .int .i64 (bitsLen x.toNat : Nat) ∧ m' = m := by
  refine WC.of R.math_bits_Len rfl ?_
  simp only [RC.math_bits_Len, go_sem]
  refine gC.of (so_len64 hx) ?_
  rintro _ m1 ⟨rfl, hm⟩
  subst hm
  simp only [go_sem]

theorem so_pow2 {n : Nat} (hx : n < 1000000) : WC R F.slices_nextPowerOfTwo [.int .i64 (n : Nat)] m fun r m' => r = u64 (1#64 <<< bitsLen n) ∧ m' = m := by
  refine WC.of R.slices_nextPowerOfTwo rfl ?_
  have e : (BitVec.ofInt 64 (n : Int)).toNat = n := by rw [BitVec.ofInt_natCast, BitVec.toNat_ofNat, Nat.mod_eq_of_lt (by omega)]
  simp only [RC.slices_nextPowerOfTwo, go_sem]
  refine gC.of (so_len (x := BitVec.ofInt 64 (n : Int)) (by omega)) ?_
  rintro _ m1 ⟨rfl, hm⟩
  subst hm
  rw [e]
  have h0 : (0 : Int) ≤ (bitsLen n : Nat) := by omega
  simp only [go_sem, h0, Int.toNat_natCast]

structure so_Gen (m : Mem) (q : Nat) (x : BitVec 64) : Prop where
  at_ : m.blk q = some (.cells [u64 x] (some 1))
  lt : q < m.next
theorem so_Gen.ld {q : Nat} {x : BitVec 64} (h : so_Gen m q x) : aLoad false 1 m (.pointer (some ⟨q, 0, none⟩)) = some (u64 x) := by
  rw [load_w, h.at_]; rfl
theorem so_Gen.st {q : Nat} {x : BitVec 64} (h : so_Gen m q x) (y : BitVec 64) : ∃ m', aStore 1 m (.pointer (some ⟨q, 0, none⟩)) (u64 y) = some m' ∧ so_Gen m' q y ∧ Upd m m' [q] := by
  refine ⟨m.set q (some (.cells [u64 y] (some 1))), ?_, ⟨by simp [Mem.set], h.lt⟩, Upd.set (by simp)⟩
  rw [store_b, h.at_]
  rfl

theorem so_next {q : Nat} {r : UInt64} (h : so_Gen m q r.toBitVec) : WC R F.slices_xorshift_Next [.pointer (some ⟨q, 0, none⟩)] m fun v m' => v = u64 (xorNext r).toBitVec ∧ so_Gen m' q (xorNext r).toBitVec ∧ Upd m m' [q] := by
  refine WC.of R.slices_xorshift_Next rfl ?_
  have e13 : (13#64).toNat = 13 := rfl
  have e7 : (7#64).toNat = 7 := rfl
  have e17 : (17#64).toNat = 17 := rfl
  rw [xor_bv]
  obtain ⟨m1, t1, h1, u1⟩ := h.st (r.toBitVec ^^^ r.toBitVec <<< 13)
  generalize hy : r.toBitVec ^^^ r.toBitVec <<< 13 = y at t1 h1 ⊢
  obtain ⟨m2, t2, h2, u2⟩ := h1.st (y ^^^ y >>> 7)
  generalize hz : y ^^^ y >>> 7 = z at t2 h2 ⊢
  obtain ⟨m3, t3, h3, u3⟩ := h2.st (z ^^^ z <<< 17)
  simp only [RC.slices_xorshift_Next, go_sem, h.ld, e13, hy, t1, h1.ld, e7, hz, t2, h2.ld, e17, t3, h3.ld]
  exact ⟨h3, (u1.trans u2 (fun _ h => h) (fun _ h => .inl h)).trans u3 (fun _ h => h) (fun _ h => .inl h)⟩

set_option maxHeartbeats 2000000 in
theorem so_brk {a b : Nat} {cv : Value} (h : S.Row m d) (hb : b ≤ S.n) (hab : a ≤ b) (hm : S.m0.next ≤ m.next) : WC R F.slices_breakPatternsCmpFunc_api_Want [S.sv, .int .i64 a, .int .i64 b, cv] m fun r m' => S.Row m' (breakPatterns d a b) := by
  refine WC.of R.slices_breakPatternsCmpFunc_api_Want rfl ?_
  have hn := S.small
  simp only [RC.slices_breakPatternsCmpFunc_api_Want, go_sem, nsub hab (show b < 4000000 by omega)]
  refine gT.of (fun g1' => ?_) (fun g1' => ?_) <;> (have g1 := g1'; try simp only [decide_eq_true_eq, decide_eq_false_iff_not, beq_iff_eq, bne_iff_ne, beq_eq_false_iff_ne, ne_eq, Bool.not_eq_true', Bool.not_eq_false', bne_eq_false_iff_eq, Int.not_lt, Int.not_le] at g1)
  · rw [bpN_eq (by omega)]
    have eof : BitVec.ofInt 64 ((b - a : Nat) : Int) = (UInt64.ofNat (b - a)).toBitVec := by rw [BitVec.ofInt_natCast]; rfl
    have i1 : (b - a) / 4 ≤ b - a := Nat.div_le_self _ _
    have hx0 : Ext m (m.new (.cells [u64 0#64] (some 1))) := Ext.new
    have hg0 : so_Gen (m.new (.cells [u64 0#64] (some 1))) m.next 0#64 := ⟨by simp [Mem.new], by simp [Mem.new]⟩
    obtain ⟨m1, t0, hg1, u1⟩ := hg0.st (UInt64.ofNat (b - a)).toBitVec
    have hx1 : Ext m m1 := Upd.ext_of hx0 u1 (by simp)
    simp only [go_sem, g1', eof, conv_u, t0]
    have hq : S.b ≠ m.next := by have := h.lt; omega
    refine gC.of (so_pow2 (n := b - a) (by omega)) ?_
    rintro _ m2 ⟨rfl, hmm⟩
    subst hmm
    have p2 := two_pow_bitsLen_le (n := b - a) (by omega)
    have p0 : 0 < 2 ^ bitsLen (b - a) := Nat.two_pow_pos _
    have em : (1#64 <<< bitsLen (b - a)).toNat = 1 <<< bitsLen (b - a) := by
      rw [BitVec.toNat_shiftLeft]
      have e1 : (1#64).toNat = 1 := rfl
      rw [e1, Nat.one_shiftLeft, Nat.mod_eq_of_lt (by omega)]
    have em1 : (1#64 <<< bitsLen (b - a) - 1#64).toNat = (1 <<< bitsLen (b - a)) - 1 := by
      rw [BitVec.toNat_sub, em, Nat.one_shiftLeft]
      have e1 : (1#64).toNat = 1 := rfl
      rw [e1]; omega
    rw [← Nat.one_shiftLeft] at p2 p0
    generalize hM : 1#64 <<< bitsLen (b - a) = M at em em1 ⊢
    generalize hK : 1 <<< bitsLen (b - a) = K at em em1 p2 p0 ⊢
    clear hM hK em
    clear u1 hx0 hg0
    obtain ⟨i0, hi0⟩ : ∃ i0, i0 = a + (b - a) / 4 * 2 - 1 := ⟨_, rfl⟩
    have hi1 : a + (b - a) / 4 * 2 = i0 + 1 := by omega
    have hi2 : i0 + 3 ≤ b := by omega
    rw [← hi0]
    simp only [go_sem, nq4 (show b - a < 4000000 by omega), nm2 (show (b - a) / 4 < 1000000 by omega), nadd (show a + (b - a) / 4 * 2 < 4000000 by omega), nsub1 (show 0 < a + (b - a) / 4 * 2 by omega) (show a + (b - a) / 4 * 2 < 4000000 by omega), ← hi0]
    refine ⟨by omega, ?_⟩
    generalize hfin : bpN a (b - a) K 3 (UInt64.ofNat (b - a)) d i0 = fin
    refine WL.of (fun r e m' => ∃ (k : Nat) (s : UInt64) (d' : Array α), r = k ∧ k ≤ 3 ∧ e = [(0, S.sv), (1, .int .i64 a), (8, .int .i64 (b - a : Nat)), (9, .pointer (some ⟨m.next, 0, none⟩)), (10, u64 M), (11, .int .i64 (i0 + (3 - k) : Nat))] ∧ S.Row m' d' ∧ so_Gen m' m.next s.toBitVec ∧
        bpN a (b - a) K k s d' (i0 + (3 - k)) = fin) 3
      ⟨3, _, d, rfl, by omega, by simp only [go_sem] <;> rfl, h.keep hx1, hg1, hfin⟩ ?_
    rintro n0 _ m3 ⟨k, s, d', hr, hk, rfl, h3, hg3, he⟩
    simp only [RB.slices_breakPatternsCmpFunc_api_Want_1, go_sem, nq4 (show b - a < 4000000 by omega), nm2 (show (b - a) / 4 < 1000000 by omega), nadd (show a + (b - a) / 4 * 2 < 4000000 by omega), nadd1 (show a + (b - a) / 4 * 2 < 4000000 by omega)]
    refine ⟨by omega, ?_⟩
    refine gT.of (fun g2' => ?_) (fun g2' => ?_) <;> (have g2 := g2'; try simp only [decide_eq_true_eq, decide_eq_false_iff_not, beq_iff_eq, bne_iff_ne, beq_eq_false_iff_ne, ne_eq, Bool.not_eq_true', Bool.not_eq_false', bne_eq_false_iff_eq, Int.not_lt, Int.not_le] at g2)
    · obtain ⟨k, rfl⟩ : ∃ k', k = k' + 1 := ⟨k - 1, by omega⟩
      simp only [go_sem, g2']
      refine gC.of (so_next hg3) ?_
      rintro _ m4 ⟨rfl, hg4, hu4⟩
      have h4 := h3.so_other hu4 hq hm
      simp only [bpN, breakStep] at he
      generalize xorNext s = s' at hg4 he ⊢
      have ea : (s'.toBitVec &&& (M - 1#64)).toNat = s'.toNat &&& (K - 1) := by rw [BitVec.toNat_and, em1]; rfl
      have hle : s'.toNat &&& (K - 1) ≤ K - 1 := Nat.and_le_right
      generalize s'.toNat &&& (K - 1) = o at ea he hle
      have wo : IntKind.wrap .i64 ((o : Nat) : Int) = (o : Nat) := wrap_i64 (by omega) (by omega)
      have c0 : i0 + (3 - (k + 1)) < S.n := by omega
      have es : i0 + (3 - (k + 1)) + 1 = i0 + (3 - k) := by omega
      have n1 := nadd1 (show i0 + (3 - (k + 1)) < 4000000 by omega)
      rw [es] at n1 he
      simp only [go_sem, ea, wo]
      refine gT.of (fun g3' => ?_) (fun g3' => ?_) <;> (have g3 := g3'; try simp only [decide_eq_true_eq, decide_eq_false_iff_not, beq_iff_eq, bne_iff_ne, beq_eq_false_iff_ne, ne_eq, Bool.not_eq_true', Bool.not_eq_false', bne_eq_false_iff_eq, Int.not_lt, Int.not_le] at g3)
      · rw [if_pos (by omega)] at he
        have c1 : a + (o - (b - a)) < S.n := by omega
        obtain ⟨n1', n2', t1, t2, h5⟩ := h4.sw c0 c1
        simp only [go_sem, g3', nsub (show b - a ≤ o by omega) (show o < 4000000 by omega), nadd (show a + (o - (b - a)) < 4000000 by omega), S.ix c0, S.ix c1, h4.ld c0, h4.ld c1, t1, t2, n1]
        refine ⟨k, by omega, k, _, _, rfl, by omega, rfl, h5, ?_, he⟩
        exact ⟨by rw [(aStore_keep t2) _ (by simpa using fun e => hq e.symm), (aStore_keep t1) _ (by simpa using fun e => hq e.symm)]; exact hg4.at_, by rw [aStore_next t2, aStore_next t1]; exact hg4.lt⟩
      · rw [if_neg (by omega)] at he
        have c1 : a + o < S.n := by omega
        obtain ⟨n1', n2', t1, t2, h5⟩ := h4.sw c0 c1
        simp only [go_sem, g3', nadd (show a + o < 4000000 by omega), S.ix c0, S.ix c1, h4.ld c0, h4.ld c1, t1, t2, n1]
        refine ⟨k, by omega, k, _, _, rfl, by omega, rfl, h5, ?_, he⟩
        exact ⟨by rw [(aStore_keep t2) _ (by simpa using fun e => hq e.symm), (aStore_keep t1) _ (by simpa using fun e => hq e.symm)]; exact hg4.at_, by rw [aStore_next t2, aStore_next t1]; exact hg4.lt⟩
    · have hk0 : k = 0 := by omega
      subst hk0
      simp only [bpN] at he
      simp only [go_sem, g2']
      rw [← he]
      exact h3
  · have e : breakPatterns d a b = d := by
      unfold breakPatterns
      simp only
      rw [if_neg (by omega)]
    rw [e]
    simp only [go_sem, g1']
    exact h
end Go.Am


/- Sorting a row at api_Want (Shed): the whole. Printed out of SortT6.tmpl by sortgen.py. -/
set_option linter.unusedVariables false
set_option linter.unusedSimpArgs false
namespace Go.Am
open Go.Sort
variable {α : Type} [Inhabited α] {S : SortC R α 2} {m : Mem} {d : Array α}

theorem so_hint2 {h : Hint} : (hintN h == 2) = decide (h = .decreasing) := by cases h <;> rfl
theorem so_hint1 {h : Hint} : (hintN h == 1) = decide (h = .increasing) := by cases h <;> rfl

set_option maxHeartbeats 4000000 in
theorem so_pdq : ∀ (N : Nat) (m : Mem) (d : Array α) (a b limit : Nat), b - a ≤ N → S.Row m d → b ≤ S.n → a ≤ b → limit < 1000000 →
    WC R F.slices_pdqsortCmpFunc_api_Want [S.sv, .int .i64 a, .int .i64 b, .int .i64 limit, S.cv] m fun r m' => S.Row m' (pdq S.lt d a b limit true true) := by
  intro N
  induction N using Nat.strongRecOn with
  | _ N ih =>
  intro m d a b limit hN h hb hab hlim
  refine WC.of R.slices_pdqsortCmpFunc_api_Want rfl ?_
  have hn := S.small
  simp only [RC.slices_pdqsortCmpFunc_api_Want, go_sem]
  generalize hfin : pdq S.lt d a b limit true true = fin
  refine WL.of (fun r e m' => ∃ (a' b' lim : Nat) (wb wp : Bool) (d' : Array α), r = b' - a' ∧ b' - a' ≤ N ∧ b' ≤ S.n ∧ a' ≤ b' ∧ lim < 1000000 ∧ e = [(0, S.sv), (1, .int .i64 a'), (2, .int .i64 b'), (3, .int .i64 lim), (4, S.cv), (10, .bool wb), (11, .bool wp)] ∧ S.Row m' d' ∧ pdq S.lt d' a' b' lim wb wp = fin) (b - a)
    ⟨a, b, limit, true, true, d, rfl, hN, hb, hab, hlim, by simp only [go_sem] <;> rfl, h, hfin⟩ ?_
  clear hfin h hb hab hlim hN
  rintro n0 _ m1 ⟨a', b', lim, wb, wp, d', hr, hN, hb, hab, hlim, rfl, h1, he⟩
  simp only [RB.slices_pdqsortCmpFunc_api_Want_1, go_sem, nsub hab (show b' < 4000000 by omega)]
  refine gT.of (fun g1' => ?_) (fun g1' => ?_) <;> (have g1 := g1'; try simp only [decide_eq_true_eq, decide_eq_false_iff_not, beq_iff_eq, bne_iff_ne, beq_eq_false_iff_ne, ne_eq, Bool.not_eq_true', Bool.not_eq_false', bne_eq_false_iff_eq, Int.not_lt, Int.not_le] at g1)
  · rw [pdq_small (by omega)] at he
    simp only [go_sem, g1']
    refine gC.of (so_ins h1 hb hab) ?_
    rintro _ m2 h2
    rw [he] at h2
    simp only [go_sem]
    exact h2
  · simp only [go_sem, g1']
    refine gT.of (fun g2' => ?_) (fun g2' => ?_) <;> (have g2 := g2'; try simp only [decide_eq_true_eq, decide_eq_false_iff_not, beq_iff_eq, bne_iff_ne, beq_eq_false_iff_ne, ne_eq, Bool.not_eq_true', Bool.not_eq_false', bne_eq_false_iff_eq, Int.not_lt, Int.not_le] at g2)
    · rw [pdq_heap (by omega) (by omega)] at he
      simp only [go_sem, g2']
      refine gC.of (so_heap h1 hb (by omega)) ?_
      rintro _ m2 h2
      rw [he] at h2
      simp only [go_sem]
      exact h2
    · simp only [go_sem, g2']
      have hlim0 : 0 < lim := by omega
      have hab' : a' < b' := by omega
      have h12 : ¬ b' - a' ≤ 12 := by omega
      -- patterns
      refine gT_mid (fun e m' => (∃ rest, e = (0, S.sv) :: (1, .int .i64 a') :: (2, .int .i64 b') :: (3, .int .i64 (rd S.lt d' a' b' lim wb wp).lim) :: (4, S.cv) :: (10, .bool wb) :: (11, .bool wp) :: (12, .int .i64 (b' - a' : Nat)) :: rest) ∧ S.Row m' (rd S.lt d' a' b' lim wb wp).d1) (fun g => ?_) (fun g => ?_) ?_
      · cases wb with
        | true => simp at g
        | false =>
          simp only [go_sem]
          refine gC.of (so_brk h1 hb hab h1.upd.next) ?_
          rintro _ m2 h2
          simp only [go_sem, nsub1 hlim0 (show lim < 4000000 by omega)]
          exact ⟨⟨_, rfl⟩, h2⟩
      · cases wb with
        | false => simp at g
        | true =>
          simp only [go_sem]
          exact ⟨⟨_, rfl⟩, h1⟩
      rintro _ m2 ⟨⟨rest, rfl⟩, h2⟩
      have hlx : (rd S.lt d' a' b' lim wb wp).lim < 1000000 := Nat.lt_of_le_of_lt rd_lim_le hlim
      simp only [go_sem]
      refine gC.of (so_choose h2 hb hab' h2.upd.next) ?_
      rintro _ m3 ⟨rfl, h3⟩
      have hc := choosePivot_holds S.lt (rd S.lt d' a' b' lim wb wp).d1 a' b' hab'
      rw [← rd_c (lt := S.lt) (d := d') (a := a') (b := b') (limit := lim) (wb := wb) (wp := wp)] at hc ⊢
      simp only [go_sem, aExt0, aExt1, so_hint2]
      -- the other way round
      refine gT_mid (fun e m' => (∃ rest, e = (0, S.sv) :: (1, .int .i64 a') :: (2, .int .i64 b') :: (3, .int .i64 (rd S.lt d' a' b' lim wb wp).lim) :: (4, S.cv) :: (10, .bool wb) :: (11, .bool wp) :: (12, .int .i64 (b' - a' : Nat)) :: (13, .int .i64 (rd S.lt d' a' b' lim wb wp).pivot) :: (14, .int .i64 (hintN (rd S.lt d' a' b' lim wb wp).hint)) :: rest) ∧ S.Row m' (rd S.lt d' a' b' lim wb wp).d2) (fun g => ?_) (fun g => ?_) ?_
      · have g : (rd S.lt d' a' b' lim wb wp).c.2 = .decreasing := by simpa using g
        obtain ⟨r1, r2, r3⟩ := rd_dec g
        rw [r1, r2, r3]
        simp only [go_sem]
        refine gC.of (so_rev h3 hb hab') ?_
        rintro _ m4 h4
        simp only [go_sem, nsub1 (show 0 < b' by omega) (show b' < 4000000 by omega), nsub hc.1 (show (rd S.lt d' a' b' lim wb wp).c.1 < 4000000 by omega), nsub (show (rd S.lt d' a' b' lim wb wp).c.1 - a' ≤ b' - 1 by omega) (show b' - 1 < 4000000 by omega)]
        exact ⟨⟨_, rfl⟩, h4⟩
      · have g : (rd S.lt d' a' b' lim wb wp).c.2 ≠ .decreasing := by simpa using g
        obtain ⟨r1, r2, r3⟩ := rd_not g
        rw [r1, r2, r3]
        simp only [go_sem]
        exact ⟨⟨_, rfl⟩, h3⟩
      rintro _ m4 ⟨⟨rest, rfl⟩, h4⟩
      have hpv : a' ≤ (rd S.lt d' a' b' lim wb wp).pivot ∧ (rd S.lt d' a' b' lim wb wp).pivot < b' := pivot_range hc.1 hc.2 ((rd S.lt d' a' b' lim wb wp).c.2 = .decreasing)
      -- a few by insertion
      have hpd : (rd S.lt d' a' b' lim wb wp).pi.2 = true → pdq S.lt d' a' b' lim wb wp = (rd S.lt d' a' b' lim wb wp).pi.1 := pdq_done h12 (by omega)
      have hpiy := rd_pi_yes (lt := S.lt) (d := d') (a := a') (b := b') (limit := lim) (wb := wb) (wp := wp)
      have hpin := rd_pi_no (lt := S.lt) (d := d') (a := a') (b := b') (limit := lim) (wb := wb) (wp := wp)
      have hpe := pdq_eq (lt := S.lt) (d := d') (a := a') (b := b') (limit := lim) (wb := wb) (wp := wp) h12 (by omega)
      have hpl := pdq_left (lt := S.lt) (d := d') (a := a') (b := b') (limit := lim) (wb := wb) (wp := wp) h12 (by omega)
      have hpr := pdq_right (lt := S.lt) (d := d') (a := a') (b := b') (limit := lim) (wb := wb) (wp := wp) h12 (by omega)
      generalize hrd : rd S.lt d' a' b' lim wb wp = D at *
      refine gp_seq_mid (fun e m' => (∃ rest, e = (0, S.sv) :: (1, .int .i64 a') :: (2, .int .i64 b') :: (3, .int .i64 D.lim) :: (4, S.cv) :: (10, .bool wb) :: (11, .bool wp) :: (12, .int .i64 (b' - a' : Nat)) :: (13, .int .i64 D.pivot) :: rest) ∧ S.Row m' D.pi.1 ∧ D.pi.2 = false) ?_ ?_
      · have no : (wb && wp && decide (D.hint = .increasing)) = false → S.Row m4 D.pi.1 ∧ D.pi.2 = false := fun hc => by rw [hpin hc]; exact ⟨h4, rfl⟩
        cases wb with
        | false => simp only [go_sem]; exact ⟨⟨_, rfl⟩, no rfl⟩
        | true =>
          cases wp with
          | false => simp only [go_sem]; exact ⟨⟨_, rfl⟩, no rfl⟩
          | true =>
            simp only [go_sem, so_hint1]
            refine gT.of (fun g => ?_) (fun g => ?_)
            · have hpi := hpiy (by simpa using g)
              simp only [go_sem, g]
              refine gC.of (so_pins h4 hb hab') ?_
              rintro _ m5 ⟨rfl, h5⟩
              rw [← hpi] at h5 ⊢
              simp only [go_sem]
              refine gT.of (fun g3 => ?_) (fun g3 => ?_)
              · simp only [go_sem]
                rw [hpd g3] at he
                rw [he] at h5
                exact h5
              · simp only [go_sem]
                exact ⟨⟨_, rfl⟩, h5, g3⟩
            · simp only [go_sem, g]
              exact ⟨⟨_, rfl⟩, no (by simpa using g)⟩
      rintro _ m5 ⟨⟨rest, rfl⟩, h5, hp2⟩
      have hpe := hpe hp2
      have hpl := hpl hp2
      have hpr := hpr hp2
      clear hpd hpiy hpin h4 h3 h2 h1
      have c0 : a' - 1 < S.n := by omega
      have cp : D.pivot < S.n := by omega
      -- the rest, where what is ahead is less
      have rest2 : ∀ (m6 : Mem) (rest : Env), S.Row m6 D.pi.1 → (decide (a' > 0) && !S.lt D.pi.1[a' - 1]! D.pi.1[D.pivot]!) = false → True := fun _ _ _ _ => trivial
      clear rest2
      refine gp_seq_mid (fun e m' => (∃ rest, e = (0, S.sv) :: (1, .int .i64 a') :: (2, .int .i64 b') :: (3, .int .i64 D.lim) :: (4, S.cv) :: (10, .bool wb) :: (11, .bool wp) :: (12, .int .i64 (b' - a' : Nat)) :: (13, .int .i64 D.pivot) :: rest) ∧ S.Row m' D.pi.1 ∧ (decide (a' > 0) && !S.lt D.pi.1[a' - 1]! D.pi.1[D.pivot]!) = false) ?_ ?_
      · simp only [go_sem]
        refine gT.of (fun g3' => ?_) (fun g3' => ?_) <;> (have g3 := g3'; try simp only [decide_eq_true_eq, decide_eq_false_iff_not, beq_iff_eq, bne_iff_ne, beq_eq_false_iff_ne, ne_eq, Bool.not_eq_true', Bool.not_eq_false', bne_eq_false_iff_eq, Int.not_lt, Int.not_le] at g3)
        · simp only [go_sem, g3', nsub1 (show 0 < a' by omega) (show a' < 4000000 by omega), S.ix c0, S.ix cp, h5.ld c0, h5.ld cp]
          refine gC.of (S.cmp m5 D.pi.1[a' - 1]! D.pi.1[D.pivot]!) ?_
          rintro _ m6 ⟨rfl, hx6⟩
          simp only [go_sem]
          have h6 := h5.keep hx6
          refine gT.of (fun g4' => ?_) (fun g4' => ?_) <;> (have g4 := g4'; try simp only [decide_eq_true_eq, decide_eq_false_iff_not, beq_iff_eq, bne_iff_ne, beq_eq_false_iff_ne, ne_eq, Bool.not_eq_true', Bool.not_eq_false', bne_eq_false_iff_eq, Int.not_lt, Int.not_le] at g4)
          · have hcd : (decide (a' > 0) && !S.lt D.pi.1[a' - 1]! D.pi.1[D.pivot]!) = true := by rw [S.lt_f' (by simpa using g4)]; simp; omega
            have rg := parte_rng (lt := S.lt) (d := D.pi.1) (p := D.pivot) hab'
            have hpe := hpe hcd rg
            rw [he] at hpe
            simp only [go_sem, g4']
            refine gC.of (so_parte h6 hb hpv.1 hpv.2) ?_
            rintro _ m7 ⟨rfl, h7⟩
            simp only [go_sem]
            exact ⟨b' - (partitionEqual S.lt D.pi.1 a' b' D.pivot).1, by omega, _, b', D.lim, wb, wp, _, rfl, by omega, hb, rg.2, hlx, rfl, h7, hpe.symm⟩
          · simp only [go_sem, g4']
            refine ⟨⟨_, rfl⟩, h6, ?_⟩
            rw [S.lt_t (by simpa using g4)]; simp
        · simp only [go_sem, g3']
          refine ⟨⟨_, rfl⟩, h5, ?_⟩
          have : decide (a' > 0) = false := by simp; omega
          rw [this]; rfl
      rintro _ m6 ⟨⟨rest, rfl⟩, h6, hcd⟩
      have rg := part_rng (lt := S.lt) (d := D.pi.1) (p := D.pivot) hab'
      have hpl := hpl hcd rg
      have hpr := hpr hcd rg
      simp only [go_sem]
      refine gC.of (so_part h6 hb hpv.1 hpv.2) ?_
      rintro _ m7 ⟨rfl, h7⟩
      generalize partition S.lt D.pi.1 a' b' D.pivot = pt at *
      obtain ⟨mid, ap, d4⟩ := pt
      simp only at rg hpl hpr h7
      simp only [go_sem, aExt0, aExt1, nsub rg.1 (show mid < 4000000 by omega), nsub (show mid ≤ b' by omega) (show b' < 4000000 by omega), nq8 (show b' - a' < 4000000 by omega)]
      refine ⟨by omega, ?_⟩
      refine gT.of (fun g5' => ?_) (fun g5' => ?_) <;> (have g5 := g5'; try simp only [decide_eq_true_eq, decide_eq_false_iff_not, beq_iff_eq, bne_iff_ne, beq_eq_false_iff_ne, ne_eq, Bool.not_eq_true', Bool.not_eq_false', bne_eq_false_iff_eq, Int.not_lt, Int.not_le] at g5)
      · have hpl := hpl (by omega)
        rw [he] at hpl
        simp only [go_sem, g5']
        refine gC.of (ih (mid - a') (by omega) m7 d4 a' mid D.lim (Nat.le_refl _) h7 (by omega) (by omega) hlx) ?_
        rintro _ m8 h8
        simp only [go_sem, nadd1 (show mid < 4000000 by omega)]
        refine ⟨b' - (mid + 1), by omega, mid + 1, b', D.lim, _, _, _, rfl, by omega, hb, by omega, hlx, rfl, h8, ?_⟩
        rw [hpl]
        congr 1
        rw [decide_eq_decide]; omega
      · have hpr := hpr (by omega)
        rw [he] at hpr
        simp only [go_sem, g5', nadd1 (show mid < 4000000 by omega)]
        refine gC.of (ih (b' - (mid + 1)) (by omega) m7 d4 (mid + 1) b' D.lim (Nat.le_refl _) h7 hb (by omega) hlx) ?_
        rintro _ m8 h8
        simp only [go_sem]
        refine ⟨mid - a', by omega, a', mid, D.lim, _, _, _, rfl, by omega, by omega, by omega, hlx, rfl, h8, ?_⟩
        rw [hpr]
        congr 1
        rw [decide_eq_decide]; omega

theorem so_sort (h : S.Row m d) (hO : SWO S.lt) : WC R F.slices_SortFunc_api_Want_api_Want [S.sv, S.cv] m fun r m' => ∃ d', S.Row m' d' ∧ PermIn 0 d.size d d' ∧ SortedIn S.lt 0 d.size d' := by
  refine WC.of R.slices_SortFunc_api_Want_api_Want rfl ?_
  have hn := S.small
  have hlen : aLen S.sv = some (.int .i64 S.n) := rfl
  have e : (BitVec.ofInt 64 ((S.n : Nat) : Int)).toNat = S.n := by rw [BitVec.ofInt_natCast, BitVec.toNat_ofNat, Nat.mod_eq_of_lt (by omega)]
  simp only [RC.slices_SortFunc_api_Want_api_Want, go_sem, hlen]
  refine gC.of (so_len (x := BitVec.ofInt 64 ((S.n : Nat) : Int)) (by omega)) ?_
  rintro _ _ ⟨rfl, hm⟩
  subst hm
  rw [e]
  have hbl : bitsLen S.n ≤ 20 := (bitsLen_le_iff _ _).2 (by omega)
  simp only [go_sem]
  refine gC.of (so_pdq S.n _ d 0 S.n (bitsLen S.n) (by omega) h (Nat.le_refl _) (Nat.zero_le _) (by omega)) ?_
  rintro _ m2 h2
  simp only [go_sem]
  have := pdq_sorts S.lt hO d 0 S.n (bitsLen S.n) true true (Nat.zero_le _) (by rw [h.size]; exact Nat.le_refl _) (.inl rfl)
  rw [h.size]
  exact ⟨_, h2, this⟩
end Go.Am


/- The sort of a slice of one's own, of api_Want (Shed). Printed out of SortT7.tmpl by sortgen.py. -/
set_option linter.unusedVariables false
set_option linter.unusedSimpArgs false
namespace Go.Am
open Go.Sort
variable {α : Type} [Inhabited α]

theorem so_insNil {m : Mem} {v fv : Value} : WC R F.slices_insertionSortCmpFunc_api_Want [v, .int .i64 0, .int .i64 0, fv] m fun r m' => m' = m := by
  refine WC.of R.slices_insertionSortCmpFunc_api_Want rfl ?_
  have w : IntKind.wrap .i64 (0 + 1) = 1 := rfl
  simp only [RC.slices_insertionSortCmpFunc_api_Want, go_sem, w]
  refine WL.of (fun r e m' => m' = m ∧ e = [(0, v), (1, .int .i64 0), (2, .int .i64 0), (3, fv), (8, .int .i64 1)]) 0 ⟨rfl, by simp only [go_sem] <;> rfl⟩ ?_
  rintro _ _ _ ⟨rfl, rfl⟩
  have e0 : decide ((1 : Int) < 0) = false := rfl
  simp only [RB.slices_insertionSortCmpFunc_api_Want_2, go_sem, e0]

theorem so_pdqNil {m : Mem} {v fv : Value} {lim : Nat} : WC R F.slices_pdqsortCmpFunc_api_Want [v, .int .i64 0, .int .i64 0, .int .i64 lim, fv] m fun r m' => m' = m := by
  refine WC.of R.slices_pdqsortCmpFunc_api_Want rfl ?_
  simp only [RC.slices_pdqsortCmpFunc_api_Want, go_sem]
  refine WL.of (fun r e m' => m' = m ∧ e = [(0, v), (1, .int .i64 0), (2, .int .i64 0), (3, .int .i64 lim), (4, fv), (10, .bool true), (11, .bool true)]) 0 ⟨rfl, by simp only [go_sem] <;> rfl⟩ ?_
  rintro _ _ _ ⟨rfl, rfl⟩
  have w : IntKind.wrap .i64 (0 - 0) = 0 := rfl
  have e0 : decide ((0 : Int) ≤ 12) = true := rfl
  simp only [RB.slices_pdqsortCmpFunc_api_Want_1, go_sem, w, e0]
  refine gC.of so_insNil ?_
  rintro _ m1 rfl
  simp only [go_sem]

theorem so_sortNil {m : Mem} {fv : Value} : WC R F.slices_SortFunc_api_Want_api_Want [.slice none 0 0, fv] m fun r m' => m' = m := by
  refine WC.of R.slices_SortFunc_api_Want_api_Want rfl ?_
  have hlen : aLen (.slice none 0 0) = some (.int .i64 0) := rfl
  simp only [RC.slices_SortFunc_api_Want_api_Want, go_sem, hlen]
  refine gC.of (so_len (x := BitVec.ofInt 64 0) (by decide)) ?_
  rintro _ _ ⟨rfl, hm⟩
  subst hm
  simp only [go_sem]
  refine gC.of so_pdqNil ?_
  rintro _ m1 rfl
  simp only [go_sem]

/-- One's own row, sorted. -/
theorem so_own {m0 m : Mem} {l : List α} {f : α → List Value} {v : Value} {cf : α → α → Int} {g : Nat} (hf : ∀ a, (f a).length = 2) (h1 : ∀ a, oneCells (f a) = true)
    (hcmp : ∀ (m : Mem) (x y : α), WC R g [.agg (f x).toArray, .agg (f y).toArray] m fun r m' => r = .int .i64 (cf x y) ∧ Ext m m')
    (hO : SWO fun x y => decide (cf x y < 0)) (ho : Own m0 m 2 l.length (l.flatMap f) v) (hx0 : Ext m0 m) (hl : l.length < 1000000) :
    WC R F.slices_SortFunc_api_Want_api_Want [v, .func (.func g) #[] #[]] m fun r m' => ∃ l' : List α, l'.Perm l ∧ l'.Pairwise (fun x y => ¬ cf y x < 0) ∧ Own m0 m' 2 l'.length (l'.flatMap f) v ∧ Ext m0 m' ∧ Upd m m' (vb v) := by
  cases ho with
  | nil h hc =>
    have e := List.eq_nil_of_length_eq_zero h
    subst e
    refine WC.mono so_sortNil ?_
    rintro _ m1 rfl
    exact ⟨[], .nil, .nil, .nil rfl rfl, hx0, Upd.refl _ _⟩
  | @«at» b c all hb hb2 hnc hm hal hcs hone =>
    let S : SortC R α 2 := ⟨f, hf, h1, cf, g, hcmp, b, 0, l.length, c, [], all.drop (l.length * 2), rfl, m, hl⟩
    have hrow : S.Row m l.toArray := ⟨by show m.blk b = _; rw [hm, ← hcs]; show _ = some (AObj.cells ([] ++ all.take (l.length * 2) ++ all.drop (l.length * 2)) _); rw [List.nil_append, List.take_append_drop], hb2, by simp [S], Upd.refl _ _⟩
    refine WC.mono (so_sort (S := S) hrow hO) ?_
    rintro _ m1 ⟨d', hr, ⟨hsz, -, hp⟩, hs⟩
    have hp : d'.toList.Perm l := by
      have e : d'.extract 0 l.toArray.size = d' := by rw [← hsz]; exact Array.extract_size
      rw [e, Array.extract_size] at hp
      exact hp
    have hlen : d'.toList.length = l.length := hp.length_eq
    have hu : Upd m m1 [b] := hr.upd
    refine ⟨d'.toList, hp, ?_, ?_, hu.ext_of hx0 (by simpa using hb), hu⟩
    · rw [List.pairwise_iff_getElem]
      intro i j hi hj hij
      have := hs i j (Nat.zero_le _) hij (by simpa [← hlen] using hj)
      rw [getElem!_pos d' j (by simpa using hj), getElem!_pos d' i (by simpa using hi)] at this
      have := of_decide_eq_false this
      simpa using this
    · rw [hlen]
      have hfl : (d'.toList.flatMap f).length = l.length * 2 := by rw [flat_len hf, hlen]
      refine .at (all := d'.toList.flatMap f ++ all.drop (l.length * 2)) hb hr.lt hnc hr.at_ ?_ ?_ ?_
      · have e1 : l.length * 2 ≤ c * 2 := Nat.mul_le_mul_right _ hnc
        rw [List.length_append, hfl, List.length_drop, hal]; omega
      · rw [List.take_left' hfl]
      · unfold oneCells
        rw [List.all_eq_true]
        intro x hx
        obtain ⟨y, _, hy⟩ := List.mem_flatMap.1 hx
        have := h1 y
        unfold oneCells at this
        exact List.all_eq_true.1 this x hy
end Go.Am


/- Slices at api_Want (Shed): copies, what is found, what is left out. Printed out of SlcT.tmpl by slcgen.py. -/
set_option linter.unusedVariables false
set_option linter.unusedSimpArgs false
namespace Go.Am
variable {α : Type} {f : α → List Value} {m : Mem}

theorem wt_Clone {l : List α} {v : Value} (hf : ∀ a, (f a).length = 2) (h1 : oneCells (l.flatMap f) = true) (hs : Sl m 2 l.length (l.flatMap f) v) (hb : SlLt m v) (hl : l.length < 1000000) :
    WC R F.slices_Clone_api_Want_api_Want [v] m fun r m' => Own m m' 2 l.length (l.flatMap f) r ∧ Ext m m' ∧ (l ≠ [] → ∃ b, r = .slice (some ⟨b, 0, none⟩) l.length l.length ∧ Bk m' b (l.flatMap f) 2 ∧ m.next ≤ b) := by
  refine WC.of R.slices_Clone_api_Want_api_Want rfl ?_
  have hs0 := hs
  cases hs with
  | nil h hc =>
    simp only [RC.slices_Clone_api_Want_api_Want, go_sem, Option.isNone_none]
    exact ⟨.nil h hc, Ext.refl _, fun hne => absurd (List.eq_nil_of_length_eq_zero h) hne⟩
  | @«at» b o c hc h =>
    simp only [RC.slices_Clone_api_Want_api_Want, go_sem]
    have hx : Sl (m.new (.cells [] (some 2))) 2 l.length (l.flatMap f) (.slice (some ⟨b, o, none⟩) l.length c) := hs0.keep hb Ext.new
    by_cases hz : l.length = 0
    · obtain ⟨v', m', e1, e2, e3⟩ := app_copy (by_ := 16) hx h1 (by omega) (by omega)
      rw [e1, Got.some]
      try simp only [go_sem, ruB]
      exact ⟨e2, e3, fun hne => absurd (List.eq_nil_of_length_eq_zero hz) hne⟩
    · obtain ⟨m', e1, e2, e3, e4⟩ := app_copy_at (by_ := 16) hx h1 (by omega) (by omega) hz
      rw [e1, Got.some]
      try simp only [go_sem, ruB]
      have hl2 : (l.flatMap f).length = l.length * 2 := flat_len hf
      exact ⟨.at (all := l.flatMap f) (by omega) (by omega) (Nat.le_refl _) e2 hl2 (by rw [← hl2, List.take_length]) h1, e4, fun _ => ⟨_, rfl, ⟨e2, by omega⟩, by omega⟩⟩
end Go.Am


/- Shed: choose. -/
set_option linter.unusedVariables false
set_option linter.unusedSimpArgs false
namespace Go.Am
open Classical
variable {m : Mem}

noncomputable def chkS (f : Int) (l : List Sp) : Int := if chkA f l ≠ 0 then chkA f l else if 64 < l.length then 4 else 0
theorem Check_spec {l : List Sp} {v : Value} {f : Int} (hs : Sl m 2 l.length (l.flatMap spV) v) (hb : SlLt m v) (hl : l.length < 100000) :
    WC R F.shed_Check [.int .i64 f, v] m fun r m' => r = .int .i64 (chkS f l) ∧ Ext m m' := by
  refine WC.of R.shed_Check rfl ?_
  simp only [RC.shed_Check, go_sem]
  refine gC.of (orCheck hs hb hl) ?_
  rintro _ m1 ⟨rfl, hx⟩
  unfold chkS
  by_cases g : chkA f l = 0
  · have e : (chkA f l != 0) = false := by rw [bne_eq_false_iff_eq]; exact g
    have hs1 := hs.keep hb hx
    rw [if_neg (by simpa using g)]
    by_cases g2 : 64 < l.length
    · have e2 : decide ((64 : Int) < ((l.length : Nat) : Int)) = true := decide_eq_true (by omega)
      rw [if_pos g2]
      try simp only [go_sem, ruB, e, hs1.len, e2]
      exact hx
    · have e2 : decide ((64 : Int) < ((l.length : Nat) : Int)) = false := decide_eq_false (by omega)
      rw [if_neg g2]
      try simp only [go_sem, ruB, e, hs1.len, e2]
      exact hx
  · have e : (chkA f l != 0) = true := by rw [bne_iff_ne]; exact g
    rw [if_pos g]
    try simp only [go_sem, ruB, e]
    exact hx
theorem chkF_ok {f : Int} : ∀ {l pre : List Sp}, chkF f pre l = 0 → (∀ w ∈ l, isU w.1 ∧ 1 ≤ w.2 ∧ w.2 ≤ f ∧ ∀ p ∈ pre, p.1 ≠ w.1) ∧ unqU l
  | [], pre, _ => ⟨fun w hw => by simp at hw, List.Pairwise.nil⟩
  | w :: r, pre, h => by
    unfold chkF at h
    by_cases g1 : isU w.1
    · rw [if_neg (by simpa using g1)] at h
      by_cases g2 : w.2 < 1 ∨ f < w.2
      · rw [if_pos g2] at h; omega
      · rw [if_neg g2] at h
        by_cases g3 : ∃ p ∈ pre, p.1 = w.1
        · rw [if_pos g3] at h; omega
        · rw [if_neg g3] at h
          obtain ⟨h1, h2⟩ := chkF_ok h
          refine ⟨fun x hx => ?_, List.pairwise_cons.2 ⟨fun x hx e => ?_, h2⟩⟩
          · rcases List.mem_cons.1 hx with rfl | hx
            · exact ⟨g1, by omega, by omega, fun p hp e => g3 ⟨p, hp, e⟩⟩
            · obtain ⟨a, b, c, d⟩ := h1 x hx
              exact ⟨a, b, c, fun p hp => d p (List.mem_append_left _ hp)⟩
          · exact (h1 x hx).2.2.2 w (by simp) e
    · rw [if_pos (by simpa using g1)] at h; omega
structure LOk (f : Int) (l : List Sp) : Prop where
  fr : 2 ≤ f ∧ f ≤ 64
  w : ∀ w ∈ l, isU w.1 ∧ 1 ≤ w.2 ∧ w.2 ≤ f
  u : unqU l
  n : l.length ≤ 64
theorem chkS_ok {f : Int} {l : List Sp} (h : chkS f l = 0) : LOk f l := by
  unfold chkS at h
  by_cases g : chkA f l = 0
  · rw [if_neg (by simpa using g)] at h
    by_cases g2 : 64 < l.length
    · rw [if_pos g2] at h; omega
    · unfold chkA at g
      by_cases g3 : f < 2 ∨ 64 < f
      · rw [if_pos g3] at g; omega
      · rw [if_neg g3] at g
        obtain ⟨h1, h2⟩ := chkF_ok g
        exact ⟨by omega, fun w hw => ⟨(h1 w hw).1, (h1 w hw).2.1, (h1 w hw).2.2.1⟩, h2, by omega⟩
  · rw [if_pos g] at h; exact absurd h g
theorem sumC_cons {w : Sp} {l : List Sp} : sumC (w :: l) = w.2 + sumC l := by simp [sumC]
theorem totO_eq : ∀ {l : List Sp} {n : Int}, (∀ w ∈ l, 1 ≤ w.2 ∧ w.2 ≤ 64) → 0 ≤ n → n + 64 * l.length ≤ 100000000 → totO n l = some (n + sumC l) ∧ l.length ≤ sumC l ∧ sumC l ≤ 64 * l.length
  | [], n, _, h0, _ => by simp [totO, sumC]
  | w :: r, n, h, h0, hn => by
    have hw := h w (by simp)
    simp only [List.length_cons] at hn
    have ih := @totO_eq r (n + w.2) (fun x hx => h x (by simp [hx])) (by omega) (by omega)
    rw [sumC_cons, List.length_cons]
    unfold totO
    rw [if_pos (by unfold inR; omega), ih.1]
    refine ⟨by congr 1; omega, by omega, by omega⟩
theorem LOk.b {f : Int} {l : List Sp} (h : LOk f l) : ∀ w ∈ l, 1 ≤ w.2 ∧ w.2 ≤ 64 := fun w hw => by have := h.w w hw; have := h.fr; omega
theorem LOk.tot {f : Int} {l : List Sp} (h : LOk f l) : totO 0 l = some (sumC l) ∧ 0 ≤ sumC l ∧ sumC l ≤ 4096 := by
  have hn := h.n
  have := totO_eq (n := 0) h.b (by omega) (by omega)
  refine ⟨by rw [this.1]; simp, by omega, by omega⟩
/-- What choose tells. -/
def ChP (m : Mem) (f need : Int) (l : List Sp) (r : Value) (m' : Mem) : Prop :=
  Ext m m' ∧ ((chkS f l ≠ 0 ∧ r = .tuple #[.slice none 0 0, .int .i64 0, .int .i64 (chkS f l)]) ∨ (chkS f l = 0 ∧ need < 0 ∧ r = .tuple #[.slice none 0 0, .int .i64 0, .int .i64 1]) ∨
    (chkS f l = 0 ∧ 0 ≤ need ∧ sumC l < need ∧ r = .tuple #[.slice none 0 0, .int .i64 0, .int .i64 12]) ∨
    (chkS f l = 0 ∧ 0 ≤ need ∧ need ≤ sumC l ∧ ∃ (L : List Sp) (p : Nat → Bool) (s : Nat) (ov : Value), ShOk L l ∧ PChoice L need p s ∧ Own m m' 1 (outU L p).length (intsZ (outU L p)) ov ∧ r = .tuple #[ov, .int .i64 (s : Nat), .int .i64 0]))

theorem cmpU1 {m : Mem} {x y : Sp} : WC R F.shed_choose_1 [.agg (spV x).toArray, .agg (spV y).toArray] m fun r m' => r = .int .i64 (cmpI x.1 y.1) ∧ Ext m m' := by
  refine WC.of R.shed_choose_1 rfl ?_
  simp only [RC.shed_choose_1, spV, go_sem]
  have hx1 : Ext m (m.new (.cells [.int .i64 x.1, .int .i64 x.2] (some 2))) := Ext.new
  have hb1 : Bk (m.new (.cells [.int .i64 x.1, .int .i64 x.2] (some 2))) m.next [.int .i64 x.1, .int .i64 x.2] 2 := Bk.new
  generalize m.new (.cells [.int .i64 x.1, .int .i64 x.2] (some 2)) = m1 at hx1 hb1 ⊢
  have n1 := hb1.ne
  have hx2 : Ext m1 (m1.new (.cells [.int .i64 y.1, .int .i64 y.2] (some 2))) := Ext.new
  have hb2 : Bk (m1.new (.cells [.int .i64 y.1, .int .i64 y.2] (some 2))) m1.next [.int .i64 y.1, .int .i64 y.2] 2 := Bk.new
  generalize m1.new (.cells [.int .i64 y.1, .int .i64 y.2] (some 2)) = m2 at hx2 hb2 ⊢
  have hb12 := hb1.keep hx2
  try simp only [go_sem, ruB, hb12.at_, hb2.at_]
  refine gC.of cmpInt ?_
  rintro _ _ ⟨rfl, hm⟩
  replace hm := hm.symm
  subst hm
  try simp only [go_sem, ruB]
  exact hx1.trans hx2
theorem cmpI_neg {a b : Int} : cmpI a b < 0 ↔ a < b := by
  unfold cmpI
  split
  · omega
  · split <;> omega
theorem swoU : Go.Sort.SWO fun x y : Sp => decide (cmpI x.1 y.1 < 0) := by
  have e : (fun x y : Sp => decide (cmpI x.1 y.1 < 0)) = fun x y : Sp => decide (x.1 < y.1) := by funext x y; rw [decide_eq_decide]; exact cmpI_neg
  rw [e]
  exact ⟨fun x => by simp, fun x y z h1 h2 => by simp only [decide_eq_true_eq] at *; omega, fun x y z h1 h2 => by simp only [decide_eq_false_iff_not] at *; omega⟩
theorem srt_of {L l : List Sp} (hp : L.Perm l) (hs : L.Pairwise fun x y => ¬ cmpI y.1 x.1 < 0) (hu : unqU l) : srtU L := by
  have hn : unqU L := (hp.pairwise_iff (R := fun a b : Sp => a.1 ≠ b.1) (fun h => h.symm)).2 hu
  unfold srtU unqU at *
  exact (hs.and hn).imp fun {a b} h => by have h1 := h.1; rw [cmpI_neg] at h1; have := h.2; omega

theorem full_sum {L : List Sp} (hp : ∀ w ∈ L, 0 ≤ w.2) : ∀ {i : Nat}, i ≤ L.length → ((smM (shA L) (fun j => decide (j < L.length)) i : Nat) : Int) = sumC (L.take i)
  | 0, _ => by simp [smM, sumC]
  | i + 1, h => by
    have ih := @full_sum L hp i (by omega)
    have h0 := hp _ (List.getElem_mem (show i < L.length by omega))
    rw [smM_succ, List.take_succ_eq_append_getElem (by omega), if_pos (by simp; omega), sh_at (by omega)]
    unfold sumC at *
    rw [List.map_append, List.sum_append, ← ih]
    simp; omega
theorem full_all {L : List Sp} (hp : ∀ w ∈ L, 0 ≤ w.2) : ((smM (shA L) (fun j => decide (j < L.length)) L.length : Nat) : Int) = sumC L := by
  rw [full_sum hp (Nat.le_refl _), List.take_length]
set_option maxHeartbeats 2000000 in
theorem choose2_loop {m0 : Mem} {L : List Sp} {bv lv : Value} {all need : Nat} {B : Nat → Option (Nat → Bool)} (hO : Own m0 m 3 (all + 1) ((rowB (all + 1) B).flatMap cV) bv) (hB : ∀ s, BstM (shA L) L.length s (B s)) (hn : need ≤ all) (hall : all ≤ 100000) (hful : smM (shA L) (fun j => decide (j < L.length)) L.length = all) :
    WL R [2, 12, 13] RB.shed_choose_2 [(2, lv), (12, bv), (13, .int .i64 (need : Nat))] m fun y e m' => y = .exit 1 ∧ m' = m ∧ ∃ (s : Nat) (p : Nat → Bool) (rs : Env), e = (2, lv) :: (12, bv) :: (13, .int .i64 (s : Nat)) :: rs ∧ s ≤ all ∧ B s = some p ∧ PChoice L need p s := by
  refine WL.of (fun z e m' => ∃ c : Nat, need ≤ c ∧ c ≤ all ∧ z = all - c ∧ e = [(2, lv), (12, bv), (13, .int .i64 (c : Nat))] ∧ m' = m ∧ ∀ q, Sup q L.length → (need : Int) ≤ ((smM (shA L) q L.length : Nat) : Int) → c ≤ smM (shA L) q L.length) (all - need)
    ⟨need, by omega, hn, rfl, by simp only [go_sem] <;> rfl, rfl, fun q _ h => by omega⟩ ?_
  rintro _ _ m1 ⟨c, hc, hc2, rfl, rfl, hm, hq⟩
  replace hm := hm.symm
  subst hm
  have hO' : Own m0 m 3 (rowB (all + 1) B).length ((rowB (all + 1) B).flatMap cV) bv := by rw [rowB_len]; exact hO
  obtain ⟨pb, po, a1, -, a3, -⟩ := hO'.sl.elem cV_len (k := .i64) (i := c) (by rw [rowB_len]; omega)
  have a30 := a3 0 (by omega)
  rw [rowB_get] at a30
  have w1 : IntKind.wrap .i64 (((c : Nat) : Int) + 1) = ((c + 1 : Nat) : Int) := by rw [wrap_i64 (by omega) (by omega)]; rfl
  simp only [RB.shed_choose_2, go_sem]
  cases hf : B c with
  | none =>
    rw [hf] at a30
    simp only [cV, List.getElem?_cons_zero, Nat.add_zero] at a30
    have hnn := hB c
    rw [hf] at hnn
    have hca : c ≠ all := fun e => hnn (fun j => decide (j < L.length)) (fun j hj => by simp; omega) (by rw [hful, e])
    try simp only [go_sem, ruB, a1, a30, w1]
    refine ⟨all - (c + 1), by omega, c + 1, by omega, by omega, rfl, rfl, fun q h1 h2 => ?_⟩
    have := hq q h1 h2
    have := hnn q h1
    omega
  | some p =>
    rw [hf] at a30
    simp only [cV, List.getElem?_cons_zero, Nat.add_zero] at a30
    have hb := hB c
    rw [hf] at hb
    try simp only [go_sem, ruB, a1, a30]
    exact ⟨c, p, _, rfl, hc2, hf, hb, by omega, hq⟩

theorem outU_take {L : List Sp} {p : Nat → Bool} {i : Nat} (h : i < L.length) : (((List.range (i + 1)).filter p).map fun j => ((L[j]?).map Prod.fst).getD 0) = (((List.range i).filter p).map fun j => ((L[j]?).map Prod.fst).getD 0) ++ (if p i then [L[i].1] else []) := by
  rw [List.range_succ, List.filter_append, List.map_append]
  cases e : p i <;> simp [e, h]
def outT (L : List Sp) (p : Nat → Bool) (i : Nat) : List Int := ((List.range i).filter p).map fun j => ((L[j]?).map Prod.fst).getD 0
theorem outT_len {L : List Sp} {p : Nat → Bool} {i : Nat} : (outT L p i).length ≤ i := by
  unfold outT; rw [List.length_map]; exact Nat.le_trans (List.length_filter_le ..) (by simp)
theorem kfill_1u {a : Int} : fillL [.int .i64 0] [(0, 1, .int .i64 a)] = some [.int .i64 a] := rfl
theorem bit1 {x : BitVec 64} {n : Nat} : decide (x >>> n &&& 1#64 = 1#64) = x.getLsbD n := by
  rw [shr_bit]
  cases x.getLsbD n <;> decide

set_option maxHeartbeats 4000000 in
theorem choose1_loop {m0 : Mem} {L : List Sp} {bv lv : Value} {all s : Nat} {B : Nat → Option (Nat → Bool)} {p : Nat → Bool} (hO : Own m0 m 3 (all + 1) ((rowB (all + 1) B).flatMap cV) bv) (hl : L.length ≤ 64) (hs : Sl m 2 L.length (L.flatMap spV) lv) (hb : SlLt m lv) (hsa : s ≤ all) (hp : B s = some p) (hx : Ext m0 m) :
    WL R [12, 13, 14, 51, 52, 53] RB.shed_choose_1 [(12, bv), (13, .int .i64 (s : Nat)), (14, .slice none 0 0), (51, lv), (52, .int .i64 (L.length : Nat)), (53, .int .i64 0)] m fun y e m' => y = .exit 3 ∧ ∃ ov rs, e = (12, bv) :: (13, .int .i64 (s : Nat)) :: (14, ov) :: rs ∧ Own m m' 1 (outU L p).length (intsZ (outU L p)) ov ∧ Ext m m' := by
  refine WL.of (fun z e m' => ∃ (i : Nat) (ov : Value), i ≤ L.length ∧ z = L.length - i ∧ e = [(12, bv), (13, .int .i64 (s : Nat)), (14, ov), (51, lv), (52, .int .i64 (L.length : Nat)), (53, .int .i64 (i : Nat))] ∧ Own m m' 1 (outT L p i).length (intsZ (outT L p i)) ov ∧ Ext m m') L.length
    ⟨0, _, by omega, by omega, by simp only [go_sem] <;> rfl, .nil rfl rfl, Ext.refl _⟩ ?_
  rintro _ _ m1 ⟨i, ov, hi, rfl, rfl, ho, hx1⟩
  have hs1 := hs.keep hb hx1
  have hO1 := hO.keep hx1
  simp only [RB.shed_choose_1, go_sem]
  have s1 := step1 (show i < 1000000 by omega)
  by_cases g : i < L.length
  rotate_left
  · have e1 : decide (((i : Nat) : Int) < ((L.length : Nat) : Int)) = false := decide_eq_false (by omega)
    have hil : i = L.length := by omega
    subst hil
    try simp only [go_sem, ruB, e1]
    exact ⟨ov, _, rfl, ho, hx1⟩
  have e1 : decide (((i : Nat) : Int) < ((L.length : Nat) : Int)) = true := decide_eq_true (by omega)
  obtain ⟨pb, po, c1, c2, -, -⟩ := hs1.elem spV_len (k := .i64) g
  simp only [spV] at c2
  have hO' : Own m0 m1 3 (rowB (all + 1) B).length ((rowB (all + 1) B).flatMap cV) bv := by rw [rowB_len]; exact hO1
  try simp only [go_sem, ruB, e1, c1, c2]
  have hx2 : Ext m1 (m1.new (.cells [.int .i64 L[i].1, .int .i64 L[i].2] (some 2))) := Ext.new
  have hb2 : Bk (m1.new (.cells [.int .i64 L[i].1, .int .i64 L[i].2] (some 2))) m1.next [.int .i64 L[i].1, .int .i64 L[i].2] 2 := Bk.new
  generalize m1.new (.cells [.int .i64 L[i].1, .int .i64 L[i].2] (some 2)) = m2 at hx2 hb2 ⊢
  have hO2 := hO'.keep hx2
  have ho2 := ho.keep hx2
  obtain ⟨qb, qo, a1, -, a3, -⟩ := hO2.sl.elem cV_len (k := .i64) (i := s) (by rw [rowB_len]; omega)
  have a32 := a3 2 (by omega)
  rw [rowB_get, hp] at a32
  simp only [cV, List.getElem?_cons_zero, List.getElem?_cons_succ] at a32
  have wi : IntKind.wrap .i64 (63 - ((i : Nat) : Int)) = ((63 - i : Nat) : Int) := by rw [wrap_i64 (by omega) (by omega)]; omega
  have wi0 : (0 : Int) ≤ ((63 - i : Nat) : Int) := by omega
  have hbit : (BitVec.ofNat 64 (cdM p)).getLsbD (63 - i) = p i := by
    rw [BitVec.getLsbD_ofNat]
    unfold cdM
    rw [Zb_bit]
    have : 0 + (64 - 1 - (63 - i)) = i := by omega
    rw [this]; simp; omega
  have ht := outU_take (p := p) g
  try simp only [go_sem, ruB, a1, a32, wi, wi0, Int.toNat_natCast, hb2.at_, bit1, hbit]
  cases hpi : p i with
  | false =>
    rw [hpi] at ht
    try simp only [go_sem, ruB, s1]
    refine ⟨L.length - (i + 1), by omega, i + 1, ov, by omega, rfl, rfl, ?_, hx1.trans hx2⟩
    have e : outT L p (i + 1) = outT L p i := by unfold outT; rw [ht]; simp
    rw [e]; exact ho2
  | true =>
    rw [hpi] at ht
    have e : outT L p (i + 1) = outT L p i ++ [L[i].1] := by unfold outT; rw [ht]; simp
    have hol := outT_len (L := L) (p := p) (i := i)
    obtain ⟨v', m3, p1, p2, p3⟩ := ho2.app (es := [.int .i64 L[i].1]) (by_ := 8) (hx1.trans hx2) (by omega) rfl rfl (by omega) (by omega)
    try simp only [go_sem, ruB, hb2.at_, p1, s1, ↓kfill_1u]
    refine ⟨L.length - (i + 1), by omega, i + 1, v', by omega, rfl, rfl, ?_, p3⟩
    rw [e, List.length_append]
    unfold intsZ at p2 ⊢
    rw [List.map_append]; exact p2

set_option maxHeartbeats 4000000 in
theorem choose_spec {l : List Sp} {v : Value} {f need : Int} (hs : Sl m 2 l.length (l.flatMap spV) v) (hb : SlLt m v) (hl : l.length < 100000) :
    WC R F.shed_choose [.int .i64 f, .int .i64 need, v] m (ChP m f need l) := by
  refine WC.of R.shed_choose rfl ?_
  simp only [RC.shed_choose, go_sem]
  refine gC.of (Check_spec hs hb hl) ?_
  rintro _ m1 ⟨rfl, hx1⟩
  by_cases g0 : chkS f l = 0
  rotate_left
  · have e : (chkS f l != 0) = true := by rw [bne_iff_ne]; exact g0
    try simp only [go_sem, ruB, e]
    exact ⟨hx1, .inl ⟨g0, rfl⟩⟩
  have e : (chkS f l != 0) = false := by rw [bne_eq_false_iff_eq]; exact g0
  have hk := chkS_ok g0
  have hs1 := hs.keep hb hx1
  have hb1 := hb.keep hx1
  obtain ⟨t1, t2, t3⟩ := hk.tot
  try simp only [go_sem, ruB, e]
  refine gC.of (orTotal hs1 hb1 hl (fun w hw => by have := hk.b w hw; unfold inR; omega)) ?_
  rintro _ m2 ⟨⟨n, hn, rfl⟩ | ⟨hn, rfl⟩, hx2⟩
  rotate_left
  · rw [t1] at hn; cases hn
  rw [t1] at hn
  cases hn
  have hx12 := hx1.trans hx2
  have hs2 := hs1.keep hb1 hx2
  have hb2 := hb1.keep hx2
  by_cases g1 : need < 0
  · try simp only [go_sem, ruB, aExt0, aExt1, decide_eq_true g1]
    exact ⟨hx12, .inr (.inl ⟨g0, g1, rfl⟩)⟩
  by_cases g2 : sumC l < need
  · try simp only [go_sem, ruB, aExt0, aExt1, decide_eq_false g1, decide_eq_true g2]
    exact ⟨hx12, .inr (.inr (.inl ⟨g0, by omega, g2, rfl⟩))⟩
  try simp only [go_sem, ruB, aExt0, aExt1, decide_eq_false g1, decide_eq_false g2]
  refine gC.of (wt_Clone spV_len (spV_flat l) hs2 hb2 (by omega)) ?_
  rintro cv m3 ⟨hO, hx3, -⟩
  try simp only [go_sem, ruB]
  refine gC.of (so_own spV_len spV_one (fun m x y => cmpU1) swoU hO hx3 (by omega)) ?_
  rintro _ m4 ⟨L, hp, hso, hO4, hx4, -⟩
  have hsrt := srt_of hp hso hk.u
  have hSh : ShOk L l := ⟨hsrt, hp, by rw [hp.length_eq]; exact hk.n, fun w hw => by have := (hk.w w (hp.mem_iff.1 hw)).1; unfold isU at this; omega, fun w hw => by have := hk.b w (hp.mem_iff.1 hw); omega⟩
  have hLb : ∀ w ∈ L, 1 ≤ w.2 ∧ w.2 ≤ 64 := fun w hw => hk.b w (hp.mem_iff.1 hw)
  have hLs : sumC L = sumC l := sumC_perm hp
  obtain ⟨A, hA⟩ : ∃ A : Nat, sumC l = (A : Int) := ⟨(sumC l).toNat, by omega⟩
  have hful : smM (shA L) (fun j => decide (j < L.length)) L.length = A := by
    have := full_all (L := L) (fun w hw => by have := hLb w hw; omega)
    omega
  have hle : ∀ w ∈ L, w.2.toNat ≤ A := fun w hw => by
    obtain ⟨j, hj, ej⟩ := List.getElem_of_mem hw
    have := sm_max (a := shA L) (p := fun j => decide (j < L.length)) hj (by simpa using hj)
    rw [hful, sh_at hj, ej] at this
    exact this
  rw [hA]
  try simp only [go_sem, ruB]
  refine gC.of (sums_spec hO4.sl hO4.lt hSh.n hLb (by omega) hle) ?_
  rintro bv m5 ⟨B, hO5, hx5, hB⟩
  obtain ⟨N, rfl⟩ : ∃ N : Nat, need = (N : Int) := ⟨need.toNat, by omega⟩
  have hx05 := (hx12.trans hx4).trans hx5
  have hs5 := hO4.sl.keep hO4.lt hx5
  have hl5 := hO4.lt.keep hx5
  try simp only [go_sem, ruB]
  refine WL.mono (choose2_loop (lv := cv) hO5 hB (need := N) (by omega) (by omega) hful) ?_
  rintro _ _ _ ⟨rfl, hm, s, p, rs, rfl, hsa, hBp, hPC⟩
  replace hm := hm.symm
  subst hm
  try simp only [go_sem, ruB, hs5.len]
  refine WL.mono (choose1_loop (lv := cv) hO5 hSh.n hs5 hl5 hsa hBp hx5) ?_
  rintro _ _ m6 ⟨rfl, ov, rs, rfl, ho6, hx6⟩
  try simp only [go_sem, ruB]
  exact ⟨hx05.trans hx6, .inr (.inr (.inr ⟨g0, by omega, by omega, L, p, s, ov, hSh, hPC, ho6.weak hx05, rfl⟩))⟩
end Go.Am


/- Shed: the rest of the program; the document's small functions. -/
set_option linter.unusedVariables false
set_option linter.unusedSimpArgs false
namespace Go.Am
open Classical
variable {m : Mem}

theorem intsZ_get {l : List Int} {i : Nat} (h : i < l.length) : (intsZ l)[i]? = some (.int .i64 l[i]) := by unfold intsZ; rw [List.getElem?_map, List.getElem?_eq_getElem h]; rfl
theorem ref03_Same_spec {l k : List Int} {v w : Value} (hs : Sl m 1 l.length (intsZ l) v) (ht : Sl m 1 k.length (intsZ k) w) (hl : l.length < 1000000) (hk : k.length < 1000000) :
    WC R F.ref03_Same [v, w] m fun r m' => r = .bool (decide (l = k)) ∧ m' = m := by
  refine WC.of R.ref03_Same rfl ?_
  simp only [RC.ref03_Same, RB.ref03_Same_1, go_sem, hs.len, ht.len]
  refine gT.of (fun h => ?_) (fun h => ?_)
  · simp only [go_sem, h]
    simp only [bne_iff_ne] at h
    have : l ≠ k := by rintro rfl; exact h rfl
    simp [this]
  · simp only [go_sem, h]
    have hlk' : (l.length : Int) = k.length := by simpa using h
    have hlk : l.length = k.length := by omega
    refine WL.of (fun n e m' => ∃ i : Nat, i ≤ l.length ∧ n = l.length - i ∧ e = [(0, v), (1, w), (5, .int .i64 i)] ∧ (∀ j (h1 : j < l.length) (h2 : j < k.length), j < i → l[j] = k[j]) ∧ m' = m) l.length
      ⟨0, by omega, by omega, by simp only [go_sem] <;> rfl, fun _ _ _ h => by omega, rfl⟩ ?_
    rintro _ _ _ ⟨i, hi, rfl, rfl, hj, rfl⟩
    simp only [go_sem, hs.len]
    refine gT.of (fun h2 => ?_) (fun h2 => ?_)
    · simp only [go_sem, h2]
      simp only [decide_eq_true_eq] at h2
      have hil : i < l.length := by omega
      have hik : i < k.length := by omega
      obtain ⟨p, e1, e2⟩ := hs.get (k := .i64) (i := i) hil
      obtain ⟨q, e3, e4⟩ := ht.get (k := .i64) (i := i) hik
      rw [intsZ_get hil] at e2
      rw [intsZ_get hik] at e4
      simp only [go_sem, e1, e2, e3, e4]
      refine gT.of (fun h3 => ?_) (fun h3 => ?_)
      · simp only [go_sem, h3]
        have : l ≠ k := by rintro rfl; simp at h3
        simp [this]
      · simp only [go_sem, h3]
        have h4 : l[i] = k[i] := by simpa using h3
        refine ⟨_, ?_, i + 1, by omega, rfl, ?_, ?_⟩
        · omega
        · rw [wrap_i64 (by omega) (by omega)]; rfl
        · intro j g1 g2 g3
          by_cases e : j = i
          · subst e; exact h4
          · exact hj j g1 g2 (by omega)
    · simp only [go_sem, h2]
      simp only [decide_eq_false_iff_not] at h2
      have : l = k := List.ext_getElem hlk fun j g1 g2 => hj j g1 g2 (by omega)
      simp [this]
/-- What Choose tells. -/
theorem Choose_spec {l : List Sp} {v : Value} {f need : Int} (hs : Sl m 2 l.length (l.flatMap spV) v) (hb : SlLt m v) (hl : l.length < 100000) :
    WC R F.shed_Choose [.int .i64 f, .int .i64 need, v] m fun r m' => ∃ x : Value × Int × Int, ChP m f need l (.tuple #[x.1, .int .i64 x.2.1, .int .i64 x.2.2]) m' ∧ r = .tuple #[x.1, .int .i64 x.2.2] := by
  refine WC.of R.shed_Choose rfl ?_
  simp only [RC.shed_Choose, go_sem]
  refine gC.of (choose_spec hs hb hl) ?_
  rintro _ m1 ⟨hx, h | h | h | h⟩
  · obtain ⟨h1, rfl⟩ := h
    try simp only [go_sem, ruB, aExt0, aExt1, aExt2]
    exact ⟨(_, _, _), ⟨hx, .inl ⟨h1, rfl⟩⟩, rfl⟩
  · obtain ⟨h1, h2, rfl⟩ := h
    try simp only [go_sem, ruB, aExt0, aExt1, aExt2]
    exact ⟨(_, _, _), ⟨hx, .inr (.inl ⟨h1, h2, rfl⟩)⟩, rfl⟩
  · obtain ⟨h1, h2, h3, rfl⟩ := h
    try simp only [go_sem, ruB, aExt0, aExt1, aExt2]
    exact ⟨(_, _, _), ⟨hx, .inr (.inr (.inl ⟨h1, h2, h3, rfl⟩))⟩, rfl⟩
  · obtain ⟨h1, h2, h3, L, p, s, ov, h4, h5, h6, rfl⟩ := h
    try simp only [go_sem, ruB, aExt0, aExt1, aExt2]
    exact ⟨(_, _, _), ⟨hx, .inr (.inr (.inr ⟨h1, h2, h3, L, p, s, ov, h4, h5, h6, rfl⟩))⟩, rfl⟩
theorem Cost_spec {l : List Sp} {v : Value} {f need : Int} (hs : Sl m 2 l.length (l.flatMap spV) v) (hb : SlLt m v) (hl : l.length < 100000) :
    WC R F.shed_Cost [.int .i64 f, .int .i64 need, v] m fun r m' => ∃ x : Value × Int × Int, ChP m f need l (.tuple #[x.1, .int .i64 x.2.1, .int .i64 x.2.2]) m' ∧ r = .tuple #[.int .i64 x.2.1, .int .i64 x.2.2] := by
  refine WC.of R.shed_Cost rfl ?_
  simp only [RC.shed_Cost, go_sem]
  refine gC.of (choose_spec hs hb hl) ?_
  rintro _ m1 ⟨hx, h | h | h | h⟩
  · obtain ⟨h1, rfl⟩ := h
    try simp only [go_sem, ruB, aExt0, aExt1, aExt2]
    exact ⟨(_, _, _), ⟨hx, .inl ⟨h1, rfl⟩⟩, rfl⟩
  · obtain ⟨h1, h2, rfl⟩ := h
    try simp only [go_sem, ruB, aExt0, aExt1, aExt2]
    exact ⟨(_, _, _), ⟨hx, .inr (.inl ⟨h1, h2, rfl⟩)⟩, rfl⟩
  · obtain ⟨h1, h2, h3, rfl⟩ := h
    try simp only [go_sem, ruB, aExt0, aExt1, aExt2]
    exact ⟨(_, _, _), ⟨hx, .inr (.inr (.inl ⟨h1, h2, h3, rfl⟩))⟩, rfl⟩
  · obtain ⟨h1, h2, h3, L, p, s, ov, h4, h5, h6, rfl⟩ := h
    try simp only [go_sem, ruB, aExt0, aExt1, aExt2]
    exact ⟨(_, _, _), ⟨hx, .inr (.inr (.inr ⟨h1, h2, h3, L, p, s, ov, h4, h5, h6, rfl⟩))⟩, rfl⟩
theorem Why_spec {l : List Sp} {v : Value} {f : Int} (hs : Sl m 2 l.length (l.flatMap spV) v) (hl : l.length < 100000) :
    WC R F.ref41_Why [.int .i64 f, v] m fun r m' => r = .int .i64 (chkS f l) ∧ m' = m := by
  refine WC.of R.ref41_Why rfl ?_
  simp only [RC.ref41_Why, go_sem]
  refine gC.of (refCheck hs hl) ?_
  rintro _ m1 ⟨rfl, hm⟩
  replace hm := hm.symm
  subst hm
  unfold chkS
  by_cases g : chkA f l = 0
  · have e : (chkA f l == 0) = true := by rw [beq_iff_eq]; exact g
    rw [if_neg (by simpa using g)]
    by_cases g2 : 64 < l.length
    · have e2 : decide ((64 : Int) < ((l.length : Nat) : Int)) = true := decide_eq_true (by omega)
      rw [if_pos g2]
      try simp only [go_sem, ruB, e, hs.len, e2]
    · have e2 : decide ((64 : Int) < ((l.length : Nat) : Int)) = false := decide_eq_false (by omega)
      rw [if_neg g2]
      try simp only [go_sem, ruB, e, hs.len, e2]
      rw [g]
  · have e : (chkA f l == 0) = false := by rw [beq_eq_false_iff_ne]; exact g
    rw [if_pos g]
    try simp only [go_sem, ruB, e]
/-- Shares that are small. -/
def Smal (l : List Sp) : Prop := l.length ≤ 1000 ∧ ∀ w ∈ l, 0 ≤ w.2 ∧ w.2 ≤ 64
theorem sumC_take {l : List Sp} {i : Nat} (h : i < l.length) : sumC (l.take (i + 1)) = sumC (l.take i) + l[i].2 := by
  unfold sumC; rw [List.take_succ_eq_append_getElem h, List.map_append, List.sum_append]; simp
theorem sumC_b : ∀ {l : List Sp}, (∀ w ∈ l, 0 ≤ w.2 ∧ w.2 ≤ 64) → 0 ≤ sumC l ∧ sumC l ≤ 64 * l.length
  | [], _ => by simp [sumC]
  | w :: r, h => by
    have := h w (by simp)
    have := @sumC_b r fun x hx => h x (by simp [hx])
    rw [sumC_cons, List.length_cons]; omega
theorem Sum_spec {l : List Sp} {v : Value} (hs : Sl m 2 l.length (l.flatMap spV) v) (hl : Smal l) : WC R F.ref41_Sum [v] m fun r m' => r = .int .i64 (sumC l) ∧ m' = m := by
  refine WC.of R.ref41_Sum rfl ?_
  simp only [RC.ref41_Sum, go_sem]
  refine WL.of (fun n e m' => ∃ i : Nat, i ≤ l.length ∧ n = l.length - i ∧ e = [(0, v), (3, .int .i64 (sumC (l.take i))), (4, .int .i64 (i : Nat))] ∧ m' = m) l.length
    ⟨0, by omega, by omega, by simp only [go_sem] <;> rfl, rfl⟩ ?_
  rintro _ _ m1 ⟨i, hi, rfl, rfl, hm⟩
  replace hm := hm.symm
  subst hm
  simp only [RB.ref41_Sum_1, go_sem, hs.len]
  have hl1 := hl.1
  have s1 := step1 (show i < 1000000 by omega)
  by_cases g : i < l.length
  · have e1 : decide (((i : Nat) : Int) < ((l.length : Nat) : Int)) = true := decide_eq_true (by omega)
    obtain ⟨b, o, a1, -, a3, -⟩ := hs.elem spV_len (k := .i64) g
    have a31 := a3 1 (by omega)
    simp only [spV, List.getElem?_cons_zero, List.getElem?_cons_succ] at a31
    have hw := hl.2 _ (List.getElem_mem g)
    have hb := @sumC_b (l.take i) fun w hw => hl.2 w (List.mem_of_mem_take hw)
    rw [List.length_take] at hb
    have w1 : IntKind.wrap .i64 (sumC (l.take i) + l[i].2) = sumC (l.take (i + 1)) := by rw [sumC_take g, wrap_i64 (by omega) (by omega)]
    try simp only [go_sem, ruB, e1, a1, a31, w1, s1]
    exact ⟨l.length - (i + 1), by omega, i + 1, by omega, rfl, rfl⟩
  · have e1 : decide (((i : Nat) : Int) < ((l.length : Nat) : Int)) = false := decide_eq_false (by omega)
    try simp only [go_sem, ruB, e1]
    rw [List.take_of_length_le (by omega)]
theorem hasU_take {l : List Sp} {u : Int} {i : Nat} (h : i < l.length) : hasU (l.take (i + 1)) u = (hasU (l.take i) u || (l[i].1 == u)) := by
  unfold hasU; rw [List.take_succ_eq_append_getElem h, List.any_append]; simp
theorem has_spec {l : List Sp} {v : Value} {u : Int} (hs : Sl m 2 l.length (l.flatMap spV) v) (hl : l.length ≤ 1000) : WC R F.ref41_has [v, .int .i64 u] m fun r m' => r = .bool (hasU l u) ∧ m' = m := by
  refine WC.of R.ref41_has rfl ?_
  simp only [RC.ref41_has, go_sem]
  refine WL.of (fun n e m' => ∃ i : Nat, i ≤ l.length ∧ n = l.length - i ∧ e = [(0, v), (1, .int .i64 u), (5, .int .i64 (i : Nat))] ∧ hasU (l.take i) u = false ∧ m' = m) l.length
    ⟨0, by omega, by omega, by simp only [go_sem] <;> rfl, rfl, rfl⟩ ?_
  rintro _ _ m1 ⟨i, hi, rfl, rfl, hh, hm⟩
  replace hm := hm.symm
  subst hm
  simp only [RB.ref41_has_1, go_sem, hs.len]
  have s1 := step1 (show i < 1000000 by omega)
  by_cases g : i < l.length
  · have e1 : decide (((i : Nat) : Int) < ((l.length : Nat) : Int)) = true := decide_eq_true (by omega)
    obtain ⟨b, o, a1, -, a3, -⟩ := hs.elem spV_len (k := .i64) g
    have a30 := a3 0 (by omega)
    simp only [spV, List.getElem?_cons_zero, Nat.add_zero] at a30
    have ht := hasU_take (u := u) g
    rw [hh, Bool.false_or] at ht
    by_cases g2 : l[i].1 = u
    · have e2 : (l[i].1 == u) = true := by rw [beq_iff_eq]; exact g2
      have : hasU l u = true := hasU_iff.2 ⟨_, List.getElem_mem g, g2⟩
      try simp only [go_sem, ruB, e1, a1, a30, e2]
      rw [this]
    · have e2 : (l[i].1 == u) = false := by rw [beq_eq_false_iff_ne]; exact g2
      rw [e2] at ht
      try simp only [go_sem, ruB, e1, a1, a30, e2, s1]
      exact ⟨l.length - (i + 1), by omega, i + 1, by omega, rfl, rfl, ht⟩
  · have e1 : decide (((i : Nat) : Int) < ((l.length : Nat) : Int)) = false := decide_eq_false (by omega)
    rw [List.take_of_length_le (by omega)] at hh
    try simp only [go_sem, ruB, e1]
    rw [hh]
set_option maxHeartbeats 1000000 in
theorem Better_spec {a b : List Sp} {v w : Value} (hs : Sl m 2 a.length (a.flatMap spV) v) (ht : Sl m 2 b.length (b.flatMap spV) w) (ha : Smal a) (hb : Smal b) : WC R F.ref41_Better [v, w] m fun r m' => r = .bool (decide (betR a b)) ∧ m' = m := by
  refine WC.of R.ref41_Better rfl ?_
  have ha1 := ha.1
  have hb1 := hb.1
  simp only [RC.ref41_Better, go_sem]
  refine gC.of (Sum_spec hs ha) ?_
  rintro _ m_ ⟨rfl, hm_⟩
  replace hm_ := hm_.symm
  subst hm_
  simp only [go_sem]
  refine gC.of (Sum_spec ht hb) ?_
  rintro _ m_ ⟨rfl, hm_⟩
  replace hm_ := hm_.symm
  subst hm_
  simp only [go_sem]
  by_cases g1 : sumC a = sumC b
  rotate_left
  · have e1 : (sumC a != sumC b) = true := by rw [bne_iff_ne]; exact g1
    try simp only [go_sem, ruB, e1]
    refine gC.of (Sum_spec hs ha) ?_
    rintro _ m_ ⟨rfl, hm_⟩
    replace hm_ := hm_.symm
    subst hm_
    simp only [go_sem]
    refine gC.of (Sum_spec ht hb) ?_
    rintro _ m_ ⟨rfl, hm_⟩
    replace hm_ := hm_.symm
    subst hm_
    simp only [go_sem]
    have : decide (betR a b) = decide (sumC a < sumC b) := by rw [decide_eq_decide]; unfold betR; omega
    rw [this]
  have e1 : (sumC a != sumC b) = false := by rw [bne_eq_false_iff_eq]; exact g1
  by_cases g2 : a.length = b.length
  rotate_left
  · have e2 : (((a.length : Nat) : Int) != ((b.length : Nat) : Int)) = true := by rw [bne_iff_ne]; omega
    try simp only [go_sem, ruB, e1, hs.len, ht.len, e2]
    have : decide (betR a b) = decide (((a.length : Nat) : Int) < ((b.length : Nat) : Int)) := by rw [decide_eq_decide]; unfold betR; omega
    rw [this]
  have e2 : (((a.length : Nat) : Int) != ((b.length : Nat) : Int)) = false := by rw [bne_eq_false_iff_eq]; omega
  try simp only [go_sem, ruB, e1, hs.len, ht.len, e2]
  refine WL.of (fun n e m' => ∃ u : Nat, 1 ≤ u ∧ u ≤ 1041 ∧ n = 1041 - u ∧ e = [(0, v), (1, w), (5, .int .i64 (u : Nat))] ∧ (∀ j, 1 ≤ j → j < u → hN a j = hN b j) ∧ m' = m) 1040
    ⟨1, by omega, by omega, by omega, by simp only [go_sem] <;> rfl, fun j h1 h2 => by omega, rfl⟩ ?_
  rintro _ _ m1 ⟨u, hu1, hu2, rfl, rfl, hj, hm⟩
  replace hm := hm.symm
  subst hm
  simp only [RB.ref41_Better_1, go_sem]
  have s1 := step1 (show u < 1000000 by omega)
  by_cases g : u ≤ 1040
  rotate_left
  · have e3 : decide (((u : Nat) : Int) ≤ 1040) = false := decide_eq_false (by omega)
    have hu : u = 1041 := by omega
    subst hu
    have : ¬ betR a b := by
      have : Zb (hN a) 1 1040 = Zb (hN b) 1 1040 := Zb_congr fun j h1 h2 => hj j h1 (by omega)
      unfold betR; omega
    try simp only [go_sem, ruB, e3, decide_eq_false this]
  have e3 : decide (((u : Nat) : Int) ≤ 1040) = true := decide_eq_true (by omega)
  try simp only [go_sem, ruB, e3]
  refine gC.of (has_spec hs ha1) ?_
  rintro _ m_ ⟨rfl, hm_⟩
  replace hm_ := hm_.symm
  subst hm_
  simp only [go_sem]
  refine gC.of (has_spec ht hb1) ?_
  rintro _ m_ ⟨rfl, hm_⟩
  replace hm_ := hm_.symm
  subst hm_
  simp only [go_sem]
  by_cases g3 : hN a u = hN b u
  · have e4 : (hasU a ((u : Nat) : Int) == hasU b ((u : Nat) : Int)) = true := by rw [beq_iff_eq]; exact g3
    try simp only [go_sem, ruB, e4, s1]
    refine ⟨1041 - (u + 1), by omega, u + 1, by omega, by omega, rfl, rfl, fun j h1 h2 => ?_⟩
    by_cases e : j = u
    · rw [e]; exact g3
    · exact hj j h1 (by omega)
  · have e4 : (hasU a ((u : Nat) : Int) == hasU b ((u : Nat) : Int)) = false := by rw [beq_eq_false_iff_ne]; exact g3
    try simp only [go_sem, ruB, e4]
    refine gC.of (has_spec hs ha1) ?_
    rintro _ m_ ⟨rfl, hm_⟩
    replace hm_ := hm_.symm
    subst hm_
    simp only [go_sem]
    have : decide (betR a b) = hasU a ((u : Nat) : Int) := by
      cases ea : hasU a ((u : Nat) : Int)
      · have eb : hN b u = true := by cases eb : hN b u; · exact absurd (by show hasU a (u : Nat) = _; rw [ea, eb]) g3
                                      · rfl
        have : Zb (hN a) 1 1040 < Zb (hN b) 1 1040 := Zb_fd.2 ⟨u, hu1, by omega, ea, eb, fun v h1 h2 => hj v h1 h2⟩
        rw [decide_eq_false_iff_not]; unfold betR; omega
      · have eb : hN b u = false := by cases eb : hN b u; · rfl
                                       · exact absurd (by show hasU a (u : Nat) = _; rw [ea, eb]) g3
        have : Zb (hN b) 1 1040 < Zb (hN a) 1 1040 := Zb_fd.2 ⟨u, hu1, by omega, eb, ea, fun v h1 h2 => (hj v h1 h2).symm⟩
        rw [decide_eq_true_eq]; unfold betR; omega
    rw [this]
end Go.Am


/- Shed: the document's search; units; what is chosen. -/
set_option linter.unusedVariables false
set_option linter.unusedSimpArgs false
namespace Go.Am
open Classical
variable {m : Mem}

def utT (w : List Sp) (u : Nat) : List Int := (((List.range u).filter fun u => decide (1 ≤ u)).filter (hN w)).map fun u => ((u : Nat) : Int)
theorem utT_succ {w : List Sp} {u : Nat} (h : 1 ≤ u) : utT w (u + 1) = utT w u ++ (if hN w u then [((u : Nat) : Int)] else []) := by
  unfold utT
  rw [List.range_succ, List.filter_append, List.filter_append, List.map_append]
  cases e : hN w u <;> simp [e, h]
theorem utT_len {w : List Sp} {u : Nat} : (utT w u).length ≤ u := by
  unfold utT
  rw [List.length_map]
  exact Nat.le_trans (List.length_filter_le ..) (Nat.le_trans (List.length_filter_le ..) (by simp))
theorem Own.empty1 {m m1 : Mem} {u : Nat} (hx : Ext m m1) : Own m (m1.new (.cells [] (some u))) u 0 [] (.slice (some ⟨m1.next, 0, none⟩) 0 0) :=
  .at (all := []) hx.next (by simp [Mem.new]) (Nat.le_refl _) (by simp [Mem.new]) (by simp) (by simp) rfl
theorem Units_spec {w : List Sp} {v : Value} (hs : Sl m 2 w.length (w.flatMap spV) v) (hb : SlLt m v) (hl : w.length ≤ 1000) : WC R F.ref41_Units [v] m fun r m' => Own m m' 1 (untU w).length (intsZ (untU w)) r ∧ Ext m m' := by
  refine WC.of R.ref41_Units rfl ?_
  simp only [RC.ref41_Units, go_sem]
  refine WL.of (fun n e m' => ∃ (u : Nat) (ov : Value), 1 ≤ u ∧ u ≤ 1041 ∧ n = 1041 - u ∧ e = [(0, v), (3, ov), (4, .int .i64 (u : Nat))] ∧ Own m m' 1 (utT w u).length (intsZ (utT w u)) ov ∧ Ext m m') 1040
    ⟨1, _, by omega, by omega, by omega, by simp only [go_sem] <;> rfl, Own.empty1 (Ext.refl _), Ext.new⟩ ?_
  rintro _ _ m1 ⟨u, ov, hu1, hu2, rfl, rfl, ho, hx1⟩
  simp only [RB.ref41_Units_1, go_sem]
  have s1 := step1 (show u < 1000000 by omega)
  by_cases g : u ≤ 1040
  rotate_left
  · have e3 : decide (((u : Nat) : Int) ≤ 1040) = false := decide_eq_false (by omega)
    have hu : u = 1041 := by omega
    subst hu
    try simp only [go_sem, ruB, e3]
    exact ⟨ho, hx1⟩
  have e3 : decide (((u : Nat) : Int) ≤ 1040) = true := decide_eq_true (by omega)
  try simp only [go_sem, ruB, e3]
  refine gC.of (has_spec (hs.keep hb hx1) hl) ?_
  rintro _ m_ ⟨rfl, hm_⟩
  replace hm_ := hm_.symm
  subst hm_
  simp only [go_sem]
  have ht := utT_succ (w := w) hu1
  have hlu := utT_len (w := w) (u := u)
  cases e : hN w u with
  | false =>
    have e4 : hasU w ((u : Nat) : Int) = false := e
    rw [e] at ht
    simp only [Bool.false_eq_true, if_false, List.append_nil] at ht
    try simp only [go_sem, ruB, e4, s1]
    exact ⟨1041 - (u + 1), by omega, u + 1, ov, by omega, by omega, rfl, rfl, by rw [ht]; exact ho, hx1⟩
  | true =>
    have e4 : hasU w ((u : Nat) : Int) = true := e
    rw [e] at ht
    simp only [if_true] at ht
    obtain ⟨v', m3, p1, p2, p3⟩ := ho.app (es := [.int .i64 (u : Nat)]) (by_ := 8) hx1 (by omega) rfl rfl (by omega) (by omega)
    try simp only [go_sem, ruB, e4, s1, p1, ↓kfill_1u]
    refine ⟨1041 - (u + 1), by omega, u + 1, v', by omega, by omega, rfl, rfl, ?_, p3⟩
    rw [ht, List.length_append]
    unfold intsZ at p2 ⊢
    rw [List.map_append]; exact p2

def chX (a : List Int) (x : Sp) : List Sp := (a.filter fun u => decide (u = x.1)).map fun _ => x
def chL (l : List Sp) (a : List Int) : List Sp := l.flatMap (chX a)
theorem chX_len {a : List Int} {x : Sp} : (chX a x).length ≤ a.length := by unfold chX; rw [List.length_map]; exact List.length_filter_le ..
theorem chX_take {a : List Int} {x : Sp} {k : Nat} (h : k < a.length) : chX (a.take (k + 1)) x = chX (a.take k) x ++ (if a[k] = x.1 then [x] else []) := by
  unfold chX
  rw [List.take_succ_eq_append_getElem h, List.filter_append, List.map_append]
  by_cases e : a[k] = x.1 <;> simp [e]
theorem chL_take {l : List Sp} {a : List Int} {i : Nat} (h : i < l.length) : chL (l.take (i + 1)) a = chL (l.take i) a ++ chX a l[i] := by
  unfold chL; rw [List.take_succ_eq_append_getElem h, List.flatMap_append]; simp
theorem chL_len {a : List Int} : ∀ {l : List Sp}, (chL l a).length ≤ l.length * a.length
  | [] => by simp [chL]
  | x :: r => by
    have := @chL_len a r
    have h2 := chX_len (a := a) (x := x)
    unfold chL at *
    rw [List.flatMap_cons, List.length_append, List.length_cons, Nat.succ_mul]; omega
theorem kfill_w {a b : Int} : fillL [.int .i64 0, .int .i64 0] [(0, 2, .agg #[.int .i64 a, .int .i64 b])] = some [.int .i64 a, .int .i64 b] := rfl
set_option maxHeartbeats 2000000 in
theorem chosen1_loop {m0 : Mem} {l : List Sp} {a : List Int} {lv av cv : Value} {i : Nat} {C : List Sp} (hs : Sl m0 2 l.length (l.flatMap spV) lv) (hb : SlLt m0 lv) (ht : Sl m0 1 a.length (intsZ a) av) (hd : SlLt m0 av) (hi : i < l.length) (hl : l.length ≤ 100) (ha : a.length ≤ 100) (ho : Own m0 m 2 C.length (C.flatMap spV) cv) (hx : Ext m0 m) (hC : C.length ≤ 10000) :
    WL R [0, 1, 5, 6, 7] RB.law41_chosen_1 [(0, lv), (1, av), (5, cv), (6, .int .i64 (i : Nat)), (7, .int .i64 0)] m fun y e m' => y = .exit 2 ∧ ∃ ov rs, e = (0, lv) :: (1, av) :: (5, ov) :: (6, .int .i64 (i : Nat)) :: rs ∧ Own m0 m' 2 (C ++ chX a l[i]).length ((C ++ chX a l[i]).flatMap spV) ov ∧ Ext m0 m' := by
  refine WL.of (fun n e m' => ∃ (k : Nat) (ov : Value), k ≤ a.length ∧ n = a.length - k ∧ e = [(0, lv), (1, av), (5, ov), (6, .int .i64 (i : Nat)), (7, .int .i64 (k : Nat))] ∧ Own m0 m' 2 (C ++ chX (a.take k) l[i]).length ((C ++ chX (a.take k) l[i]).flatMap spV) ov ∧ Ext m0 m') a.length
    ⟨0, cv, by omega, by omega, by simp only [go_sem] <;> rfl, by simpa [chX] using ho, hx⟩ ?_
  rintro _ _ m1 ⟨k, ov, hk, rfl, rfl, ho1, hx1⟩
  have hs1 := hs.keep hb hx1
  have ht1 := ht.keep hd hx1
  simp only [RB.law41_chosen_1, go_sem, ht1.len]
  have s1 := step1 (show k < 1000000 by omega)
  by_cases g : k < a.length
  rotate_left
  · have e1 : decide (((k : Nat) : Int) < ((a.length : Nat) : Int)) = false := decide_eq_false (by omega)
    rw [List.take_of_length_le (by omega)] at ho1
    try simp only [go_sem, ruB, e1]
    exact ⟨ov, _, rfl, ho1, hx1⟩
  have e1 : decide (((k : Nat) : Int) < ((a.length : Nat) : Int)) = true := decide_eq_true (by omega)
  obtain ⟨p, a1, a2⟩ := ht1.get (k := .i64) (i := k) g
  rw [intsZ_get g] at a2
  obtain ⟨b, o, c1, c2, c3, -⟩ := hs1.elem spV_len (k := .i64) hi
  have c30 := c3 0 (by omega)
  simp only [spV, List.getElem?_cons_zero, Nat.add_zero] at c30 c2
  have htk := chX_take (x := l[i]) g
  have hcl := chX_len (a := a.take k) (x := l[i])
  rw [List.length_take] at hcl
  by_cases g2 : a[k] = l[i].1
  · have e2 : (a[k] == l[i].1) = true := by rw [beq_iff_eq]; exact g2
    rw [if_pos g2] at htk
    obtain ⟨v', m3, p1, p2, p3⟩ := ho1.app (es := [.int .i64 l[i].1, .int .i64 l[i].2]) (by_ := 16) hx1 (by omega) rfl rfl (by rw [List.length_append]; omega) (by rw [List.length_append]; omega)
    try simp only [go_sem, ruB, e1, a1, a2, c1, c2, c30, e2, ↓kfill_w, p1, s1]
    refine ⟨a.length - (k + 1), by omega, k + 1, v', by omega, rfl, rfl, ?_, p3⟩
    rw [htk, ← List.append_assoc, @List.length_append _ (C ++ chX (a.take k) l[i]) _, List.flatMap_append (xs := C ++ chX (a.take k) l[i])]
    exact p2
  · have e2 : (a[k] == l[i].1) = false := by rw [beq_eq_false_iff_ne]; exact g2
    rw [if_neg g2, List.append_nil] at htk
    try simp only [go_sem, ruB, e1, a1, a2, c1, c2, c30, e2, s1]
    exact ⟨a.length - (k + 1), by omega, k + 1, ov, by omega, rfl, rfl, by rw [htk]; exact ho1, hx1⟩
theorem chosen_spec {l : List Sp} {a : List Int} {lv av : Value} (hs : Sl m 2 l.length (l.flatMap spV) lv) (hb : SlLt m lv) (ht : Sl m 1 a.length (intsZ a) av) (hd : SlLt m av) (hl : l.length ≤ 100) (ha : a.length ≤ 100) :
    WC R F.law41_chosen [lv, av] m fun r m' => Own m m' 2 (chL l a).length ((chL l a).flatMap spV) r ∧ Ext m m' := by
  refine WC.of R.law41_chosen rfl ?_
  simp only [RC.law41_chosen, go_sem]
  refine WL.of (fun n e m' => ∃ (i : Nat) (ov : Value), i ≤ l.length ∧ n = l.length - i ∧ e = [(0, lv), (1, av), (5, ov), (6, .int .i64 (i : Nat))] ∧ Own m m' 2 (chL (l.take i) a).length ((chL (l.take i) a).flatMap spV) ov ∧ Ext m m') l.length
    ⟨0, _, by omega, by omega, by simp only [go_sem] <;> rfl, .nil rfl rfl, Ext.refl _⟩ ?_
  rintro _ _ m1 ⟨i, ov, hi, rfl, rfl, ho, hx1⟩
  have hs1 := hs.keep hb hx1
  simp only [RB.law41_chosen_2, go_sem, hs1.len]
  have s1 := step1 (show i < 1000000 by omega)
  by_cases g : i < l.length
  rotate_left
  · have e1 : decide (((i : Nat) : Int) < ((l.length : Nat) : Int)) = false := decide_eq_false (by omega)
    rw [List.take_of_length_le (by omega)] at ho
    try simp only [go_sem, ruB, e1]
    exact ⟨ho, hx1⟩
  have e1 : decide (((i : Nat) : Int) < ((l.length : Nat) : Int)) = true := decide_eq_true (by omega)
  have hcl := chL_len (a := a) (l := l.take i)
  rw [List.length_take] at hcl
  have hcl2 : min i l.length * a.length ≤ 100 * 100 := Nat.mul_le_mul (by omega) ha
  try simp only [go_sem, ruB, e1]
  refine WL.mono (chosen1_loop hs hb ht hd g hl ha ho hx1 (by omega)) ?_
  rintro _ _ m2 ⟨rfl, ov2, rs, rfl, ho2, hx2⟩
  try simp only [go_sem, ruB, s1]
  exact ⟨l.length - (i + 1), by omega, i + 1, ov2, by omega, rfl, rfl, by rw [chL_take g]; exact ho2, hx2⟩

theorem app0_at {m0 m : Mem} {u by_ q1 q2 k : Nat} {xs : List Value} {x : Value} (hb : m.blk q1 = some (.cells [] (some u))) (hs : Sl m u k xs x) (h1 : oneCells xs = true) (hby : k * by_ ≤ 2 ^ 47) (hn : k < 2 ^ 62) (g1 : m0.next ≤ q1) (g2 : q1 < m.next) (g3 : m0.next ≤ q2) (g4 : q2 < m.next) (hne : q1 ≠ q2) :
    ∃ v' m', aApp (some q2) u by_ m (.slice (some ⟨q1, 0, none⟩) 0 0) x = some (v', m') ∧ Own m0 m' u k xs v' ∧ Upd m m' [q1, q2] ∧ ∀ b ∈ vb v', b = q1 ∨ b = q2 := by
  obtain ⟨hsrc, hlen⟩ := hs.src
  have hxl := hs.length
  by_cases hk : k = 0
  · subst hk
    have hx0 : xs = [] := List.eq_nil_of_length_eq_zero (by omega)
    subst hx0
    refine ⟨.slice (some ⟨q1, 0, none⟩) 0 0, m, ?_, .at (all := []) g1 g2 (Nat.le_refl _) hb (by simp) (by simp) rfl, Upd.refl _ _, by simp [vb]⟩
    simp only [aApp, hlen, Option.bind_some, hsrc, if_true]
    rw [if_pos ⟨Nat.le_refl _, by rw [hb]; rfl⟩]
  · refine ⟨.slice (some ⟨q2, 0, none⟩) k k, (m.set q1 none).set q2 (some (.cells xs (some u))), ?_, .at (all := xs) g3 (by simpa [Mem.set] using g4) (Nat.le_refl _) (by simp [Mem.set]) hxl (by rw [← hxl, List.take_length]) h1, (Upd.set (fp := [q1, q2]) (by simp)).trans (Upd.set (fp := [q1, q2]) (by simp)) (fun _ h => h) (fun _ h => .inl h), by simp [vb]⟩
    simp only [aApp, hlen, Option.bind_some, hsrc, hk, if_false, Nat.zero_add]
    rw [if_neg (by omega), hb]
    simp only [List.drop_nil, List.take_nil, Nat.zero_mul, List.length_nil, List.nil_append]
    rw [if_pos ⟨by simpa using hby, by simpa using hn, h1, by first | rfl | trivial, Nat.le_refl _, Nat.le_refl _, .inr ⟨by first | rfl | trivial, .inr (by first | rfl | trivial)⟩⟩]
    simp [place]

theorem best_small {need : Int} {r ch : List Sp} (h : Smal ch) (h2 : ∀ w ∈ r, 0 ≤ w.2 ∧ w.2 ≤ 64) (hn : ch.length + r.length ≤ 1000) : Smal (bestR need r ch).1 := by
  obtain ⟨⟨t, t1, t2⟩, -⟩ := @best_opt need r ch
  rw [t2]
  refine ⟨by rw [List.length_append]; have := t1.length_le; omega, fun w hw => ?_⟩
  rcases List.mem_append.1 hw with hw | hw
  · exact h.2 w hw
  · exact h2 w (t1.subset hw)
set_option maxHeartbeats 2000000 in
theorem best_spec {need : Int} {l : List Sp} {lv : Value} {m0 : Mem} (hs : Sl m0 2 l.length (l.flatMap spV) lv) (hb : SlLt m0 lv) (hl : Smal l) : ∀ (n k : Nat) (ch : List Sp) (cv : Value) (m : Mem), l.length - k = n → k ≤ l.length → Ext m0 m → Smal ch → ch.length + n ≤ 1000 → Sl m 2 ch.length (ch.flatMap spV) cv → SlLt m cv →
    WC R F.ref41_best [.int .i64 need, lv, .int .i64 (k : Nat), cv] m fun r m' => Ext m m' ∧ ∃ wv, r = .tuple #[wv, .bool (bestR need (l.drop k) ch).2] ∧ Sl m' 2 (bestR need (l.drop k) ch).1.length ((bestR need (l.drop k) ch).1.flatMap spV) wv ∧ SlLt m' wv := by
  intro n
  induction n with
  | zero =>
    intro k ch cv m hn hk hx hc hcn hcs hcl
    have hkl : k = l.length := by omega
    subst hkl
    refine WC.of R.ref41_best rfl ?_
    have hs1 := hs.keep hb hx
    have e1 : (((l.length : Nat) : Int) == ((l.length : Nat) : Int)) = true := by rw [beq_iff_eq]
    simp only [RC.ref41_best, go_sem, hs1.len, e1]
    refine gC.of (Sum_spec hcs hc) ?_
    rintro _ m_ ⟨rfl, hm_⟩
    replace hm_ := hm_.symm
    subst hm_
    simp only [go_sem]
    rw [List.drop_length]
    exact ⟨Ext.refl _, _, rfl, hcs, hcl⟩
  | succ n ih =>
    intro k ch cv m hn hk hx hc hcn hcs hcl
    have hkl : k < l.length := by omega
    refine WC.of R.ref41_best rfl ?_
    have hs1 := hs.keep hb hx
    have hl1 := hl.1
    have s1 := step1 (show k < 1000000 by omega)
    have e1 : (((k : Nat) : Int) == ((l.length : Nat) : Int)) = false := by rw [beq_eq_false_iff_ne]; omega
    have hdr : l.drop k = l[k] :: l.drop (k + 1) := List.drop_eq_getElem_cons hkl
    have hsm : ∀ w ∈ l.drop (k + 1), 0 ≤ w.2 ∧ w.2 ≤ 64 := fun w hw => hl.2 w (List.mem_of_mem_drop hw)
    have hdl : (l.drop (k + 1)).length = n := by rw [List.length_drop]; omega
    simp only [RC.ref41_best, go_sem, hs1.len, e1, s1]
    refine gC.of (ih (k + 1) ch cv m (by omega) (by omega) hx hc (by omega) hcs hcl) ?_
    rintro _ m1 ⟨hx1, av, rfl, asv, al⟩
    have hx01 := hx.trans hx1
    have hs2 := hs.keep hb hx01
    have hcs1 := hcs.keep hcl hx1
    have hcl1 := hcl.keep hx1
    obtain ⟨b, o, c1, c2, -, c4⟩ := hs2.elem spV_len (k := .i64) hkl
    have c4' := c4 (hb.keep hx01)
    simp only [spV] at c2
    try simp only [go_sem, ruB, aExt0, aExt1, c1, c2]
    have hX : Ext m1 ((m1.bump 10).set m1.next (some (.cells [] (some 2)))) := Ext.bump.set (by omega)
    obtain ⟨v1, m2, p1, p2, p3, p4⟩ := app0_at (m0 := m1) (by_ := 16) (q1 := m1.next) (q2 := m1.next + 2) (m := (m1.bump 10).set m1.next (some (.cells [] (some 2)))) (by simp [Mem.set]) (hcs1.keep hcl1 hX) (spV_flat ch) (by omega) (by omega) (Nat.le_refl _) (by show m1.next < m1.next + 10; omega) (by omega) (by show m1.next + 2 < m1.next + 10; omega) (by omega)
    have hx2 : Ext m1 m2 := p3.ext_of hX (fun x hx => by simp at hx; omega)
    have n2 : m1.next + 10 ≤ m2.next := p3.next
    have wb : m2.blk b = ((m1.bump 10).set m1.next (some (.cells [] (some 2)))).blk b := p3.same b (by show b < m1.next + 10; omega) (by simp; omega)
    refine Got.of p1 ?_
    try simp only [go_sem, ruB, watch_one, watch_nil, blk_ptr, wb, ↓kfill_w]
    have hX3 : Ext m2 (m2.set (m1.next + 7) (some (.cells [.int .i64 l[k].1, .int .i64 l[k].2] (some 2)))) ∨ True := .inr trivial
    have hU3 : Upd m2 (m2.set (m1.next + 7) (some (.cells [.int .i64 l[k].1, .int .i64 l[k].2] (some 2)))) [m1.next + 7] := Upd.set (by simp)
    have hx3 : Ext m1 (m2.set (m1.next + 7) (some (.cells [.int .i64 l[k].1, .int .i64 l[k].2] (some 2)))) := hx2.set (by omega)
    have b3 : Sl (m2.set (m1.next + 7) (some (.cells [.int .i64 l[k].1, .int .i64 l[k].2] (some 2)))) 2 1 [.int .i64 l[k].1, .int .i64 l[k].2] (.slice (some ⟨m1.next + 7, 0, none⟩) 1 1) := by
      refine .at (Nat.le_refl _) ?_
      unfold aCells
      simp [Mem.set]
    have o3 := p2.updq hU3 (fun b hb => by rcases p4 b hb with rfl | rfl <;> simp)
    generalize m2.set (m1.next + 7) (some (.cells [.int .i64 l[k].1, .int .i64 l[k].2] (some 2))) = m3 at hU3 hx3 b3 o3 ⊢
    have n3 := hU3.next
    obtain ⟨v2, m4, q1, q2, q3⟩ := o3.appAt (q := m1.next + 8) (by_ := 16) hx3 b3 rfl (by omega) (by omega) (by omega) (by omega) (SlOff.vb_iff.2 fun b hb => by rcases p4 b hb with rfl | rfl <;> simp)
    have hcc : Smal (ch ++ [l[k]]) := ⟨by rw [List.length_append, List.length_singleton]; omega, fun w hw => by
      rcases List.mem_append.1 hw with hw | hw
      · exact hc.2 w hw
      · rw [List.mem_singleton] at hw; rw [hw]; exact hl.2 _ (List.getElem_mem hkl)⟩
    have hfl : (ch ++ [l[k]]).flatMap spV = ch.flatMap spV ++ [.int .i64 l[k].1, .int .i64 l[k].2] := by rw [List.flatMap_append]; rfl
    have hcl2 : (ch ++ [l[k]]).length = ch.length + 1 := by simp
    try simp only [go_sem, ruB, q1, s1]
    refine gC.of (ih (k + 1) (ch ++ [l[k]]) v2 m4 (by omega) (by omega) (hx01.trans q3) hcc (by omega) (by rw [hfl, hcl2]; exact q2.sl) q2.lt) ?_
    rintro _ m5 ⟨hx5, bv, rfl, bs, bl⟩
    have hx15 := q3.trans hx5
    have asv5 := asv.keep al hx15
    have al5 := al.keep hx15
    have hA := best_small (need := need) hc hsm (by omega)
    have hB := best_small (need := need) hcc hsm (by omega)
    have hun : bestR need (l.drop k) ch = if (bestR need (l.drop (k + 1)) ch).2 = false ∨ ((bestR need (l.drop (k + 1)) (ch ++ [l[k]])).2 = true ∧ betR (bestR need (l.drop (k + 1)) (ch ++ [l[k]])).1 (bestR need (l.drop (k + 1)) ch).1) then bestR need (l.drop (k + 1)) (ch ++ [l[k]]) else bestR need (l.drop (k + 1)) ch := by rw [hdr]; rfl
    rw [hun]
    generalize bestR need (l.drop (k + 1)) ch = A at *
    generalize bestR need (l.drop (k + 1)) (ch ++ [l[k]]) = B at *
    obtain ⟨A1, A2⟩ := A
    obtain ⟨B1, B2⟩ := B
    simp only at *
    cases A2 with
    | false =>
      rw [if_pos (.inl rfl)]
      try simp only [go_sem, ruB, aExt0, aExt1]
      exact ⟨hx1.trans hx15, _, rfl, bs, bl⟩
    | true =>
      cases B2 with
      | false =>
        rw [if_neg (by simp)]
        try simp only [go_sem, ruB, aExt0, aExt1]
        exact ⟨hx1.trans hx15, _, rfl, asv5, al5⟩
      | true =>
        try simp only [go_sem, ruB, aExt0, aExt1]
        refine gC.of (Better_spec bs asv5 hB hA) ?_
        rintro _ m6 ⟨rfl, hm⟩
        replace hm := hm.symm
        subst hm
        by_cases g : betR B1 A1
        · rw [if_pos (.inr ⟨by first | rfl | trivial, g⟩), decide_eq_true g]
          try simp only [go_sem, ruB]
          exact ⟨hx1.trans hx15, _, rfl, bs, bl⟩
        · rw [if_neg (by simp [g]), decide_eq_false g]
          try simp only [go_sem, ruB]
          exact ⟨hx1.trans hx15, _, rfl, asv5, al5⟩
theorem RChoose_spec {need : Int} {l : List Sp} {lv : Value} (hs : Sl m 2 l.length (l.flatMap spV) lv) (hb : SlLt m lv) (hl : Smal l) (h9 : l.length ≤ 900) :
    WC R F.ref41_Choose [.int .i64 need, lv] m fun r m' => Ext m m' ∧ ∃ wv, r = .tuple #[wv, .bool (bestR need l []).2] ∧ Sl m' 2 (bestR need l []).1.length ((bestR need l []).1.flatMap spV) wv ∧ SlLt m' wv := by
  refine WC.of R.ref41_Choose rfl ?_
  simp only [RC.ref41_Choose, go_sem]
  have hx1 : Ext m (m.new (.cells [] (some 2))) := Ext.new
  have ho : Own m (m.new (.cells [] (some 2))) 2 0 [] (.slice (some ⟨m.next, 0, none⟩) 0 0) := Own.empty1 (Ext.refl _)
  generalize m.new (.cells [] (some 2)) = m1 at hx1 ho ⊢
  have e0 : (0 : Int) = ((0 : Nat) : Int) := rfl
  rw [e0]
  refine gC.of (best_spec hs hb hl l.length 0 [] _ m1 (by omega) (by omega) hx1 ⟨by simp, by simp⟩ (by simp; omega) ho.sl ho.lt) ?_
  rintro _ m2 ⟨hx2, wv, rfl, h1, h2⟩
  rw [List.drop_zero] at h1 ⊢
  try simp only [go_sem, ruB, aExt0, aExt1]
  exact ⟨hx1.trans hx2, wv, rfl, h1, h2⟩
end Go.Am


/- ShedChooses. -/
set_option linter.unusedVariables false
set_option linter.unusedSimpArgs false
namespace Go.Am
open Classical
variable {m : Mem}

theorem LOk.small {f : Int} {l : List Sp} (h : LOk f l) : Smal l := ⟨by have := h.n; omega, fun w hw => by have := h.b w hw; omega⟩
theorem tup3 {a b : Value} {x y z w : Int} (h : Value.tuple #[a, .int .i64 x, .int .i64 y] = .tuple #[b, .int .i64 z, .int .i64 w]) : a = b ∧ x = z ∧ y = w := by
  injection h with h
  injection h with h
  injection h with h1 h
  injection h with h2 h
  injection h with h3 h
  injection h2 with _ h2
  injection h3 with _ h3
  exact ⟨h1, h2, h3⟩
set_option maxHeartbeats 4000000 in
theorem ShedChooses_spec {l : List Sp} {lv : Value} {f need : Int} (hs : Sl m 2 l.length (l.flatMap spV) lv) (hb : SlLt m lv) : WC R F.law41_ShedChooses [.int .i64 f, .int .i64 need, lv] m fun r m' => r = .bool true := by
  refine WC.of R.law41_ShedChooses rfl ?_
  simp only [RC.law41_ShedChooses, go_sem, hs.len]
  by_cases g80 : 80 < l.length
  · have e1 : decide ((80 : Int) < ((l.length : Nat) : Int)) = true := decide_eq_true (by omega)
    try simp only [go_sem, ruB, e1]
    refine gC.of (ok_spec R.law41_awake) ?_
    rintro _ m_ ⟨rfl, hm_⟩
    replace hm_ := hm_.symm
    subst hm_
    simp only [go_sem]
    try simp only [go_sem, ruB]
  have e1 : decide ((80 : Int) < ((l.length : Nat) : Int)) = false := decide_eq_false (by omega)
  try simp only [go_sem, ruB, e1]
  refine gC.of (Choose_spec hs hb (by omega)) ?_
  rintro _ m1 ⟨⟨a, n0, e0⟩, ⟨hx1, hc1⟩, rfl⟩
  have hs1 := hs.keep hb hx1
  have hb1 := hb.keep hx1
  simp only at hc1 ⊢
  try simp only [go_sem, ruB, aExt0, aExt1]
  refine gC.of (Cost_spec hs1 hb1 (by omega)) ?_
  rintro _ m2 ⟨⟨a2, n2, e2⟩, ⟨hx2, hc2⟩, rfl⟩
  have hs2 := hs1.keep hb1 hx2
  have hb2 := hb1.keep hx2
  simp only at hc2 ⊢
  try simp only [go_sem, ruB, aExt0, aExt1]
  refine gC.of (Why_spec hs2 (by omega)) ?_
  rintro _ m_ ⟨rfl, hm_⟩
  replace hm_ := hm_.symm
  subst hm_
  simp only [go_sem]
  refine gC.of (Check_spec hs2 hb2 (by omega)) ?_
  rintro _ m3 ⟨rfl, hx3⟩
  have hs3 := hs2.keep hb2 hx3
  have hb3 := hb2.keep hx3
  have q1 : (chkS f l != chkS f l) = false := by rw [bne_eq_false_iff_eq]
  have w00 : ((0 : Int) == 0) = true := rfl
  have w01 : ((0 : Int) != 0) = false := rfl
  have ln0 : aLen (.slice none 0 0) = some (.int .i64 0) := rfl
  rcases hc1 with ⟨h1, hr⟩ | ⟨h1, h2, hr⟩ | ⟨h1, h2, h3, hr⟩ | ⟨h1, h2, h3, L, p, s, ov, h4, h5, h6, hr⟩
  · obtain ⟨rfl, rfl, rfl⟩ := tup3 hr
    rcases hc2 with ⟨k1, hr⟩ | ⟨k1, -⟩ | ⟨k1, -⟩ | ⟨k1, -⟩
    rotate_left
    · exact absurd k1 h1
    · exact absurd k1 h1
    · exact absurd k1 h1
    obtain ⟨rfl, rfl, rfl⟩ := tup3 hr
    have z1 : (chkS f l == 0) = false := by rw [beq_eq_false_iff_ne]; exact h1
    have z2 : (chkS f l != 0) = true := by rw [bne_iff_ne]; exact h1
    have z3 : (chkS f l == chkS f l) = true := by rw [beq_iff_eq]
    try simp only [go_sem, ruB, q1, z1, z2, z3, w00, ln0]
    refine gC.of (ok_spec R.law41_awake) ?_
    rintro _ m_ ⟨rfl, hm_⟩
    replace hm_ := hm_.symm
    subst hm_
    simp only [go_sem]
    try simp only [go_sem, ruB]
  · obtain ⟨rfl, rfl, rfl⟩ := tup3 hr
    rcases hc2 with ⟨k1, -⟩ | ⟨k1, k2, hr⟩ | ⟨k1, k2, -⟩ | ⟨k1, k2, -⟩
    · exact absurd h1 k1
    rotate_left
    · omega
    · omega
    obtain ⟨rfl, rfl, rfl⟩ := tup3 hr
    have y1 : ((1 : Int) != 1) = false := rfl
    have y2 : ((1 : Int) == 0) = false := rfl
    have y3 : ((1 : Int) == 1) = true := rfl
    have y4 : ((1 : Int) != 0) = true := rfl
    rw [h1] at q1 ⊢
    try simp only [go_sem, ruB, q1, w00, w01, y1, y2, y3, y4, decide_eq_true h2, ln0]
    refine gC.of (ok_spec R.law41_awake) ?_
    rintro _ m_ ⟨rfl, hm_⟩
    replace hm_ := hm_.symm
    subst hm_
    simp only [go_sem]
    try simp only [go_sem, ruB]
  · obtain ⟨rfl, rfl, rfl⟩ := tup3 hr
    rcases hc2 with ⟨k1, -⟩ | ⟨k1, k2, -⟩ | ⟨k1, k2, k3, hr⟩ | ⟨k1, k2, k3, -⟩
    · exact absurd h1 k1
    · omega
    rotate_left
    · omega
    obtain ⟨rfl, rfl, rfl⟩ := tup3 hr
    have y1 : ((12 : Int) != 12) = false := rfl
    have y2 : ((12 : Int) == 0) = false := rfl
    have y3 : ((12 : Int) == 12) = true := rfl
    have y4 : ((12 : Int) != 0) = true := rfl
    have hk := chkS_ok h1
    rw [h1] at q1 ⊢
    try simp only [go_sem, ruB, q1, w00, w01, y1, y2, y3, y4, decide_eq_false (show ¬ need < 0 by omega), ln0]
    refine gC.of (Sum_spec hs3 hk.small) ?_
    rintro _ m_ ⟨rfl, hm_⟩
    replace hm_ := hm_.symm
    subst hm_
    simp only [go_sem]
    try simp only [go_sem, ruB, decide_eq_true h3, y1, y2, y3, y4, w00, ln0]
    refine gC.of (ok_spec R.law41_awake) ?_
    rintro _ m_ ⟨rfl, hm_⟩
    replace hm_ := hm_.symm
    subst hm_
    simp only [go_sem]
    try simp only [go_sem, ruB]
  · obtain ⟨rfl, rfl, rfl⟩ := tup3 hr
    rcases hc2 with ⟨k1, -⟩ | ⟨k1, k2, -⟩ | ⟨k1, k2, k3, -⟩ | ⟨k1, k2, k3, L', p', s', ov', k4, k5, k6, hr⟩
    · exact absurd h1 k1
    · omega
    · omega
    obtain ⟨rfl, rfl, rfl⟩ := tup3 hr
    have hk := chkS_ok h1
    rw [h1] at q1 ⊢
    try simp only [go_sem, ruB, q1, w00, w01, decide_eq_false (show ¬ need < 0 by omega)]
    refine gC.of (Sum_spec hs3 hk.small) ?_
    rintro _ m_ ⟨rfl, hm_⟩
    replace hm_ := hm_.symm
    subst hm_
    simp only [go_sem]
    try simp only [go_sem, ruB, decide_eq_false (show ¬ sumC l < need by omega), w00, w01, hs3.len]
    by_cases g9 : 9 < l.length
    · have e9 : decide ((9 : Int) < ((l.length : Nat) : Int)) = true := decide_eq_true (by omega)
      try simp only [go_sem, ruB, e9, w00]
      refine gC.of (ok_spec R.law41_awake) ?_
      rintro _ m_ ⟨rfl, hm_⟩
      replace hm_ := hm_.symm
      subst hm_
      simp only [go_sem]
      try simp only [go_sem, ruB]
    have e9 : decide ((9 : Int) < ((l.length : Nat) : Int)) = false := decide_eq_false (by omega)
    try simp only [go_sem, ruB, e9]
    refine gC.of (RChoose_spec (need := need) hs3 hb3 hk.small (by omega)) ?_
    rintro _ m4 ⟨hx4, wv, rfl, ws, wl⟩
    obtain ⟨bk, bc⟩ := best_choice h3
    have bsm : Smal (bestR need l []).1 := best_small (r := l) ⟨by simp, by simp⟩ (fun w hw => by have := hk.b w hw; omega) (by simp; omega)
    rw [bk]
    generalize (bestR need l []).1 = w at *
    obtain ⟨c1, c2⟩ := choice_eq h4 h5 bc
    obtain ⟨c3, c4⟩ := choice_eq k4 k5 bc
    have hou := out_unt h4 bc.1
    rw [c1] at hou
    have hss : s = s' := by omega
    subst hss
    have o4 := ((h6.keep hx2).keep hx3).keep hx4
    have bl1 := bsm.1
    try simp only [go_sem, ruB, aExt0, aExt1, w00]
    refine gC.of (Units_spec ws wl (by omega)) ?_
    rintro uv m5 ⟨uo, hx5⟩
    have o5 := o4.keep hx5
    have ws5 := ws.keep wl hx5
    rw [hou] at o5
    have ul : (untU w).length ≤ 1041 := utT_len (w := w) (u := 1041)
    try simp only [go_sem, ruB]
    refine gC.of (ref03_Same_spec o5.sl uo.sl (by omega) (by omega)) ?_
    rintro _ m_ ⟨rfl, hm_⟩
    replace hm_ := hm_.symm
    subst hm_
    simp only [go_sem]
    have sm : decide (untU w = untU w) = true := decide_eq_true rfl
    try simp only [go_sem, ruB, sm]
    refine gC.of (Sum_spec ws5 bsm) ?_
    rintro _ m_ ⟨rfl, hm_⟩
    replace hm_ := hm_.symm
    subst hm_
    simp only [go_sem]
    rw [c2]
    have z3 : (((s : Nat) : Int) == ((s : Nat) : Int)) = true := by rw [beq_iff_eq]
    simp only [z3]
    try simp only [go_sem, ruB]
    refine gC.of (ok_spec R.law41_awake) ?_
    rintro _ m_ ⟨rfl, hm_⟩
    replace hm_ := hm_.symm
    subst hm_
    simp only [go_sem]
    try simp only [go_sem, ruB]
theorem sp_read {m : Mem} {v : Value} (h : Rd m (.sl [.int .i64, .int .i64]) v) : ∃ l : List Sp, Sl m 2 l.length (l.flatMap spV) v ∧ SlLt m v ∧ Cut 2 m v := by
  obtain ⟨l, h1, h2, -⟩ := Rd.slice (f := spV) (fun cs hc => by
    obtain ⟨c, r, rfl, h1, h2⟩ := hc.one
    obtain ⟨d, r2, rfl, h3, h4⟩ := h2.one
    cases h4.none
    obtain ⟨a, rfl, -⟩ := h1.i64
    obtain ⟨b, rfl, -⟩ := h3.i64
    exact ⟨(a, b), rfl⟩) h
  exact ⟨l, h1, h2, h.free.cut⟩
end Go.Am


/- ShedChooses, of arguments as they are read. -/
set_option linter.unusedVariables false
namespace Go.Am
theorem law41_ShedChooses_walk (m : Mem) (us : List Value) (h : RdAs m [(false, [.int .i64]), (false, [.int .i64]), (false, [.sl [.int .i64, .int .i64]])] us) : WC R F.law41_ShedChooses us m fun v _ => v = .bool true := by
  obtain ⟨_, _, rfl, h1, h⟩ := h.one; obtain ⟨_, _, rfl, h2, h⟩ := h.one; obtain ⟨_, _, rfl, h3, h⟩ := h.one; cases h.none
  obtain ⟨l, hl, hb, -⟩ := sp_read h3.rd
  obtain ⟨f, rfl, -⟩ := h1.rd.i64; obtain ⟨n, rfl, -⟩ := h2.rd.i64
  exact ShedChooses_spec hl hb
end Go.Am


/- ShedLeast, ShedCores: plain. -/
set_option linter.unusedVariables false
set_option linter.unusedSimpArgs false
namespace Go.Am
open Classical
variable {m : Mem}

theorem untU_mem {w : List Sp} {u : Int} (h : 1 ≤ u ∧ u ≤ 1040) : u ∈ untU w ↔ hasU w u = true := by
  unfold untU
  rw [List.mem_map]
  constructor
  · rintro ⟨j, hj, e⟩
    rw [List.mem_filter] at hj
    rw [← e]; exact hj.2
  · intro hh
    refine ⟨u.toNat, ?_, by omega⟩
    rw [List.mem_filter, List.mem_filter, List.mem_range]
    refine ⟨⟨by omega, decide_eq_true (by omega)⟩, ?_⟩
    unfold hN
    rw [Int.toNat_of_nonneg (by omega)]; exact hh
theorem untU_nd {w : List Sp} : (untU w).Nodup := by
  have : (untU w).Pairwise (· < ·) := by
    unfold untU
    exact pw_map (List.pairwise_lt_range.sublist (List.Sublist.trans List.filter_sublist List.filter_sublist)) fun a ha b hb hab => by omega
  exact this.imp fun h => by omega
theorem filt_one : ∀ {a : List Int} {x : Int}, a.Nodup → (a.filter fun u => decide (u = x)) = if x ∈ a then [x] else []
  | [], x, _ => by simp
  | y :: r, x, h => by
    rw [List.nodup_cons] at h
    have ih := @filt_one r x h.2
    rw [List.filter_cons]
    by_cases e : y = x
    · subst e
      rw [if_pos (by simp), ih, if_neg h.1, if_pos (by simp)]
    · rw [if_neg (by simpa using e), ih]
      by_cases g : x ∈ r
      · rw [if_pos g, if_pos (by simp [g])]
      · rw [if_neg g, if_neg (by simp [g]; exact fun k => e k.symm)]
theorem chX_one {a : List Int} {x : Sp} (h : a.Nodup) : chX a x = if x.1 ∈ a then [x] else [] := by
  unfold chX
  rw [filt_one h]
  split <;> rfl
theorem chL_filter {a : List Int} (h : a.Nodup) : ∀ {l : List Sp}, chL l a = l.filter fun x => decide (x.1 ∈ a)
  | [] => rfl
  | x :: r => by
    have ih := @chL_filter a h r
    unfold chL at *
    rw [List.flatMap_cons, ih, chX_one h, List.filter_cons]
    by_cases g : x.1 ∈ a
    · rw [if_pos g, if_pos (by simpa using g)]; rfl
    · rw [if_neg g, if_neg (by simpa using g)]; rfl
theorem out_len {L : List Sp} {p : Nat → Bool} : ∀ {i : Nat}, (outT L p i).length = cnM p i
  | 0 => rfl
  | i + 1 => by
    have ih := @out_len L p i
    unfold outT at *
    rw [List.range_succ, List.filter_append, List.map_append, List.length_append, ih, cnM_succ]
    cases e : p i <;> simp [e]
theorem sumC_len : ∀ {l : List Sp}, (∀ w ∈ l, 1 ≤ w.2) → (l.length : Int) ≤ sumC l
  | [], _ => by simp [sumC]
  | w :: r, h => by
    have := h w (by simp)
    have := @sumC_len r fun x hx => h x (by simp [hx])
    rw [sumC_cons, List.length_cons]; omega
theorem sumC_erase : ∀ {l : List Sp} {i : Nat} (h : i < l.length), sumC (l.eraseIdx i) = sumC l - l[i].2
  | w :: r, 0, h => by rw [sumC_cons]; simp; omega
  | w :: r, i + 1, h => by
    have ih := @sumC_erase r i (by simpa using h)
    rw [List.eraseIdx_cons_succ, sumC_cons, sumC_cons, ih]; simp; omega
/-- What is known of the program's choice. -/
structure Pick (l : List Sp) (need : Int) (a : List Int) (s : Nat) (w : List Sp) : Prop where
  c : chL l a = w
  sm : sumC w = s
  n : w.length = a.length
  un : a = untU w
  ge : need ≤ s
  le : ∀ i (h : i < w.length), (s : Int) - w[i].2 < need
  z : need ≤ 0 → w = []
  p : 0 < need → 0 < w.length
  b : a.length ≤ 64
theorem pick_of {L l : List Sp} {need : Int} {p : Nat → Bool} {s : Nat} (h : ShOk L l) (hp : PChoice L need p s) : Pick l need (outU L p) s (rowM L p l) := by
  have hm := mk_row h hp.b.1
  have hw : (rowM L p l).Sublist l := List.filter_sublist
  have hs := h.sum hw
  have hl := h.len hw
  have ho := out_unt h hw
  rw [hm] at hs hl ho
  rw [hp.b.2.1] at hs
  have hsh : ∀ w ∈ rowM L p l, 1 ≤ w.2 := fun w hw' => h.h w (h.p.mem_iff.2 (hw.subset hw'))
  have hlen := sumC_len hsh
  have ol : (outU L p).length = cnM p L.length := out_len
  refine ⟨?_, hs, by rw [hl, ol], ho, hp.n, fun i hi => ?_, fun hn => ?_, fun hn => ?_, by rw [ol]; exact Nat.le_trans cnM_le h.n⟩
  · rw [ho, chL_filter untU_nd]
    conv => rhs; rw [sub_filter hw h.unq]
    refine List.filter_congr fun x hx => ?_
    have hu := h.u x (h.p.mem_iff.2 hx)
    rw [Bool.eq_iff_iff, decide_eq_true_eq]
    exact untU_mem hu
  · have ht : ((rowM L p l).eraseIdx i).Sublist l := (List.eraseIdx_sublist ..).trans hw
    have hts := h.sum ht
    rw [sumC_erase hi, hs] at hts
    have h1 := hsh _ (List.getElem_mem hi)
    by_cases g : need ≤ (s : Int) - (rowM L p l)[i].2
    · have := hp.m _ (mk_sup (L := L) (a := (rowM L p l).eraseIdx i)) (by omega)
      omega
    · omega
  · have := hp.m (fun _ => false) (fun _ _ => rfl) (by omega)
    have z : ∀ i, smM (shA L) (fun _ => false) i = 0 := fun i => by
      induction i with
      | zero => rfl
      | succ i ih => rw [smM_succ, ih]; rfl
    rw [z] at this
    exact List.eq_nil_of_length_eq_zero (by omega)
  · by_cases e : (rowM L p l).length = 0
    · have := List.eq_nil_of_length_eq_zero e
      have hn2 := hp.n
      rw [this] at hs
      simp [sumC] at hs
      omega
    · omega
theorem pick_same {L l L' : List Sp} {need : Int} {p p' : Nat → Bool} {s s' : Nat} (h : ShOk L l) (hp : PChoice L need p s) (h' : ShOk L' l) (hp' : PChoice L' need p' s') (hn : need ≤ sumC l) : outU L p = outU L' p' := by
  obtain ⟨-, bc⟩ := best_choice hn
  obtain ⟨c1, -⟩ := choice_eq h hp bc
  obtain ⟨c2, -⟩ := choice_eq h' hp' bc
  rw [← c1, ← c2, out_unt h bc.1, out_unt h' bc.1]
end Go.Am


/- ShedLeast, ShedCores. -/
set_option linter.unusedVariables false
set_option linter.unusedSimpArgs false
namespace Go.Am
open Classical
variable {m : Mem}

theorem chP_cases {f need : Int} {l : List Sp} {x : Value × Int × Int} {m' : Mem} (h : ChP m f need l (.tuple #[x.1, .int .i64 x.2.1, .int .i64 x.2.2]) m') :
    Ext m m' ∧ ((x.1 = .slice none 0 0 ∧ x.2.2 ≠ 0) ∨ (x.2.2 = 0 ∧ LOk f l ∧ 0 ≤ need ∧ need ≤ sumC l ∧ ∃ (L : List Sp) (p : Nat → Bool) (s : Nat), ShOk L l ∧ PChoice L need p s ∧ Own m m' 1 (outU L p).length (intsZ (outU L p)) x.1)) := by
  obtain ⟨a, n, e⟩ := x
  obtain ⟨hx, h | h | h | h⟩ := h
  · obtain ⟨h1, hr⟩ := h
    obtain ⟨rfl, rfl, rfl⟩ := tup3 hr
    exact ⟨hx, .inl ⟨rfl, h1⟩⟩
  · obtain ⟨h1, h2, hr⟩ := h
    obtain ⟨rfl, rfl, rfl⟩ := tup3 hr
    exact ⟨hx, .inl ⟨rfl, by simp⟩⟩
  · obtain ⟨h1, h2, h3, hr⟩ := h
    obtain ⟨rfl, rfl, rfl⟩ := tup3 hr
    exact ⟨hx, .inl ⟨rfl, by simp⟩⟩
  · obtain ⟨h1, h2, h3, L, p, s, ov, h4, h5, h6, hr⟩ := h
    obtain ⟨rfl, rfl, rfl⟩ := tup3 hr
    exact ⟨hx, .inr ⟨rfl, chkS_ok h1, h2, h3, L, p, s, h4, h5, h6⟩⟩
/-- The cut of the first 64. -/
theorem cut64 {l : List Sp} {v : Value} (hs : Sl m 2 l.length (l.flatMap spV) v) (hb : SlLt m v) (hc : Cut 2 m v) : ∃ v', aSub 2 m v none (some (.int .i64 (if (64 : Int) < (l.length : Int) then (64 : Int) else (l.length : Int)))) none = some v' ∧ Sl m 2 (l.take 64).length ((l.take 64).flatMap spV) v' ∧ SlLt m v' := by
  have e2 : (if (64 : Int) < (l.length : Int) then (64 : Int) else (l.length : Int)) = ((min l.length 64 : Nat) : Int) := by
    split <;> omega
  rw [e2]
  obtain ⟨v', a1, a2, a3, a4⟩ := hs.to hc (k := .i64) (i := min l.length 64) (by omega)
  have h : (l.take 64).length = min l.length 64 := by rw [List.length_take]; omega
  have h2 : (l.flatMap spV).take (min l.length 64 * 2) = (l.take 64).flatMap spV := by
    have e : l.flatMap spV = (l.take 64).flatMap spV ++ (l.drop 64).flatMap spV := by rw [← List.flatMap_append, List.take_append_drop]
    rw [e, List.take_left' (by rw [flat_len spV_len, h])]
  rw [h2] at a2
  exact ⟨v', a1, by rw [h]; exact a2, a3 hb⟩
theorem Least_loop {need : Int} {w : List Sp} {wv : Value} {s : Nat} (hs : Sl m 2 w.length (w.flatMap spV) wv) (hl : w.length ≤ 64) (hs2 : s ≤ 10000) (hw : ∀ x ∈ w, 0 ≤ x.2 ∧ x.2 ≤ 64) (hle : ∀ i (h : i < w.length), (s : Int) - w[i].2 < need) :
    WL R [1, 9, 10, 11] RB.law41_ShedLeast_1 [(1, .int .i64 need), (9, wv), (10, .int .i64 (s : Nat)), (11, .int .i64 0)] m fun y e m' => y = .exit 0 := by
  refine WL.of (fun n e m' => ∃ i : Nat, i ≤ w.length ∧ n = w.length - i ∧ e = [(1, .int .i64 need), (9, wv), (10, .int .i64 (s : Nat)), (11, .int .i64 (i : Nat))] ∧ m' = m) w.length
    ⟨0, by omega, by omega, by simp only [go_sem] <;> rfl, rfl⟩ ?_
  rintro _ _ m1 ⟨i, hi, rfl, rfl, hm⟩
  replace hm := hm.symm
  subst hm
  simp only [RB.law41_ShedLeast_1, go_sem, hs.len]
  have s1 := step1 (show i < 1000000 by omega)
  by_cases g : i < w.length
  · have e1 : decide (((i : Nat) : Int) < ((w.length : Nat) : Int)) = true := decide_eq_true (by omega)
    obtain ⟨b, o, a1, -, a3, -⟩ := hs.elem spV_len (k := .i64) g
    have a31 := a3 1 (by omega)
    simp only [spV, List.getElem?_cons_zero, List.getElem?_cons_succ] at a31
    have hwi := hw _ (List.getElem_mem g)
    have w1 : IntKind.wrap .i64 (((s : Nat) : Int) - w[i].2) = ((s : Nat) : Int) - w[i].2 := wrap_i64 (by omega) (by omega)
    have e2 : decide (need ≤ ((s : Nat) : Int) - w[i].2) = false := decide_eq_false (by have := hle i g; omega)
    try simp only [go_sem, ruB, e1, a1, a31, w1, e2, s1]
    exact ⟨w.length - (i + 1), by omega, i + 1, by omega, rfl, rfl⟩
  · have e1 : decide (((i : Nat) : Int) < ((w.length : Nat) : Int)) = false := decide_eq_false (by omega)
    try simp only [go_sem, ruB, e1]
set_option maxHeartbeats 4000000 in
theorem ShedLeast_spec {l : List Sp} {lv : Value} {f need : Int} (hs : Sl m 2 l.length (l.flatMap spV) lv) (hb : SlLt m lv) (hc : Cut 2 m lv) : WC R F.law41_ShedLeast [.int .i64 f, .int .i64 need, lv] m fun r m' => r = .bool true := by
  refine WC.of R.law41_ShedLeast rfl ?_
  have l64 : (l.take 64).length ≤ 64 := by rw [List.length_take]; omega
  obtain ⟨v', a1, a2, a3⟩ := cut64 hs hb hc
  simp only [RC.law41_ShedLeast, go_sem, hs.len, a1]
  refine gC.of (Choose_spec a2 a3 (by omega)) ?_
  rintro _ m1 ⟨⟨a, n0, e0⟩, hch, rfl⟩
  obtain ⟨hx1, ⟨rfl, he⟩ | ⟨rfl, hk, h0, hn, L, p, s, hSh, hP, hO⟩⟩ := chP_cases hch
  · have e1 : (e0 != 0) = true := by rw [bne_iff_ne]; exact he
    have ln0 : aLen (.slice none 0 0) = some (.int .i64 0) := rfl
    have w00 : ((0 : Int) == 0) = true := rfl
    try simp only [go_sem, ruB, aExt0, aExt1, e1, ln0, w00]
    refine gC.of (ok_spec R.law41_awake) ?_
    rintro _ m_ ⟨rfl, hm_⟩
    replace hm_ := hm_.symm
    subst hm_
    simp only [go_sem]
    try simp only [go_sem, ruB]
  have hs1 := hs.keep hb hx1
  have hb1 := hb.keep hx1
  obtain ⟨v2, c1, c2, c3⟩ := cut64 hs1 hb1 (hc.keep hb hx1)
  have w01 : ((0 : Int) != 0) = false := rfl
  have pk := pick_of hSh hP
  generalize rowM L p (l.take 64) = w at pk
  have hsm := hk.small
  generalize l.take 64 = l' at *
  simp only at hO
  have hlen := hO.sl.len
  try simp only [go_sem, ruB, aExt0, aExt1, w01, hs1.len, c1]
  refine gC.of (chosen_spec c2 c3 hO.sl hO.lt (by omega) (by have := pk.b; omega)) ?_
  rintro wv m2 ⟨hW, hx2⟩
  rw [pk.c] at hW
  have hO2 := hO.keep hx2
  have pn := pk.n
  have pb := pk.b
  have hwm : ∀ x ∈ w, 0 ≤ x.2 ∧ x.2 ≤ 64 := fun x hx => by
    rw [← pk.c] at hx
    unfold chL chX at hx
    obtain ⟨y, hy, hxy⟩ := List.mem_flatMap.1 hx
    obtain ⟨_, -, rfl⟩ := List.mem_map.1 hxy
    exact hsm.2 _ hy
  have hws : Smal w := ⟨by omega, hwm⟩
  have hsb := sumC_b hwm
  try simp only [go_sem, ruB]
  refine gC.of (Sum_spec hW.sl hws) ?_
  rintro _ m_ ⟨rfl, hm_⟩
  replace hm_ := hm_.symm
  subst hm_
  simp only [go_sem]
  rw [pk.sm]
  have q1 : ((((w.length : Nat) : Int)) != (((outU L p).length : Nat) : Int)) = false := by rw [bne_eq_false_iff_eq, pn]
  have q2 : decide (((s : Nat) : Int) < need) = false := decide_eq_false (by have := pk.ge; omega)
  have psm := pk.sm
  by_cases g0 : need = 0
  · have e1 : (need == 0) = true := by rw [beq_iff_eq]; exact g0
    have hz := pk.z (by omega)
    have q3 : decide ((0 : Int) < ((w.length : Nat) : Int)) = false := decide_eq_false (by rw [hz]; simp)
    try simp only [go_sem, ruB, hW.sl.len, hO2.sl.len, q1, q2, e1, q3]
    refine WL.mono (Least_loop hW.sl (by omega) (by omega) hwm pk.le) ?_
    rintro _ _ m3 rfl
    try simp only [go_sem, ruB]
    refine gC.of (ok_spec R.law41_awake) ?_
    rintro _ m_ ⟨rfl, hm_⟩
    replace hm_ := hm_.symm
    subst hm_
    simp only [go_sem]
    try simp only [go_sem, ruB]
  · have e1 : (need == 0) = false := by rw [beq_eq_false_iff_ne]; exact g0
    try simp only [go_sem, ruB, hW.sl.len, hO2.sl.len, q1, q2, e1]
    refine WL.mono (Least_loop hW.sl (by omega) (by omega) hwm pk.le) ?_
    rintro _ _ m3 rfl
    try simp only [go_sem, ruB]
    refine gC.of (ok_spec R.law41_awake) ?_
    rintro _ m_ ⟨rfl, hm_⟩
    replace hm_ := hm_.symm
    subst hm_
    simp only [go_sem]
    try simp only [go_sem, ruB]

/-- What Core tells: who must go. -/
theorem Core_spec {l : List Sp} {v : Value} {f co : Int} (hs : Sl m 2 l.length (l.flatMap spV) v) (hb : SlLt m v) (hl : l.length < 100000) :
    WC R F.shed_Core [.int .i64 f, .int .i64 co, v] m fun r m' => Ext m m' ∧ ((chkS f l ≠ 0 ∧ r = .tuple #[.slice none 0 0, .int .i64 (chkS f l)]) ∨ (chkS f l = 0 ∧ (co < 1 ∨ 16 < co) ∧ r = .tuple #[.slice none 0 0, .int .i64 1]) ∨ (chkS f l = 0 ∧ co = 1 ∧ r = .tuple #[.slice none 0 0, .int .i64 17]) ∨
      (chkS f l = 0 ∧ 2 ≤ co ∧ co ≤ 16 ∧ ∃ (L : List Sp) (p : Nat → Bool) (s : Nat) (ov : Value), ShOk L l ∧ PChoice L (max 0 (sumC l - (co - 1) * f)) p s ∧ Own m m' 1 (outU L p).length (intsZ (outU L p)) ov ∧ r = .tuple #[ov, .int .i64 0])) := by
  refine WC.of R.shed_Core rfl ?_
  simp only [RC.shed_Core, go_sem]
  refine gC.of (Check_spec hs hb hl) ?_
  rintro _ m1 ⟨rfl, hx1⟩
  by_cases g0 : chkS f l = 0
  rotate_left
  · have e : (chkS f l != 0) = true := by rw [bne_iff_ne]; exact g0
    try simp only [go_sem, ruB, e]
    exact ⟨hx1, .inl g0⟩
  have e : (chkS f l != 0) = false := by rw [bne_eq_false_iff_eq]; exact g0
  have hk := chkS_ok g0
  have hs1 := hs.keep hb hx1
  have hb1 := hb.keep hx1
  obtain ⟨t1, t2, t3⟩ := hk.tot
  by_cases g1 : co < 1
  · try simp only [go_sem, ruB, e, decide_eq_true g1]
    exact ⟨hx1, .inr (.inl ⟨g0, .inl g1⟩)⟩
  by_cases g2 : 16 < co
  · try simp only [go_sem, ruB, e, decide_eq_false g1, decide_eq_true g2]
    exact ⟨hx1, .inr (.inl ⟨g0, .inr g2⟩)⟩
  by_cases g3 : co = 1
  · have e3 : (co == 1) = true := by rw [beq_iff_eq]; exact g3
    try simp only [go_sem, ruB, e, decide_eq_false g1, decide_eq_false g2, e3]
    exact ⟨hx1, .inr (.inr (.inl ⟨g0, g3⟩))⟩
  have e3 : (co == 1) = false := by rw [beq_eq_false_iff_ne]; exact g3
  try simp only [go_sem, ruB, e, decide_eq_false g1, decide_eq_false g2, e3]
  refine gC.of (orTotal hs1 hb1 hl (fun w hw => by have := hk.b w hw; unfold inR; omega)) ?_
  rintro _ m2 ⟨⟨n, hn, rfl⟩ | ⟨hn, rfl⟩, hx2⟩
  rotate_left
  · rw [t1] at hn; cases hn
  rw [t1] at hn
  cases hn
  have hs2 := hs1.keep hb1 hx2
  have hb2 := hb1.keep hx2
  have hfr := hk.fr
  have hmb : 0 ≤ (co - 1) * f ∧ (co - 1) * f ≤ 15 * 64 := ⟨Int.mul_nonneg (by omega) (by omega), Int.mul_le_mul (by omega) (by omega) (by omega) (by omega)⟩
  have w1 : IntKind.wrap .i64 (co - 1) = co - 1 := wrap_i64 (by omega) (by omega)
  have w2 : IntKind.wrap .i64 ((co - 1) * f) = (co - 1) * f := wrap_i64 (by omega) (by omega)
  have w3 : IntKind.wrap .i64 (sumC l - (co - 1) * f) = sumC l - (co - 1) * f := wrap_i64 (by omega) (by omega)
  try simp only [go_sem, ruB, aExt0, aExt1, w1, w2, w3]
  have wm : (if 0 < sumC l - (co - 1) * f then sumC l - (co - 1) * f else 0) = max 0 (sumC l - (co - 1) * f) := by split <;> omega
  rw [wm]
  refine gC.of (Choose_spec hs2 hb2 hl) ?_
  rintro _ m3 ⟨⟨a, n0, e0⟩, hch, rfl⟩
  obtain ⟨hx3, h | ⟨h0, -, -, -, L, p, s, hSh, hP, hO⟩⟩ := chP_cases hch
  · exfalso
    obtain ⟨-, h' | h' | h' | h'⟩ := hch
    · exact h'.1 g0
    · have := h'.2.1; omega
    · have := h'.2.2.1; omega
    · obtain ⟨-, -, -, L, p, s, ov, -, -, -, hr⟩ := h'
      exact h.2 (tup3 hr).2.2
  simp only at h0 hO
  subst h0
  try simp only [go_sem, ruB, aExt0, aExt1]
  exact ⟨(hx1.trans hx2).trans hx3, .inr (.inr (.inr ⟨g0, by omega, by omega, L, p, s, a, hSh, hP, hO.weak (hx1.trans hx2), rfl⟩))⟩

set_option maxHeartbeats 4000000 in
theorem ShedCores_spec {l : List Sp} {lv : Value} {f co : Int} (hs : Sl m 2 l.length (l.flatMap spV) lv) (hb : SlLt m lv) : WC R F.law41_ShedCores [.int .i64 f, .int .i64 co, lv] m fun r m' => r = .bool true := by
  refine WC.of R.law41_ShedCores rfl ?_
  simp only [RC.law41_ShedCores, go_sem, hs.len]
  by_cases g80 : 80 < l.length
  · have e1 : decide ((80 : Int) < ((l.length : Nat) : Int)) = true := decide_eq_true (by omega)
    try simp only [go_sem, ruB, e1]
    refine gC.of (ok_spec R.law41_awake) ?_
    rintro _ m_ ⟨rfl, hm_⟩
    replace hm_ := hm_.symm
    subst hm_
    simp only [go_sem]
    try simp only [go_sem, ruB]
  have e1 : decide ((80 : Int) < ((l.length : Nat) : Int)) = false := decide_eq_false (by omega)
  try simp only [go_sem, ruB, e1]
  have ln0 : aLen (.slice none 0 0) = some (.int .i64 0) := rfl
  have w00 : ((0 : Int) == 0) = true := rfl
  have w01 : ((0 : Int) != 0) = false := rfl
  refine gC.of (Core_spec hs hb (by omega)) ?_
  rintro _ m1 ⟨hx1, ⟨h1, rfl⟩ | ⟨h1, h2, rfl⟩ | ⟨h1, h2, rfl⟩ | ⟨h1, h2, h3, L, p, s, ov, h4, h5, h6, rfl⟩⟩
  · have hs1 := hs.keep hb hx1
    have z1 : (chkS f l == 0) = false := by rw [beq_eq_false_iff_ne]; exact h1
    have z2 : (chkS f l != 0) = true := by rw [bne_iff_ne]; exact h1
    have z3 : (chkS f l == chkS f l) = true := by rw [beq_iff_eq]
    try simp only [go_sem, ruB, aExt0, aExt1]
    refine gC.of (Why_spec hs1 (by omega)) ?_
    rintro _ m_ ⟨rfl, hm_⟩
    replace hm_ := hm_.symm
    subst hm_
    simp only [go_sem]
    try simp only [go_sem, ruB, z1, z2, z3, ln0, w00]
    refine gC.of (ok_spec R.law41_awake) ?_
    rintro _ m_ ⟨rfl, hm_⟩
    replace hm_ := hm_.symm
    subst hm_
    simp only [go_sem]
    try simp only [go_sem, ruB]
  · have hs1 := hs.keep hb hx1
    have y2 : ((1 : Int) == 0) = false := rfl
    have y3 : ((1 : Int) == 1) = true := rfl
    have y4 : ((1 : Int) != 0) = true := rfl
    try simp only [go_sem, ruB, aExt0, aExt1]
    refine gC.of (Why_spec hs1 (by omega)) ?_
    rintro _ m_ ⟨rfl, hm_⟩
    replace hm_ := hm_.symm
    subst hm_
    simp only [go_sem]
    rw [h1]
    by_cases c1 : co < 1
    · try simp only [go_sem, ruB, decide_eq_true c1, w00, y2, y3, y4, ln0]
      refine gC.of (ok_spec R.law41_awake) ?_
      rintro _ m_ ⟨rfl, hm_⟩
      replace hm_ := hm_.symm
      subst hm_
      simp only [go_sem]
      try simp only [go_sem, ruB]
    · try simp only [go_sem, ruB, decide_eq_false c1, decide_eq_true (show 16 < co by omega), w00, y2, y3, y4, ln0]
      refine gC.of (ok_spec R.law41_awake) ?_
      rintro _ m_ ⟨rfl, hm_⟩
      replace hm_ := hm_.symm
      subst hm_
      simp only [go_sem]
      try simp only [go_sem, ruB]
  · have hs1 := hs.keep hb hx1
    have y2 : ((17 : Int) == 0) = false := rfl
    have y3 : ((17 : Int) == 17) = true := rfl
    have y4 : ((17 : Int) != 0) = true := rfl
    have y5 : (co == 1) = true := by rw [beq_iff_eq]; exact h2
    try simp only [go_sem, ruB, aExt0, aExt1]
    refine gC.of (Why_spec hs1 (by omega)) ?_
    rintro _ m_ ⟨rfl, hm_⟩
    replace hm_ := hm_.symm
    subst hm_
    simp only [go_sem]
    rw [h1]
    try simp only [go_sem, ruB, decide_eq_false (show ¬ co < 1 by omega), decide_eq_false (show ¬ 16 < co by omega), w00, y2, y3, y4, y5, ln0]
    refine gC.of (ok_spec R.law41_awake) ?_
    rintro _ m_ ⟨rfl, hm_⟩
    replace hm_ := hm_.symm
    subst hm_
    simp only [go_sem]
    try simp only [go_sem, ruB]
  · have hs1 := hs.keep hb hx1
    have hb1 := hb.keep hx1
    have hk := chkS_ok h1
    have y5 : (co == 1) = false := by rw [beq_eq_false_iff_ne]; omega
    have hfr := hk.fr
    obtain ⟨t1, t2, t3⟩ := hk.tot
    have hmb : 0 ≤ (co - 1) * f ∧ (co - 1) * f ≤ 15 * 64 := ⟨Int.mul_nonneg (by omega) (by omega), Int.mul_le_mul (by omega) (by omega) (by omega) (by omega)⟩
    have w1 : IntKind.wrap .i64 (co - 1) = co - 1 := wrap_i64 (by omega) (by omega)
    have w2 : IntKind.wrap .i64 ((co - 1) * f) = (co - 1) * f := wrap_i64 (by omega) (by omega)
    have w3 : IntKind.wrap .i64 (sumC l - (co - 1) * f) = sumC l - (co - 1) * f := wrap_i64 (by omega) (by omega)
    have wm : (if 0 < sumC l - (co - 1) * f then sumC l - (co - 1) * f else 0) = max 0 (sumC l - (co - 1) * f) := by split <;> omega
    try simp only [go_sem, ruB, aExt0, aExt1]
    refine gC.of (Why_spec hs1 (by omega)) ?_
    rintro _ m_ ⟨rfl, hm_⟩
    replace hm_ := hm_.symm
    subst hm_
    simp only [go_sem]
    rw [h1]
    try simp only [go_sem, ruB, decide_eq_false (show ¬ co < 1 by omega), decide_eq_false (show ¬ 16 < co by omega), w00, w01, y5]
    refine gC.of (Sum_spec hs1 hk.small) ?_
    rintro _ m_ ⟨rfl, hm_⟩
    replace hm_ := hm_.symm
    subst hm_
    simp only [go_sem]
    try simp only [go_sem, ruB, w1, w2, w3, wm]
    refine gC.of (Choose_spec hs1 hb1 (by omega)) ?_
    rintro _ m2 ⟨⟨b, n0, e0⟩, hch, rfl⟩
    obtain ⟨hx2, h | ⟨h0, -, -, hle, L', p', s', hSh, hP, hO⟩⟩ := chP_cases hch
    · exfalso
      obtain ⟨-, h' | h' | h' | h'⟩ := hch
      · exact h'.1 h1
      · have := h'.2.1; omega
      · have := h'.2.2.1; omega
      · obtain ⟨-, -, -, L, p, s, ov, -, -, -, hr⟩ := h'
        exact h.2 (tup3 hr).2.2
    simp only at h0 hO
    subst h0
    have hs2 := hs1.keep hb1 hx2
    have hb2 := hb1.keep hx2
    have o2 := h6.keep hx2
    have hsame := pick_same h4 h5 hSh hP hle
    have pk := pick_of h4 h5
    have pb := pk.b
    generalize rowM L p l = w at pk
    try simp only [go_sem, ruB, aExt0, aExt1]
    refine gC.of (chosen_spec hs2 hb2 o2.sl o2.lt (by have := hk.n; omega) (by omega)) ?_
    rintro wv m3 ⟨hW, hx3⟩
    rw [pk.c] at hW
    have pn := pk.n
    have hwm : ∀ x ∈ w, 0 ≤ x.2 ∧ x.2 ≤ 64 := fun x hx => by
      rw [← pk.c] at hx
      unfold chL chX at hx
      obtain ⟨y, hy, hxy⟩ := List.mem_flatMap.1 hx
      obtain ⟨_, -, rfl⟩ := List.mem_map.1 hxy
      exact hk.small.2 _ hy
    have hws : Smal w := ⟨by omega, hwm⟩
    have hsb := sumC_b hwm
    have o3 := o2.keep hx3
    have q3 := hO.keep hx3
    have psm := pk.sm
    have pge := pk.ge
    try simp only [go_sem, ruB]
    refine gC.of (Sum_spec hW.sl hws) ?_
    rintro _ m_ ⟨rfl, hm_⟩
    replace hm_ := hm_.symm
    subst hm_
    simp only [go_sem]
    rw [pk.sm]
    have w4 : IntKind.wrap .i64 (sumC l - ((s : Nat) : Int)) = sumC l - ((s : Nat) : Int) := wrap_i64 (by omega) (by omega)
    rw [← hsame] at q3
    try simp only [go_sem, ruB, w4, w00]
    refine gC.of (ref03_Same_spec o3.sl q3.sl (by omega) (by omega)) ?_
    rintro _ m_ ⟨rfl, hm_⟩
    replace hm_ := hm_.symm
    subst hm_
    simp only [go_sem]
    have sm : decide (outU L p = outU L p) = true := decide_eq_true rfl
    have d1 : decide (sumC l - ((s : Nat) : Int) ≤ (co - 1) * f) = true := decide_eq_true (by omega)
    have d2 : (decide ((0 : Int) < (((outU L p).length : Nat) : Int)) == decide ((co - 1) * f < sumC l)) = true := by
      rw [beq_iff_eq, decide_eq_decide]
      by_cases g : (co - 1) * f < sumC l
      · have := pk.p (by omega); omega
      · have := pk.z (by omega)
        rw [this] at pn
        simp at pn
        omega
    try simp only [go_sem, ruB, sm, w1, w2, w4, d1, o3.sl.len, d2]
    refine gC.of (ok_spec R.law41_awake) ?_
    rintro _ m_ ⟨rfl, hm_⟩
    replace hm_ := hm_.symm
    subst hm_
    simp only [go_sem]
    try simp only [go_sem, ruB]
end Go.Am


/- ShedLeast, of arguments as they are read. -/
set_option linter.unusedVariables false
namespace Go.Am
theorem law41_ShedLeast_walk (m : Mem) (us : List Value) (h : RdAs m [(false, [.int .i64]), (false, [.int .i64]), (false, [.sl [.int .i64, .int .i64]])] us) : WC R F.law41_ShedLeast us m fun v _ => v = .bool true := by
  obtain ⟨_, _, rfl, h1, h⟩ := h.one; obtain ⟨_, _, rfl, h2, h⟩ := h.one; obtain ⟨_, _, rfl, h3, h⟩ := h.one; cases h.none
  obtain ⟨l, hl, hb, hc⟩ := sp_read h3.rd
  obtain ⟨f, rfl, -⟩ := h1.rd.i64; obtain ⟨n, rfl, -⟩ := h2.rd.i64
  exact ShedLeast_spec hl hb hc
end Go.Am


/- ShedCores, of arguments as they are read. -/
set_option linter.unusedVariables false
namespace Go.Am
theorem law41_ShedCores_walk (m : Mem) (us : List Value) (h : RdAs m [(false, [.int .i64]), (false, [.int .i64]), (false, [.sl [.int .i64, .int .i64]])] us) : WC R F.law41_ShedCores us m fun v _ => v = .bool true := by
  obtain ⟨_, _, rfl, h1, h⟩ := h.one; obtain ⟨_, _, rfl, h2, h⟩ := h.one; obtain ⟨_, _, rfl, h3, h⟩ := h.one; cases h.none
  obtain ⟨l, hl, hb, -⟩ := sp_read h3.rd
  obtain ⟨f, rfl, -⟩ := h1.rd.i64; obtain ⟨n, rfl, -⟩ := h2.rd.i64
  exact ShedCores_spec hl hb
end Go.Am
