/- Parts of the proofs of the statements of this seat: StagezPlanX1, StagezPlanX2, StagezPlanX3, StagezPlanX4, AmSl3, StagezPlanX5, StagezPlanM3, StagezPlanY1, StagezPlanY2, StagezSlcPlanPl, AmIns, AmIns2, AmCut, AmOwnQ, StagezPlanZ1, StagezPlanZ2, StagezPlanZ3, StagezPlanZ4, AmMap, StagezS1, StagezS2, StagezS3, StagezS4, StagezS5. No conditions. -/
import Derived.Test.YtpmibdpnhbbblaaGreatStagePlaysPart4
import Derived.Test.YtpmibdpnhbbblaaGreatStagePlaysPart5
import Derived.Test.YtpmibdpnhbbblaaGreatStagePlaysPart3
import Derived.Laws.IdiomCopy
set_option linter.unusedVariables false
set_option linter.unusedSimpArgs false

/- PlanX1 over the table of stagez (relayset.py). -/
set_option linter.unusedVariables false
set_option linter.unusedSimpArgs false
namespace Go.Am
open Classical
variable {m : Mem}

def orW (l : List Pc) : BitVec 64 := l.foldl (fun a y => a ||| y.2) 0#64
theorem orW_succ {l : List Pc} {i : Nat} (h : i < l.length) : orW (l.take (i + 1)) = orW (l.take i) ||| l[i].2 := foldl_take h
def pcIn (p : PlanD) (ps : List Pc) (i : Nat) : Prop := ∃ h : i < ps.length, (ps[i].2 &&& ~~~ allB (fr p.frame).toNat) = 0#64 ∧ (ps[i].2 &&& orW (ps.take i)) = 0#64
def pcsP (p : PlanD) (x : Pl) : Prop := (∀ i, i < x.pieces.length → pcOk p x.pieces i ∧ pcIn p x.pieces i) ∧ 1 < x.pieces.length ∧ x.core = 0 ∧ (pop (orW x.pieces) : Int) = x.share

theorem PcV.prev {m : Mem} {l : List Pc} {v : Value} (h : PcV m l v) {i : Nat} (hi : i < l.length) : ∃ b o, aIdxS 2 v (.int .i64 i) = some (.pointer (some ⟨b, o, none⟩)) ∧ ∀ m', Ext m m' → aLoad false 1 m' (.pointer (some ⟨b, o, none⟩)) = some (.int .i64 l[i].1) := by
  obtain ⟨b, o, a1, a2, a3, a4⟩ := h.elem hi
  refine ⟨b, o, a1, fun m' hm => ?_⟩
  obtain ⟨b', o', c1, c2, c3, c4⟩ := (h.keep hm).elem hi
  rw [a1] at c1; cases c1
  have := c3 0 (by omega)
  simpa [pcV] using this

set_option maxHeartbeats 4000000 in
theorem pieces_spec {p : PlanD} {x : Pl} {v w : Value} (hv : PlanV m p v) (hw : PlV m x w) (hl : x.pieces.length < 1000000) : WC R F.plan_pieces [v, w] m fun r m' => r = .bool (decide (pcsP p x)) ∧ Ext m m' := by
  refine WC.of R.plan_pieces rfl ?_
  obtain ⟨pv, rfl, hp⟩ := hv
  obtain ⟨qv, rfl, hq⟩ := hw
  simp only [RC.plan_pieces, planV, plV, go_sem, hp.one, hq.one]
  have hx : Ext m (m.new (.cells [.int .i64 p.frame, u32 p.cores, pv] (some 3))) := Ext.new
  have hb : Bk (m.new (.cells [.int .i64 p.frame, u32 p.cores, pv] (some 3))) m.next [.int .i64 p.frame, u32 p.cores, pv] 3 := Bk.new
  generalize m.new (.cells [.int .i64 p.frame, u32 p.cores, pv] (some 3)) = m1 at hx hb ⊢
  have hx2 : Ext m1 (m1.new (.cells [.int .i64 x.unit, .int .i64 x.share, .int .i64 x.core, qv] (some 4))) := Ext.new
  have hb2 : Bk (m1.new (.cells [.int .i64 x.unit, .int .i64 x.share, .int .i64 x.core, qv] (some 4))) m1.next [.int .i64 x.unit, .int .i64 x.share, .int .i64 x.core, qv] 4 := Bk.new
  generalize m1.new (.cells [.int .i64 x.unit, .int .i64 x.share, .int .i64 x.core, qv] (some 4)) = m2 at hx2 hb2 ⊢
  have hb := hb.keep hx2
  have hp := (hp.keep hx).keep hx2
  have hq := (hq.keep hx).keep hx2
  try simp only [go_sem, ruB, hb2.at_, hq.len]
  refine WL.of (fun n e m' => ∃ i : Nat, i ≤ x.pieces.length ∧ n = x.pieces.length - i ∧ e = [(2, pt m.next), (3, pt m1.next), (5, u64 (orW (x.pieces.take i))), (9, qv), (10, .int .i64 x.pieces.length), (11, .int .i64 i)] ∧ (∀ j, j < i → pcOk p x.pieces j ∧ pcIn p x.pieces j) ∧ Ext m2 m') x.pieces.length
    ⟨0, by omega, by omega, by simp only [go_sem] <;> rfl, fun j hj => by omega, Ext.refl _⟩ ?_
  rintro _ _ m3 ⟨i, hi, rfl, rfl, hall, hx3⟩
  have hq3 := hq.keep hx3
  have hb3 := hb2.keep hx3
  have hc3 := hb.keep hx3
  simp only [RB.plan_pieces_1, pt, go_sem]
  refine gT.of (fun h4' => ?_) (fun h4' => ?_) <;> (have h4 := h4'; try simp only [decide_eq_true_eq, decide_eq_false_iff_not, beq_iff_eq, bne_iff_ne, beq_eq_false_iff_ne, ne_eq, Bool.not_eq_true', Bool.not_eq_false', bne_eq_false_iff_eq, Int.not_lt, Int.not_le] at h4)
  · have hil : i < x.pieces.length := by omega
    obtain ⟨b, o, a1, a2, a3, a4⟩ := hq3.elem hil
    have bad : ¬ (pcOk p x.pieces i ∧ pcIn p x.pieces i) → ¬ pcsP p x := fun h h2 => h (h2.1 i hil)
    have hdef : pcOk p x.pieces i ↔ (hasC p x.pieces[i].1 = true ∧ (∀ h : 0 < i, (x.pieces[i - 1]'(by omega)).1 < x.pieces[i].1) ∧ x.pieces[i].2 ≠ 0#64) := ⟨fun ⟨_, h⟩ => h, fun h => ⟨hil, h⟩⟩
    have hdef2 : pcIn p x.pieces i ↔ ((x.pieces[i].2 &&& ~~~ allB (fr p.frame).toNat) = 0#64 ∧ (x.pieces[i].2 &&& orW (x.pieces.take i)) = 0#64) := ⟨fun ⟨_, h⟩ => h, fun h => ⟨hil, h⟩⟩
    have hprev : ∀ h : 0 < i, ∃ b' o', aIdxS 2 qv (.int .i64 (i - 1 : Nat)) = some (.pointer (some ⟨b', o', none⟩)) ∧ ∀ m', Ext m3 m' → aLoad false 1 m' (.pointer (some ⟨b', o', none⟩)) = some (.int .i64 (x.pieces[i - 1]'(by omega)).1) := fun h => hq3.prev (by omega)
    have hor := orW_succ hil
    generalize hy : x.pieces[i] = y at *
    simp only [pcV] at a2
    try simp only [go_sem, ruB, hb3.at_, hc3.at_, hb3.ne, hc3.ne, a1, a2]
    have hx4 : Ext m3 (m3.new (.cells [.int .i64 y.1, u64 y.2] (some 2))) := Ext.new
    have hb4 : Bk (m3.new (.cells [.int .i64 y.1, u64 y.2] (some 2))) m3.next [.int .i64 y.1, u64 y.2] 2 := Bk.new
    generalize m3.new (.cells [.int .i64 y.1, u64 y.2] (some 2)) = m4 at hx4 hb4 ⊢
    have hb5 := hb3.keep hx4
    have hc5 := hc3.keep hx4
    try simp only [go_sem, ruB, hb4.at_, hb5.at_, hc5.at_]
    refine gC.of (has_spec (p := p) ⟨pv, rfl, (hp.keep hx3).keep hx4⟩) ?_
    rintro _ m5 ⟨rfl, hx5⟩
    simp only [go_sem]
    have hb6 := hb5.keep hx5
    have hb7 := hb4.keep hx5
    have hc7 := hc5.keep hx5
    have hxx : Ext m2 m5 := hx3.trans (hx4.trans hx5)
    have hX : Ext m m5 := hx.trans (hx2.trans hxx)
    have fin2 : pcOk p x.pieces i → pcIn p x.pieces i → ∀ j, j < i + 1 → pcOk p x.pieces j ∧ pcIn p x.pieces j := by
      intro q1 q2 j hj
      by_cases e : j = i
      · subst e; exact ⟨q1, q2⟩
      · exact hall j (by omega)
    have s1 := step1 (show i < 1000000 by omega)
    have key : pcOk p x.pieces i → gT (decide (y.2 &&& ~~~ allB (fr p.frame).toNat ≠ 0#64)) False False → True := fun _ _ => trivial
    try simp only [go_sem, ruB, hb6.at_, hb7.at_, hb4.at_, hb5.at_]
    refine gT.of (fun h5' => ?_) (fun h5' => ?_) <;> (have h5 := h5'; try simp only [decide_eq_true_eq, decide_eq_false_iff_not, beq_iff_eq, bne_iff_ne, beq_eq_false_iff_ne, ne_eq, Bool.not_eq_true', Bool.not_eq_false', bne_eq_false_iff_eq, Int.not_lt, Int.not_le] at h5)
    · try simp only [go_sem, ruB, h5', hb6.at_, hb7.at_]
      exact ⟨fin_no (bad fun h => by rw [hdef] at h; simp [h.1.1] at h5), hX⟩
    · have g5 : hasC p y.1 = true := by simpa using h5'
      try simp only [go_sem, ruB, h5', g5, hb6.at_, hb7.at_]
      refine gT.of (fun h6' => ?_) (fun h6' => ?_) <;> (have h6 := h6'; try simp only [decide_eq_true_eq, decide_eq_false_iff_not, beq_iff_eq, bne_iff_ne, beq_eq_false_iff_ne, ne_eq, Bool.not_eq_true', Bool.not_eq_false', bne_eq_false_iff_eq, Int.not_lt, Int.not_le] at h6)
      · obtain ⟨b', o', c1, c2⟩ := hprev (by omega)
        have c3 := c2 m5 (hx4.trans hx5)
        try simp only [go_sem, ruB, h6', hb6.at_, hb7.at_, sub1 (show 0 < i by omega) (show i < 1000000 by omega), c1, c3]
        refine gT.of (fun h7' => ?_) (fun h7' => ?_) <;> (have h7 := h7'; try simp only [decide_eq_true_eq, decide_eq_false_iff_not, beq_iff_eq, bne_iff_ne, beq_eq_false_iff_ne, ne_eq, Bool.not_eq_true', Bool.not_eq_false', bne_eq_false_iff_eq, Int.not_lt, Int.not_le] at h7)
        · try simp only [go_sem, ruB, h7']
          exact ⟨fin_no (bad fun h => by rw [hdef] at h; have := h.1.2.1 (by omega); omega), hX⟩
        · try simp only [go_sem, ruB, h7', hb7.at_]
          refine gT.of (fun h8' => ?_) (fun h8' => ?_) <;> (have h8 := h8'; try simp only [decide_eq_true_eq, decide_eq_false_iff_not, beq_iff_eq, bne_iff_ne, beq_eq_false_iff_ne, ne_eq, Bool.not_eq_true', Bool.not_eq_false', bne_eq_false_iff_eq, Int.not_lt, Int.not_le] at h8)
          · try simp only [go_sem, ruB, h8']
            exact ⟨fin_no (bad fun h => by rw [hdef] at h; exact h.1.2.2 h8), hX⟩
          · have gok : pcOk p x.pieces i := hdef.2 ⟨g5, fun h => by omega, h8⟩
            try simp only [go_sem, ruB, h8', hb7.at_, hc7.at_]
            refine gC.of mask_All_spec ?_
            rintro _ m_ ⟨rfl, hm_⟩
            replace hm_ := hm_.symm
            subst hm_
            simp only [go_sem]
            try simp only [go_sem, ruB, hb7.at_, hc7.at_]
            refine gT.of (fun h9' => ?_) (fun h9' => ?_) <;> (have h9 := h9'; try simp only [decide_eq_true_eq, decide_eq_false_iff_not, beq_iff_eq, bne_iff_ne, beq_eq_false_iff_ne, ne_eq, Bool.not_eq_true', Bool.not_eq_false', bne_eq_false_iff_eq, Int.not_lt, Int.not_le] at h9)
            · try simp only [go_sem, ruB, h9']
              exact ⟨fin_no (bad fun h => by rw [hdef2] at h; exact h9 h.2.1), hX⟩
            · try simp only [go_sem, ruB, h9', hb7.at_]
              refine gT.of (fun h10' => ?_) (fun h10' => ?_) <;> (have h10 := h10'; try simp only [decide_eq_true_eq, decide_eq_false_iff_not, beq_iff_eq, bne_iff_ne, beq_eq_false_iff_ne, ne_eq, Bool.not_eq_true', Bool.not_eq_false', bne_eq_false_iff_eq, Int.not_lt, Int.not_le] at h10)
              · try simp only [go_sem, ruB, h10']
                exact ⟨fin_no (bad fun h => by rw [hdef2] at h; exact h10 h.2.2), hX⟩
              · try simp only [go_sem, ruB, h10', hb7.at_, s1]
                refine ⟨x.pieces.length - (i + 1), by omega, i + 1, by omega, rfl, by rw [hor], fin2 gok (hdef2.2 ⟨Decidable.not_not.1 h9, Decidable.not_not.1 h10⟩), hxx⟩
      · try simp only [go_sem, ruB, h6', hb7.at_]
        refine gT.of (fun h8' => ?_) (fun h8' => ?_) <;> (have h8 := h8'; try simp only [decide_eq_true_eq, decide_eq_false_iff_not, beq_iff_eq, bne_iff_ne, beq_eq_false_iff_ne, ne_eq, Bool.not_eq_true', Bool.not_eq_false', bne_eq_false_iff_eq, Int.not_lt, Int.not_le] at h8)
        · try simp only [go_sem, ruB, h8']
          exact ⟨fin_no (bad fun h => by rw [hdef] at h; exact h.1.2.2 h8), hX⟩
        · have gok : pcOk p x.pieces i := hdef.2 ⟨g5, fun h => by omega, h8⟩
          try simp only [go_sem, ruB, h8', hb7.at_, hc7.at_]
          refine gC.of mask_All_spec ?_
          rintro _ m_ ⟨rfl, hm_⟩
          replace hm_ := hm_.symm
          subst hm_
          simp only [go_sem]
          try simp only [go_sem, ruB, hb7.at_, hc7.at_]
          refine gT.of (fun h9' => ?_) (fun h9' => ?_) <;> (have h9 := h9'; try simp only [decide_eq_true_eq, decide_eq_false_iff_not, beq_iff_eq, bne_iff_ne, beq_eq_false_iff_ne, ne_eq, Bool.not_eq_true', Bool.not_eq_false', bne_eq_false_iff_eq, Int.not_lt, Int.not_le] at h9)
          · try simp only [go_sem, ruB, h9']
            exact ⟨fin_no (bad fun h => by rw [hdef2] at h; exact h9 h.2.1), hX⟩
          · try simp only [go_sem, ruB, h9', hb7.at_]
            refine gT.of (fun h10' => ?_) (fun h10' => ?_) <;> (have h10 := h10'; try simp only [decide_eq_true_eq, decide_eq_false_iff_not, beq_iff_eq, bne_iff_ne, beq_eq_false_iff_ne, ne_eq, Bool.not_eq_true', Bool.not_eq_false', bne_eq_false_iff_eq, Int.not_lt, Int.not_le] at h10)
            · try simp only [go_sem, ruB, h10']
              exact ⟨fin_no (bad fun h => by rw [hdef2] at h; exact h10 h.2.2), hX⟩
            · try simp only [go_sem, ruB, h10', hb7.at_, s1]
              refine ⟨x.pieces.length - (i + 1), by omega, i + 1, by omega, rfl, by rw [hor], fin2 gok (hdef2.2 ⟨Decidable.not_not.1 h9, Decidable.not_not.1 h10⟩), hxx⟩
  · have hil : i = x.pieces.length := by omega
    have pcs : ∀ j, j < x.pieces.length → pcOk p x.pieces j ∧ pcIn p x.pieces j := fun j hj => hall j (by omega)
    have hX : Ext m m3 := hx.trans (hx2.trans hx3)
    rw [List.take_of_length_le (show x.pieces.length ≤ i by omega)]
    try simp only [go_sem, ruB, h4', hb3.at_, hq3.len]
    refine gT.of (fun h6' => ?_) (fun h6' => ?_) <;> (have h6 := h6'; try simp only [decide_eq_true_eq, decide_eq_false_iff_not, beq_iff_eq, bne_iff_ne, beq_eq_false_iff_ne, ne_eq, Bool.not_eq_true', Bool.not_eq_false', bne_eq_false_iff_eq, Int.not_lt, Int.not_le] at h6)
    · try simp only [go_sem, ruB, h6', hb3.at_]
      refine gT.of (fun h7' => ?_) (fun h7' => ?_) <;> (have h7 := h7'; try simp only [decide_eq_true_eq, decide_eq_false_iff_not, beq_iff_eq, bne_iff_ne, beq_eq_false_iff_ne, ne_eq, Bool.not_eq_true', Bool.not_eq_false', bne_eq_false_iff_eq, Int.not_lt, Int.not_le] at h7)
      · try simp only [go_sem, ruB, h7', hb3.at_]
        refine gC.of mask_Count_spec ?_
        rintro _ m_ ⟨rfl, hm_⟩
        replace hm_ := hm_.symm
        subst hm_
        simp only [go_sem]
        try simp only [go_sem, ruB, hb3.at_]
        refine ⟨fin_iff ?_, hX⟩
        rw [beq_iff_eq]
        exact ⟨fun h => ⟨pcs, by omega, by omega, h⟩, fun h => h.2.2.2⟩
      · try simp only [go_sem, ruB, h7']
        exact ⟨fin_no fun h => by have := h.2.2.1; omega, hX⟩
    · try simp only [go_sem, ruB, h6']
      exact ⟨fin_no fun h => by have := h.2.1; omega, hX⟩
end Go.Am


/- PlanX2 over the table of stagez (relayset.py). -/
set_option linter.unusedVariables false
set_option linter.unusedSimpArgs false
namespace Go.Am
open Classical
variable {m : Mem}

def placeP (p : PlanD) (x : Pl) : Prop := isU x.unit ∧ 1 ≤ x.share ∧ x.share ≤ p.frame ∧ (x.pieces.length = 0 → hasC p x.core = true) ∧ (x.pieces.length ≠ 0 → pcsP p x)

theorem place_spec {p : PlanD} {x : Pl} {v w : Value} (hv : PlanV m p v) (hw : PlV m x w) (hl : x.pieces.length < 1000000) : WC R F.plan_place [v, w] m fun r m' => r = .bool (decide (placeP p x)) ∧ Ext m m' := by
  refine WC.of R.plan_place rfl ?_
  obtain ⟨pv, rfl, hp⟩ := hv
  obtain ⟨qv, rfl, hq⟩ := hw
  simp only [RC.plan_place, planV, plV, go_sem, hp.one, hq.one]
  have hx : Ext m (m.new (.cells [.int .i64 p.frame, u32 p.cores, pv] (some 3))) := Ext.new
  have hb : Bk (m.new (.cells [.int .i64 p.frame, u32 p.cores, pv] (some 3))) m.next [.int .i64 p.frame, u32 p.cores, pv] 3 := Bk.new
  generalize m.new (.cells [.int .i64 p.frame, u32 p.cores, pv] (some 3)) = m1 at hx hb ⊢
  have hx2 : Ext m1 (m1.new (.cells [.int .i64 x.unit, .int .i64 x.share, .int .i64 x.core, qv] (some 4))) := Ext.new
  have hb2 : Bk (m1.new (.cells [.int .i64 x.unit, .int .i64 x.share, .int .i64 x.core, qv] (some 4))) m1.next [.int .i64 x.unit, .int .i64 x.share, .int .i64 x.core, qv] 4 := Bk.new
  generalize m1.new (.cells [.int .i64 x.unit, .int .i64 x.share, .int .i64 x.core, qv] (some 4)) = m2 at hx2 hb2 ⊢
  have hb := hb.keep hx2
  have hp := (hp.keep hx).keep hx2
  have hq := (hq.keep hx).keep hx2
  have hX := hx.trans hx2
  try simp only [go_sem, ruB, hb2.at_]
  refine gC.of Kind_spec ?_
  rintro _ m_ ⟨hu, hm_⟩
  replace hm_ := hm_.symm
  subst hm_
  rcases hu with ⟨hu, rfl⟩ | ⟨hu, rfl⟩
  · try simp only [go_sem, ruB, hb2.at_, aExt0, aExt1, aExt2]
    refine gT.of (fun h1' => ?_) (fun h1' => ?_) <;> (have h1 := h1'; try simp only [decide_eq_true_eq, decide_eq_false_iff_not, beq_iff_eq, bne_iff_ne, beq_eq_false_iff_ne, ne_eq, Bool.not_eq_true', Bool.not_eq_false', bne_eq_false_iff_eq, Int.not_lt, Int.not_le] at h1)
    · try simp only [go_sem, ruB, hb2.at_, h1']
      exact ⟨fin_no fun h => by have := h.2.1; omega, hX⟩
    · try simp only [go_sem, ruB, hb2.at_, hb.at_, h1']
      refine gT.of (fun h2' => ?_) (fun h2' => ?_) <;> (have h2 := h2'; try simp only [decide_eq_true_eq, decide_eq_false_iff_not, beq_iff_eq, bne_iff_ne, beq_eq_false_iff_ne, ne_eq, Bool.not_eq_true', Bool.not_eq_false', bne_eq_false_iff_eq, Int.not_lt, Int.not_le] at h2)
      · try simp only [go_sem, ruB, h2']
        exact ⟨fin_no fun h => by have := h.2.2.1; omega, hX⟩
      · try simp only [go_sem, ruB, h2', hb2.at_]
        refine gC.of (split_spec (x := x) ⟨qv, rfl, hq⟩) ?_
        rintro _ m3 ⟨rfl, hx3⟩
        simp only [go_sem]
        have hb2 := hb2.keep hx3
        have hb := hb.keep hx3
        have hp := hp.keep hx3
        have hq := hq.keep hx3
        refine gT.of (fun h3' => ?_) (fun h3' => ?_) <;> (have h3 := h3'; try simp only [decide_eq_true_eq, decide_eq_false_iff_not, beq_iff_eq, bne_iff_ne, beq_eq_false_iff_ne, ne_eq, Bool.not_eq_true', Bool.not_eq_false', bne_eq_false_iff_eq, Int.not_lt, Int.not_le] at h3)
        · try simp only [go_sem, ruB, h3', hb2.at_, hb.at_]
          refine gC.of (pieces_spec (p := p) (x := x) ⟨pv, rfl, hp⟩ ⟨qv, rfl, hq⟩ hl) ?_
          rintro _ m4 ⟨rfl, hx4⟩
          simp only [go_sem]
          exact ⟨fin_iff (by rw [decide_eq_true_eq]; exact ⟨fun h => ⟨hu, by omega, by omega, fun _ => by omega, fun _ => h⟩, fun h => h.2.2.2.2 (by omega)⟩), hX.trans (hx3.trans hx4)⟩
        · try simp only [go_sem, ruB, h3', hb2.at_, hb.at_]
          refine gC.of (has_spec (p := p) (c := x.core) ⟨pv, rfl, hp⟩) ?_
          rintro _ m4 ⟨rfl, hx4⟩
          simp only [go_sem]
          exact ⟨fin_iff ⟨fun h => ⟨hu, by omega, by omega, fun _ => h, fun _ => by omega⟩, fun h => h.2.2.2.1 (by omega)⟩, hX.trans (hx3.trans hx4)⟩
  · try simp only [go_sem, ruB]
    exact ⟨fin_no fun h => hu h.1, hX⟩

/-! ### windows that meet nowhere -/
def wAt (ps : List Pc) (c : Int) : BitVec 64 := winPc c 0#64 ps
def apartP (ps : List Pc) : Prop := ∀ i (h : i < ps.length), (wAt (ps.take i) ps[i].1 &&& ps[i].2) = 0#64
theorem wAt_snoc {ps : List Pc} {y : Pc} {c : Int} : wAt (ps ++ [y]) c = if y.1 = c then wAt ps c ||| y.2 else wAt ps c := by
  unfold wAt winPc; rw [List.foldl_append]; rfl
theorem apartP_snoc {ps : List Pc} {y : Pc} : apartP (ps ++ [y]) ↔ apartP ps ∧ (wAt ps y.1 &&& y.2) = 0#64 := by
  constructor
  · intro h
    refine ⟨fun i hi => ?_, ?_⟩
    · have := h i (by simp; omega)
      rw [List.getElem_append_left hi, List.take_append_of_le_length (by omega)] at this
      exact this
    · have := h ps.length (by simp)
      simpa using this
  · rintro ⟨h1, h2⟩ i hi
    by_cases e : i < ps.length
    · rw [List.getElem_append_left e, List.take_append_of_le_length (by omega)]; exact h1 i e
    · have : i = ps.length := by simp at hi; omega
      subst this
      simpa using h2
theorem apartP_pre {a b : List Pc} (h : apartP (a ++ b)) : apartP a := fun i hi => by
  have := h i (by simp; omega)
  rw [List.getElem_append_left hi, List.take_append_of_le_length (by omega)] at this
  exact this

def preP (l : List Pl) (i : Nat) : List Pc := (l.take i).flatMap (·.pieces)
theorem preP_succ {l : List Pl} {i : Nat} (h : i < l.length) : preP l (i + 1) = preP l i ++ l[i].pieces := by
  unfold preP; rw [List.take_succ_eq_append_getElem h, List.flatMap_append]; simp

/-- The words of sixteen cores. -/
structure Met (m : Mem) (b : Nat) (ps : List Pc) : Prop where
  wit : ∃ W : List (BitVec 64), Bk m b (W.map u64) 16 ∧ W.length = 16 ∧ ∀ c (h : c < W.length), W[c] = wAt ps (c : Nat)
theorem Met.keep {m m' : Mem} {b : Nat} {ps : List Pc} (h : Met m b ps) (hx : Ext m m') : Met m' b ps := let ⟨W, a, l, c⟩ := h.wit; ⟨W, a.keep hx, l, c⟩
theorem Met.get {m : Mem} {b : Nat} {ps : List Pc} (h : Met m b ps) {c : Int} (h0 : 0 ≤ c) (h1 : c < 16) : ldW (m.blk b) c.toNat = some (u64 (wAt ps c)) := by
  obtain ⟨W, a, l, g⟩ := h.wit
  rw [a.at_, ldW_c, List.getElem?_map, List.getElem?_eq_getElem (by omega), Option.map_some, g _ (by omega)]
  congr 3; omega
theorem Met.ne {m : Mem} {b : Nat} {ps : List Pc} (h : Met m b ps) : (b = m.next) = False := let ⟨_, a, _, _⟩ := h.wit; a.ne
theorem load_ext {m m' : Mem} {w : Bool} {u b o : Nat} (hx : Ext m m') (hb : b < m.next) : aLoad w u m' (.pointer (some ⟨b, o, none⟩)) = aLoad w u m (.pointer (some ⟨b, o, none⟩)) := by
  simp only [aLoad, aCells, hx.same b hb]
theorem got_eq {α : Type} {o : Option α} {a : α} {Q : α → Prop} (h : o = some a) (k : Q a) : Got o Q := ⟨a, h, k⟩
theorem Met.put {m : Mem} {b : Nat} {ps : List Pc} (h : Met m b ps) {y : Pc} (h0 : 0 ≤ y.1) (h1 : y.1 < 16) :
    ∃ m', stB m b (m.blk b) y.1.toNat [u64 (wAt ps y.1 ||| y.2)] = some m' ∧ Met m' b (ps ++ [y]) ∧ ∀ m0, Ext m0 m → m0.next ≤ b → Ext m0 m' := by
  obtain ⟨W, a, l, g⟩ := h.wit
  refine ⟨m.set b (some (.cells ((W.set y.1.toNat (wAt ps y.1 ||| y.2)).map u64) (some 16))), ?_, ⟨W.set y.1.toNat (wAt ps y.1 ||| y.2), ⟨by simp [Mem.set], by simpa [Mem.set] using a.lt⟩, by simp [l], fun c hc => ?_⟩, fun m0 hx hb => hx.set hb⟩
  · rw [a.at_, stB_c, if_pos ⟨by simp; omega, rfl⟩, writeL_set (by simp; omega), List.map_set]
  · rw [List.getElem_set, wAt_snoc]
    by_cases e : y.1 = (c : Int)
    · rw [if_pos (by omega), if_pos e, e]
    · rw [if_neg (by omega), if_neg e]
      exact g c (by simpa using hc)

theorem apart1p_loop {m0 : Mem} {x : Pl} {pv qv : Value} {b i n : Nat} {pre : List Pc} (hx0 : Ext m0 m) (hq : PcV m0 x.pieces qv) (hM : Met m b pre) (hb : m0.next ≤ b) (hap : apartP pre) (hl : x.pieces.length < 1000000) (hc : ∀ y ∈ x.pieces, 0 ≤ y.1 ∧ y.1 < 16) :
    WL R [3, 9, 10, 11, 16, 17, 18] RB.plan_apart_1 [(3, pt b), (9, pv), (10, .int .i64 n), (11, .int .i64 i), (16, qv), (17, .int .i64 x.pieces.length), (18, .int .i64 0)] m fun z e m' =>
      (z = .ret ∧ e = [(2, .bool false)] ∧ ¬ apartP (pre ++ x.pieces) ∧ Ext m0 m') ∨ (z = .exit 2 ∧ e = [(3, pt b), (9, pv), (10, .int .i64 n), (11, .int .i64 i), (16, qv), (17, .int .i64 x.pieces.length), (18, .int .i64 x.pieces.length), (19, .bool false)] ∧ Met m' b (pre ++ x.pieces) ∧ apartP (pre ++ x.pieces) ∧ Ext m0 m') := by
  refine WL.of (fun r e m' => ∃ j : Nat, j ≤ x.pieces.length ∧ r = x.pieces.length - j ∧ e = [(3, pt b), (9, pv), (10, .int .i64 n), (11, .int .i64 i), (16, qv), (17, .int .i64 x.pieces.length), (18, .int .i64 j)] ∧ Met m' b (pre ++ x.pieces.take j) ∧ apartP (pre ++ x.pieces.take j) ∧ Ext m0 m') x.pieces.length
    ⟨0, by omega, by omega, by simp only [go_sem] <;> rfl, by simpa using hM, by simpa using hap, hx0⟩ ?_
  rintro _ _ m3 ⟨j, hj, rfl, rfl, hM3, hap3, hx3⟩
  have hq3 := hq.keep hx3
  simp only [RB.plan_apart_1, pt, go_sem]
  refine gT.of (fun h1' => ?_) (fun h1' => ?_) <;> (have h1 := h1'; try simp only [decide_eq_true_eq, decide_eq_false_iff_not, beq_iff_eq, bne_iff_ne, beq_eq_false_iff_ne, ne_eq, Bool.not_eq_true', Bool.not_eq_false', bne_eq_false_iff_eq, Int.not_lt, Int.not_le] at h1)
  · have hjl : j < x.pieces.length := by omega
    obtain ⟨bb, o, a1, a2, a3, a4⟩ := hq3.elem hjl
    have hy := hc _ (List.getElem_mem hjl)
    have htk : x.pieces.take (j + 1) = x.pieces.take j ++ [x.pieces[j]] := List.take_succ_eq_append_getElem hjl
    have hdr : x.pieces = x.pieces.take j ++ [x.pieces[j]] ++ x.pieces.drop (j + 1) := by rw [← htk, List.take_append_drop]
    have s1 := step1 (show j < 1000000 by omega)
    generalize hyy : x.pieces[j] = y at *
    simp only [pcV] at a2
    have g3 := hM3.get hy.1 hy.2
    have n3 := hM3.ne
    try simp only [go_sem, ruB, a1, a2, hy.1, hy.2, g3, n3]
    have hx4 : Ext m3 (m3.new (.cells [.int .i64 y.1, u64 y.2] (some 2))) := Ext.new
    have hb4 : Bk (m3.new (.cells [.int .i64 y.1, u64 y.2] (some 2))) m3.next [.int .i64 y.1, u64 y.2] 2 := Bk.new
    generalize m3.new (.cells [.int .i64 y.1, u64 y.2] (some 2)) = m4 at hx4 hb4 ⊢
    have hM4 := hM3.keep hx4
    have g := hM4.get hy.1 hy.2
    try simp only [go_sem, ruB, hb4.at_, hy.1, hy.2, g]
    refine gT.of (fun h2' => ?_) (fun h2' => ?_) <;> (have h2 := h2'; try simp only [decide_eq_true_eq, decide_eq_false_iff_not, beq_iff_eq, bne_iff_ne, beq_eq_false_iff_ne, ne_eq, Bool.not_eq_true', Bool.not_eq_false', bne_eq_false_iff_eq, Int.not_lt, Int.not_le] at h2)
    · try simp only [go_sem, ruB, h2']
      refine .inl ⟨fun h => ?_, hx3.trans hx4⟩
      rw [hdr, ← List.append_assoc, ← List.append_assoc] at h
      exact h2 (apartP_snoc.1 (apartP_pre h)).2
    · try simp only [go_sem, ruB, h2', hb4.at_, hy.1, hy.2, g]
      obtain ⟨m5, q1, q2, q3⟩ := hM4.put hy.1 hy.2
      refine got_eq q1 ?_
      try simp only [go_sem, ruB, s1]
      refine ⟨x.pieces.length - (j + 1), by omega, j + 1, by omega, rfl, rfl, ?_, ?_, q3 _ (hx3.trans hx4) hb⟩
      · rw [htk, ← List.append_assoc]; exact q2
      · rw [htk, ← List.append_assoc, apartP_snoc]; exact ⟨hap3, Decidable.not_not.1 h2⟩
  · have : j = x.pieces.length := by omega
    subst this
    rw [List.take_length] at hM3 hap3
    try simp only [go_sem, ruB, h1']
    exact .inr ⟨hM3, hap3, hx3⟩

theorem apart_spec {p : PlanD} {v : Value} (hv : PlanV m p v) (hl : p.places.length < 1000000) (hp1 : ∀ x ∈ p.places, x.pieces.length < 1000000) (hc : ∀ x ∈ p.places, ∀ y ∈ x.pieces, 0 ≤ y.1 ∧ y.1 < 16) :
    WC R F.plan_apart [v] m fun r m' => r = .bool (decide (apartP (preP p.places p.places.length))) ∧ Ext m m' := by
  refine WC.of R.plan_apart rfl ?_
  obtain ⟨pv, rfl, hp⟩ := hv
  simp only [RC.plan_apart, planV, go_sem, hp.one]
  have hx : Ext m (m.new (.cells [.int .i64 p.frame, u32 p.cores, pv] (some 3))) := Ext.new
  have hb : Bk (m.new (.cells [.int .i64 p.frame, u32 p.cores, pv] (some 3))) m.next [.int .i64 p.frame, u32 p.cores, pv] 3 := Bk.new
  generalize m.new (.cells [.int .i64 p.frame, u32 p.cores, pv] (some 3)) = m1 at hx hb ⊢
  have hp1' := hp.keep hx
  have hbn := hb.ne
  try simp only [go_sem, ruB, hb.at_, hbn, hp1'.len]
  have hx2 : Ext m1 (m1.new (.cells [u64 0#64, u64 0#64, u64 0#64, u64 0#64, u64 0#64, u64 0#64, u64 0#64, u64 0#64, u64 0#64, u64 0#64, u64 0#64, u64 0#64, u64 0#64, u64 0#64, u64 0#64, u64 0#64] (some 16))) := Ext.new
  have hb2 : Bk (m1.new (.cells [u64 0#64, u64 0#64, u64 0#64, u64 0#64, u64 0#64, u64 0#64, u64 0#64, u64 0#64, u64 0#64, u64 0#64, u64 0#64, u64 0#64, u64 0#64, u64 0#64, u64 0#64, u64 0#64] (some 16))) m1.next [u64 0#64, u64 0#64, u64 0#64, u64 0#64, u64 0#64, u64 0#64, u64 0#64, u64 0#64, u64 0#64, u64 0#64, u64 0#64, u64 0#64, u64 0#64, u64 0#64, u64 0#64, u64 0#64] 16 := Bk.new
  generalize m1.new (.cells [u64 0#64, u64 0#64, u64 0#64, u64 0#64, u64 0#64, u64 0#64, u64 0#64, u64 0#64, u64 0#64, u64 0#64, u64 0#64, u64 0#64, u64 0#64, u64 0#64, u64 0#64, u64 0#64] (some 16)) = m2 at hx2 hb2 ⊢
  have hb2' := hb.keep hx2
  have hM2 : Met m2 m1.next [] := ⟨List.replicate 16 0#64, hb2, rfl, fun c hc => by rw [List.getElem_replicate]; rfl⟩
  try simp only [go_sem, ruB, hb2'.at_, hp1'.len]
  refine WL.of (fun n e m' => ∃ i : Nat, i ≤ p.places.length ∧ n = p.places.length - i ∧ e = [(3, pt m1.next), (9, pv), (10, .int .i64 p.places.length), (11, .int .i64 i)] ∧ Met m' m1.next (preP p.places i) ∧ apartP (preP p.places i) ∧ Ext m1 m') p.places.length
    ⟨0, by omega, by omega, by simp only [go_sem] <;> rfl, by simpa [preP] using hM2, by intro k hk; simp [preP] at hk, hx2⟩ ?_
  rintro _ _ m3 ⟨i, hi, rfl, rfl, hM, hap, hx3⟩
  have hp3 := hp1'.keep hx3
  simp only [RB.plan_apart_2, pt, go_sem]
  refine gT.of (fun h1' => ?_) (fun h1' => ?_) <;> (have h1 := h1'; try simp only [decide_eq_true_eq, decide_eq_false_iff_not, beq_iff_eq, bne_iff_ne, beq_eq_false_iff_ne, ne_eq, Bool.not_eq_true', Bool.not_eq_false', bne_eq_false_iff_eq, Int.not_lt, Int.not_le] at h1)
  · have hil : i < p.places.length := by omega
    obtain ⟨b, o, qv, a1, a2, a3, a4, a5⟩ := hp1'.elem hil
    rw [← load_ext hx3 a5] at a2
    have hpre := preP_succ hil
    have hmem := List.getElem_mem hil
    have hpl := hp1 _ hmem
    have hcc := hc _ hmem
    have s1 := step1 (show i < 1000000 by omega)
    have hrest : preP p.places p.places.length = preP p.places (i + 1) ++ (p.places.drop (i + 1)).flatMap (·.pieces) := by
      unfold preP
      rw [← List.flatMap_append, List.take_length, List.take_append_drop]
    generalize p.places[i] = x at *
    simp only [plV] at a2
    try simp only [go_sem, ruB, a1, a2, a4.one]
    have hx4 : Ext m3 (m3.new (.cells [.int .i64 x.unit, .int .i64 x.share, .int .i64 x.core, qv] (some 4))) := Ext.new
    have hb4 : Bk (m3.new (.cells [.int .i64 x.unit, .int .i64 x.share, .int .i64 x.core, qv] (some 4))) m3.next [.int .i64 x.unit, .int .i64 x.share, .int .i64 x.core, qv] 4 := Bk.new
    generalize m3.new (.cells [.int .i64 x.unit, .int .i64 x.share, .int .i64 x.core, qv] (some 4)) = m4 at hx4 hb4 ⊢
    try simp only [go_sem, ruB, hb4.at_, a4.len]
    have hx34 : Ext m1 m4 := hx3.trans hx4
    refine WL.mono (apart1p_loop (m0 := m1) (x := x) (b := m1.next) (pre := preP p.places i) hx34 a4 (hM.keep hx4) (Nat.le_refl _) hap hpl hcc) ?_
    rintro _ _ m5 (⟨rfl, rfl, hno, hx5⟩ | ⟨rfl, rfl, hM5, hap5, hx5⟩)
    · try simp only [go_sem, ruB]
      exact ⟨fin_no fun h => by rw [hrest, hpre] at h; exact hno (apartP_pre h), hx.trans hx5⟩
    · simp only [pt]
      try simp only [go_sem, ruB, s1]
      exact ⟨p.places.length - (i + 1), by omega, i + 1, by omega, rfl, rfl, by rw [hpre]; exact hM5, by rw [hpre]; exact hap5, hx5⟩
  · have : i = p.places.length := by omega
    subst this
    try simp only [go_sem, ruB, h1']
    exact ⟨fin_yes hap, hx.trans hx3⟩
end Go.Am


/- PlanX3 over the table of stagez (relayset.py). -/
set_option linter.unusedVariables false
set_option linter.unusedSimpArgs false
namespace Go.Am
open Classical
variable {m : Mem}

def plC (p : PlanD) (i : Nat) : Prop := ∃ h : i < p.places.length, placeP p p.places[i] ∧ ∀ h : 0 < i, (p.places[i - 1]'(by omega)).unit < p.places[i].unit
def CheckP (p : PlanD) : Prop :=
  2 ≤ p.frame ∧ p.frame ≤ 64 ∧ p.cores ≠ 0#32 ∧ p.cores >>> 16 = 0#32 ∧ (∀ i, i < p.places.length → plC p i) ∧ apartP (preP p.places p.places.length) ∧ p.places.countP isSp < (csP p 16).length ∧
  ∀ c ∈ csP p 16, 0 ≤ leftP p (c : Nat)

theorem plC_r {p : PlanD} (h : 2 ≤ p.frame) (h2 : p.frame ≤ 64) (hl : PlanL p) (ha : ∀ i, i < p.places.length → plC p i) : PlanR p := by
  refine ⟨hl.len, hl.pcs, fun x hx => ?_, by omega, h2⟩
  obtain ⟨i, hi, rfl⟩ := List.getElem_of_mem hx
  obtain ⟨_, h, -⟩ := ha i hi
  have := h.2.1; have := h.2.2.1
  omega
theorem plC_cores {p : PlanD} (ha : ∀ i, i < p.places.length → plC p i) : ∀ x ∈ p.places, ∀ y ∈ x.pieces, 0 ≤ y.1 ∧ y.1 < 16 := by
  intro x hx y hy
  obtain ⟨i, hi, rfl⟩ := List.getElem_of_mem hx
  obtain ⟨_, h, -⟩ := ha i hi
  have := h.2.2.2.2 (by intro e; rw [List.eq_nil_of_length_eq_zero e] at hy; cases hy)
  obtain ⟨j, hj, rfl⟩ := List.getElem_of_mem hy
  obtain ⟨⟨_, g, -⟩, -⟩ := this.1 j hj
  exact hasC_range g

noncomputable def chk (p : PlanD) : Value := .int .i64 (if CheckP p then 0 else 30)
theorem chk_no {p : PlanD} (h : ¬ CheckP p) : Value.int .i64 30 = chk p := by unfold chk; rw [if_neg h]
theorem chk_yes {p : PlanD} (h : CheckP p) : Value.int .i64 0 = chk p := by unfold chk; rw [if_pos h]

set_option maxHeartbeats 4000000 in
theorem Check_spec {p : PlanD} {v : Value} (hv : PlanV m p v) (hl : PlanL p) : WC R F.plan_Check [v] m fun r m' => r = chk p ∧ Ext m m' := by
  refine WC.of R.plan_Check rfl ?_
  obtain ⟨pv, rfl, hp⟩ := hv
  simp only [RC.plan_Check, planV, go_sem, hp.one]
  have hx : Ext m (m.new (.cells [.int .i64 p.frame, u32 p.cores, pv] (some 3))) := Ext.new
  have hb : Bk (m.new (.cells [.int .i64 p.frame, u32 p.cores, pv] (some 3))) m.next [.int .i64 p.frame, u32 p.cores, pv] 3 := Bk.new
  generalize m.new (.cells [.int .i64 p.frame, u32 p.cores, pv] (some 3)) = m1 at hx hb ⊢
  try simp only [go_sem, ruB, hb.at_]
  refine gT.of (fun h1' => ?_) (fun h1' => ?_) <;> (have h1 := h1'; try simp only [decide_eq_true_eq, decide_eq_false_iff_not, beq_iff_eq, bne_iff_ne, beq_eq_false_iff_ne, ne_eq, Bool.not_eq_true', Bool.not_eq_false', bne_eq_false_iff_eq, Int.not_lt, Int.not_le] at h1)
  · try simp only [go_sem, ruB, h1']
    exact ⟨chk_no fun h => by have := h.1; omega, hx⟩
  · try simp only [go_sem, ruB, h1', hb.at_]
    refine gT.of (fun h2' => ?_) (fun h2' => ?_) <;> (have h2 := h2'; try simp only [decide_eq_true_eq, decide_eq_false_iff_not, beq_iff_eq, bne_iff_ne, beq_eq_false_iff_ne, ne_eq, Bool.not_eq_true', Bool.not_eq_false', bne_eq_false_iff_eq, Int.not_lt, Int.not_le] at h2)
    · try simp only [go_sem, ruB, h2']
      exact ⟨chk_no fun h => by have := h.2.1; omega, hx⟩
    · try simp only [go_sem, ruB, h2', hb.at_]
      refine gT.of (fun h3' => ?_) (fun h3' => ?_) <;> (have h3 := h3'; try simp only [decide_eq_true_eq, decide_eq_false_iff_not, beq_iff_eq, bne_iff_ne, beq_eq_false_iff_ne, ne_eq, Bool.not_eq_true', Bool.not_eq_false', bne_eq_false_iff_eq, Int.not_lt, Int.not_le] at h3)
      · try simp only [go_sem, ruB, h3']
        exact ⟨chk_no fun h => h.2.2.1 h3, hx⟩
      · try simp only [go_sem, ruB, h3', hb.at_]
        refine gT.of (fun h4' => ?_) (fun h4' => ?_) <;> (have h4 := h4'; try simp only [decide_eq_true_eq, decide_eq_false_iff_not, beq_iff_eq, bne_iff_ne, beq_eq_false_iff_ne, ne_eq, Bool.not_eq_true', Bool.not_eq_false', bne_eq_false_iff_eq, Int.not_lt, Int.not_le] at h4)
        · try simp only [go_sem, ruB, h4']
          exact ⟨chk_no fun h => h4 h.2.2.2.1, hx⟩
        · have hc : p.cores >>> 16 = 0#32 := Decidable.not_not.1 h4
          have hpk := hp.keep hx
          try simp only [go_sem, ruB, h4', hb.at_, hpk.len]
          refine WL.of (fun n e m' => ∃ i : Nat, i ≤ p.places.length ∧ n = p.places.length - i ∧ e = [(1, pt m.next), (27, pv), (28, .int .i64 p.places.length), (29, .int .i64 i)] ∧ (∀ j, j < i → plC p j) ∧ Ext m1 m') p.places.length
            ⟨0, by omega, by omega, by simp only [go_sem] <;> rfl, fun d hd => by omega, Ext.refl _⟩ ?_
          rintro _ _ m2 ⟨i, hi, rfl, rfl, hall, hx2⟩
          have hp2 := hpk.keep hx2
          have hb2 := hb.keep hx2
          simp only [RB.plan_Check_2, pt, go_sem]
          refine gT.of (fun h5' => ?_) (fun h5' => ?_) <;> (have h5 := h5'; try simp only [decide_eq_true_eq, decide_eq_false_iff_not, beq_iff_eq, bne_iff_ne, beq_eq_false_iff_ne, ne_eq, Bool.not_eq_true', Bool.not_eq_false', bne_eq_false_iff_eq, Int.not_lt, Int.not_le] at h5)
          · have hil : i < p.places.length := by omega
            obtain ⟨b, o, qv, a1, a2, a3, a4, a5⟩ := hp2.elem hil
            have hprev : ∀ h : 0 < i, ∃ b' o', aIdxS 4 pv (.int .i64 (i - 1 : Nat)) = some (.pointer (some ⟨b', o', none⟩)) ∧ ∀ m', Ext m2 m' → aLoad false 1 m' (.pointer (some ⟨b', o', none⟩)) = some (.int .i64 (p.places[i - 1]'(by omega)).unit) := fun h => hp2.prev (by omega)
            have bad : ¬ (placeP p p.places[i] ∧ ∀ h : 0 < i, (p.places[i - 1]'(by omega)).unit < p.places[i].unit) → ¬ CheckP p := fun h h2 => h (let ⟨_, g⟩ := h2.2.2.2.2.1 i hil; g)
            have good : (placeP p p.places[i] ∧ ∀ h : 0 < i, (p.places[i - 1]'(by omega)).unit < p.places[i].unit) → ∀ j, j < i + 1 → plC p j := by
              intro h j hj
              by_cases e : j = i
              · subst e; exact ⟨hil, h⟩
              · exact hall j (by omega)
            have hpl := hl.pcs _ (List.getElem_mem hil)
            have n2 := hb2.ne
            generalize p.places[i] = x at *
            simp only [plV] at a2
            try simp only [go_sem, ruB, hb2.at_, a1, a2, n2, a4.one]
            have hx3 : Ext m2 (m2.new (.cells [.int .i64 x.unit, .int .i64 x.share, .int .i64 x.core, qv] (some 4))) := Ext.new
            have hb3 : Bk (m2.new (.cells [.int .i64 x.unit, .int .i64 x.share, .int .i64 x.core, qv] (some 4))) m2.next [.int .i64 x.unit, .int .i64 x.share, .int .i64 x.core, qv] 4 := Bk.new
            generalize m2.new (.cells [.int .i64 x.unit, .int .i64 x.share, .int .i64 x.core, qv] (some 4)) = m3 at hx3 hb3 ⊢
            have hp3 := hp2.keep hx3
            have hc3 := hb2.keep hx3
            try simp only [go_sem, ruB, hc3.at_, hb3.at_]
            refine gC.of (place_spec (p := p) (x := x) ⟨pv, rfl, hp3⟩ ⟨qv, rfl, a4.keep hx3⟩ hpl) ?_
            rintro _ m4 ⟨rfl, hx4⟩
            simp only [go_sem]
            have hb4 := hb3.keep hx4
            have hc4 := hc3.keep hx4
            have hx24 := hx3.trans hx4
            try simp only [go_sem, ruB, hc3.at_, hb3.at_, hb4.at_, hc4.at_]
            refine gT.of (fun h6' => ?_) (fun h6' => ?_) <;> (have h6 := h6'; try simp only [decide_eq_true_eq, decide_eq_false_iff_not, beq_iff_eq, bne_iff_ne, beq_eq_false_iff_ne, ne_eq, Bool.not_eq_true', Bool.not_eq_false', bne_eq_false_iff_eq, Int.not_lt, Int.not_le] at h6)
            · try simp only [go_sem, ruB, h6']
              exact ⟨chk_no (bad fun h => h6 h.1), hx.trans (hx2.trans hx24)⟩
            · have h6 : placeP p x := by simpa using h6'
              try simp only [go_sem, ruB, h6', hb4.at_, hc4.at_]
              refine gT.of (fun h7' => ?_) (fun h7' => ?_) <;> (have h7 := h7'; try simp only [decide_eq_true_eq, decide_eq_false_iff_not, beq_iff_eq, bne_iff_ne, beq_eq_false_iff_ne, ne_eq, Bool.not_eq_true', Bool.not_eq_false', bne_eq_false_iff_eq, Int.not_lt, Int.not_le] at h7)
              · obtain ⟨b', o', c1, c2⟩ := hprev (by omega)
                try simp only [go_sem, ruB, h7', hb4.at_, hc4.at_, sub1 (show 0 < i by omega) (show i < 1000000 by have := hl.len; omega), c1, c2 _ hx24]
                refine gT.of (fun h8' => ?_) (fun h8' => ?_) <;> (have h8 := h8'; try simp only [decide_eq_true_eq, decide_eq_false_iff_not, beq_iff_eq, bne_iff_ne, beq_eq_false_iff_ne, ne_eq, Bool.not_eq_true', Bool.not_eq_false', bne_eq_false_iff_eq, Int.not_lt, Int.not_le] at h8)
                · try simp only [go_sem, ruB, h8']
                  exact ⟨chk_no (bad fun h => by have := h.2 (by omega); omega), hx.trans (hx2.trans hx24)⟩
                · try simp only [go_sem, ruB, h8', step1 (show i < 1000000 by have := hl.len; omega)]
                  exact ⟨p.places.length - (i + 1), by omega, i + 1, by omega, rfl, rfl, good ⟨h6, fun h => by omega⟩, hx2.trans hx24⟩
              · try simp only [go_sem, ruB, h7', step1 (show i < 1000000 by have := hl.len; omega)]
                exact ⟨p.places.length - (i + 1), by omega, i + 1, by omega, rfl, rfl, good ⟨h6, fun h => by omega⟩, hx2.trans hx24⟩
          · have hi : i = p.places.length := by omega
            subst hi
            have hr := plC_r (by omega) (by omega) hl hall
            try simp only [go_sem, ruB, h5', hb2.at_]
            refine gC.of (apart_spec (p := p) ⟨pv, rfl, hp2⟩ hl.len hl.pcs (plC_cores hall)) ?_
            rintro _ m3 ⟨rfl, hx3⟩
            simp only [go_sem]
            have hb3 := hb2.keep hx3
            have hp3 := hp2.keep hx3
            try simp only [go_sem, ruB, hb3.at_, hb2.at_]
            refine gT.of (fun h6' => ?_) (fun h6' => ?_) <;> (have h6 := h6'; try simp only [decide_eq_true_eq, decide_eq_false_iff_not, beq_iff_eq, bne_iff_ne, beq_eq_false_iff_ne, ne_eq, Bool.not_eq_true', Bool.not_eq_false', bne_eq_false_iff_eq, Int.not_lt, Int.not_le] at h6)
            · try simp only [go_sem, ruB, h6']
              exact ⟨chk_no fun h => h6 h.2.2.2.2.2.1, hx.trans (hx2.trans hx3)⟩
            · have h6 : apartP (preP p.places p.places.length) := by simpa using h6'
              try simp only [go_sem, ruB, h6', hb3.at_]
              refine gC.of (Splits_spec (p := p) ⟨pv, rfl, hp3⟩ hl.len) ?_
              rintro _ m4 ⟨rfl, hx4⟩
              simp only [go_sem]
              have hb4 := hb3.keep hx4
              have hp4 := hp3.keep hx4
              try simp only [go_sem, ruB, hb3.at_, hb4.at_]
              refine gC.of (Cores_spec (p := p) ⟨pv, rfl, hp4⟩) ?_
              rintro w m5 ⟨ho, hx5⟩
              have hb5 := hb4.keep hx5
              have hp5 := hp4.keep hx5
              try simp only [go_sem, ruB, hb4.at_, hb5.at_, ho.sl.len]
              refine gT.of (fun h7' => ?_) (fun h7' => ?_) <;> (have h7 := h7'; try simp only [decide_eq_true_eq, decide_eq_false_iff_not, beq_iff_eq, bne_iff_ne, beq_eq_false_iff_ne, ne_eq, Bool.not_eq_true', Bool.not_eq_false', bne_eq_false_iff_eq, Int.not_lt, Int.not_le] at h7)
              · try simp only [go_sem, ruB, h7']
                exact ⟨chk_no fun h => by have := h.2.2.2.2.2.2.1; omega, hx.trans (hx2.trans (hx3.trans (hx4.trans hx5)))⟩
              · try simp only [go_sem, ruB, h7', hb5.at_]
                refine gC.of (Cores_spec (p := p) ⟨pv, rfl, hp5⟩) ?_
                rintro w2 m6 ⟨ho6, hx6⟩
                have hsl := ho6.sl
                have hlt := ho6.lt
                have hlen := csP_len (p := p) (n := 16)
                try simp only [go_sem, ruB, hsl.len]
                refine WL.of (fun n e m' => ∃ k : Nat, k ≤ (csP p 16).length ∧ n = (csP p 16).length - k ∧ e = [(1, pt m.next), (67, w2), (68, .int .i64 (csP p 16).length), (69, .int .i64 k)] ∧ (∀ c ∈ (csP p 16).take k, 0 ≤ leftP p (c : Nat)) ∧ Ext m6 m') (csP p 16).length
                  ⟨0, by omega, by omega, by simp only [go_sem] <;> rfl, by simp, Ext.refl _⟩ ?_
                rintro _ _ m7 ⟨k, hk, rfl, rfl, hld, hx7⟩
                have hb7 := (hb5.keep hx6).keep hx7
                have hp7 := (hp5.keep hx6).keep hx7
                have hsl7 := hsl.keep hlt hx7
                simp only [RB.plan_Check_1, pt, go_sem]
                refine gT.of (fun h8' => ?_) (fun h8' => ?_) <;> (have h8 := h8'; try simp only [decide_eq_true_eq, decide_eq_false_iff_not, beq_iff_eq, bne_iff_ne, beq_eq_false_iff_ne, ne_eq, Bool.not_eq_true', Bool.not_eq_false', bne_eq_false_iff_eq, Int.not_lt, Int.not_le] at h8)
                · have hkl : k < (csP p 16).length := by omega
                  obtain ⟨q, e1, e2⟩ := hsl7.get (k := .i64) (i := k) hkl
                  rw [ints_get hkl] at e2
                  have hsn : (csP p 16).take (k + 1) = (csP p 16).take k ++ [(csP p 16)[k]] := List.take_succ_eq_append_getElem hkl
                  have hmm : (csP p 16)[k] ∈ csP p 16 := List.getElem_mem hkl
                  generalize (csP p 16)[k] = c at *
                  try simp only [go_sem, ruB, hb7.at_, e1, e2]
                  refine gC.of (left_spec (p := p) (c := c) ⟨pv, rfl, hp7⟩ hr) ?_
                  rintro _ m8 ⟨rfl, hx8⟩
                  simp only [go_sem]
                  have hb8 := hb7.keep hx8
                  try simp only [go_sem, ruB, hb7.at_, hb8.at_]
                  refine gT.of (fun h9' => ?_) (fun h9' => ?_) <;> (have h9 := h9'; try simp only [decide_eq_true_eq, decide_eq_false_iff_not, beq_iff_eq, bne_iff_ne, beq_eq_false_iff_ne, ne_eq, Bool.not_eq_true', Bool.not_eq_false', bne_eq_false_iff_eq, Int.not_lt, Int.not_le] at h9)
                  · try simp only [go_sem, ruB, h9']
                    exact ⟨chk_no fun h => by have := h.2.2.2.2.2.2.2 c hmm; omega, hx.trans (hx2.trans (hx3.trans (hx4.trans (hx5.trans (hx6.trans (hx7.trans hx8))))))⟩
                  · try simp only [go_sem, ruB, h9', step1 (show k < 1000000 by omega)]
                    refine ⟨(csP p 16).length - (k + 1), by omega, k + 1, by omega, rfl, rfl, ?_, hx7.trans hx8⟩
                    intro c' hc'
                    rw [hsn] at hc'
                    rcases List.mem_append.1 hc' with h | h
                    · exact hld c' h
                    · rw [List.mem_singleton.1 h]; omega
                · try simp only [go_sem, ruB, h8']
                  rw [List.take_of_length_le (by omega)] at hld
                  exact ⟨chk_yes ⟨by omega, by omega, h3, hc, hall, h6, by omega, hld⟩, hx.trans (hx2.trans (hx3.trans (hx4.trans (hx5.trans (hx6.trans hx7)))))⟩
end Go.Am


/- PlanX4 over the table of stagez (relayset.py). -/
set_option linter.unusedVariables false
set_option linter.unusedSimpArgs false
namespace Go.Am
open Classical
variable {m : Mem}

theorem sc_u64 {x y : BitVec 64} : scalEq .int (u64 x) (u64 y) = some (decide (x = y)) := by
  unfold u64
  rw [sc_int]
  congr 1
  rw [Bool.eq_iff_iff, beq_iff_eq, decide_eq_true_eq]
  constructor
  · intro h; apply BitVec.eq_of_toNat_eq; omega
  · intro h; rw [h]
attribute [go_sem] sc_u64

theorem Equal_spec {l k : List Pc} {v w : Value} (hs : PcV m l v) (ht : PcV m k w) (hl : l.length < 1000000) (hk : k.length < 1000000) :
    WC R F.slices_Equal_api_Piece_api_Piece [v, w] m fun r m' => r = .bool (decide (l = k)) ∧ m' = m := by
  refine WC.of R.slices_Equal_api_Piece_api_Piece rfl ?_
  simp only [RC.slices_Equal_api_Piece_api_Piece, go_sem, hs.len, ht.len]
  refine gT.of (fun h' => ?_) (fun h' => ?_) <;> (have h := h'; try simp only [decide_eq_true_eq, decide_eq_false_iff_not, beq_iff_eq, bne_iff_ne, beq_eq_false_iff_ne, ne_eq, Bool.not_eq_true', Bool.not_eq_false', bne_eq_false_iff_eq, Int.not_lt, Int.not_le] at h)
  · have : l ≠ k := by rintro rfl; exact h rfl
    try simp only [go_sem, ruB, h']
    simp [this]
  · have hlk : l.length = k.length := by have := h; omega
    try simp only [go_sem, ruB, h', hs.len]
    refine WL.of (fun n e m' => ∃ i : Nat, i ≤ l.length ∧ n = l.length - i ∧ e = [(0, v), (1, w), (12, .int .i64 l.length), (13, .int .i64 i)] ∧ (∀ j (h1 : j < l.length) (h2 : j < k.length), j < i → l[j] = k[j]) ∧ m' = m) l.length
      ⟨0, by omega, by omega, by simp only [go_sem] <;> rfl, fun _ _ _ h => by omega, rfl⟩ ?_
    rintro _ _ _ ⟨i, hi, rfl, rfl, hj, hm⟩
    replace hm := hm.symm
    subst hm
    simp only [RB.slices_Equal_api_Piece_api_Piece_1, go_sem]
    refine gT.of (fun h2' => ?_) (fun h2' => ?_) <;> (have h2 := h2'; try simp only [decide_eq_true_eq, decide_eq_false_iff_not, beq_iff_eq, bne_iff_ne, beq_eq_false_iff_ne, ne_eq, Bool.not_eq_true', Bool.not_eq_false', bne_eq_false_iff_eq, Int.not_lt, Int.not_le] at h2)
    · have hil : i < l.length := by omega
      have hik : i < k.length := by omega
      obtain ⟨b, o, a1, a2, a3, a4⟩ := hs.elem hil
      obtain ⟨b', o', c1, c2, c3, c4⟩ := ht.elem hik
      simp only [pcV] at a2 c2
      try simp only [go_sem, ruB, h2', a1, a2, c1, c2]
      refine gT.of (fun h3 => ?_) (fun h3 => ?_)
      · have : l ≠ k := by
          rintro rfl
          simp at h3
        try simp only [go_sem, ruB, h3]
        simp [this]
      · have h4 : l[i] = k[i] := by
          apply Prod.ext
          · simp at h3; exact h3.1
          · simp at h3; exact h3.2
        try simp only [go_sem, ruB, h3, step1 (show i < 1000000 by omega)]
        refine ⟨l.length - (i + 1), by omega, i + 1, by omega, rfl, rfl, ?_⟩
        intro j g1 g2 g3
        by_cases e : j = i
        · subst e; exact h4
        · exact hj j g1 g2 (by omega)
    · have : l = k := List.ext_getElem hlk fun j g1 g2 => hj j g1 g2 (by omega)
      try simp only [go_sem, ruB, h2']
      simp [this]

theorem SamePlace_spec {x y : Pl} {v w : Value} (hv : PlV m x v) (hw : PlV m y w) (hl : x.pieces.length < 1000000) (hk : y.pieces.length < 1000000) :
    WC R F.plan_SamePlace [v, w] m fun r m' => r = .bool (decide (x = y)) ∧ Ext m m' := by
  refine WC.of R.plan_SamePlace rfl ?_
  obtain ⟨pv, rfl, hp⟩ := hv
  obtain ⟨qv, rfl, hq⟩ := hw
  have hex : x = y ↔ x.unit = y.unit ∧ x.share = y.share ∧ x.core = y.core ∧ x.pieces = y.pieces := by
    cases x; cases y; simp
  simp only [RC.plan_SamePlace, plV, go_sem, hp.one, hq.one]
  have hx : Ext m (m.new (.cells [.int .i64 x.unit, .int .i64 x.share, .int .i64 x.core, pv] (some 4))) := Ext.new
  have hb : Bk (m.new (.cells [.int .i64 x.unit, .int .i64 x.share, .int .i64 x.core, pv] (some 4))) m.next [.int .i64 x.unit, .int .i64 x.share, .int .i64 x.core, pv] 4 := Bk.new
  generalize m.new (.cells [.int .i64 x.unit, .int .i64 x.share, .int .i64 x.core, pv] (some 4)) = m1 at hx hb ⊢
  have hx2 : Ext m1 (m1.new (.cells [.int .i64 y.unit, .int .i64 y.share, .int .i64 y.core, qv] (some 4))) := Ext.new
  have hb2 : Bk (m1.new (.cells [.int .i64 y.unit, .int .i64 y.share, .int .i64 y.core, qv] (some 4))) m1.next [.int .i64 y.unit, .int .i64 y.share, .int .i64 y.core, qv] 4 := Bk.new
  generalize m1.new (.cells [.int .i64 y.unit, .int .i64 y.share, .int .i64 y.core, qv] (some 4)) = m2 at hx2 hb2 ⊢
  have hb := hb.keep hx2
  have hp := (hp.keep hx).keep hx2
  have hq := (hq.keep hx).keep hx2
  have hX := hx.trans hx2
  try simp only [go_sem, ruB, hb.at_, hb2.at_]
  refine gT.of (fun h1' => ?_) (fun h1' => ?_) <;> (have h1 := h1'; try simp only [decide_eq_true_eq, decide_eq_false_iff_not, beq_iff_eq, bne_iff_ne, beq_eq_false_iff_ne, ne_eq, Bool.not_eq_true', Bool.not_eq_false', bne_eq_false_iff_eq, Int.not_lt, Int.not_le] at h1)
  · try simp only [go_sem, ruB, h1', hb.at_, hb2.at_]
    refine gT.of (fun h2' => ?_) (fun h2' => ?_) <;> (have h2 := h2'; try simp only [decide_eq_true_eq, decide_eq_false_iff_not, beq_iff_eq, bne_iff_ne, beq_eq_false_iff_ne, ne_eq, Bool.not_eq_true', Bool.not_eq_false', bne_eq_false_iff_eq, Int.not_lt, Int.not_le] at h2)
    · try simp only [go_sem, ruB, h2', hb.at_, hb2.at_]
      refine gT.of (fun h3' => ?_) (fun h3' => ?_) <;> (have h3 := h3'; try simp only [decide_eq_true_eq, decide_eq_false_iff_not, beq_iff_eq, bne_iff_ne, beq_eq_false_iff_ne, ne_eq, Bool.not_eq_true', Bool.not_eq_false', bne_eq_false_iff_eq, Int.not_lt, Int.not_le] at h3)
      · try simp only [go_sem, ruB, h3', hb.at_, hb2.at_]
        refine gC.of (Equal_spec hp hq hl hk) ?_
        rintro _ m_ ⟨rfl, hm_⟩
        replace hm_ := hm_.symm
        subst hm_
        simp only [go_sem]
        try simp only [go_sem, ruB]
        refine ⟨?_, hX⟩
        congr 1
        exact decide_eq_decide.2 ⟨fun h => hex.2 ⟨h1, h2, h3, h⟩, fun h => (hex.1 h).2.2.2⟩
      · try simp only [go_sem, ruB, h3']
        exact ⟨fin_no fun h => h3 (hex.1 h).2.2.1, hX⟩
    · try simp only [go_sem, ruB, h2']
      exact ⟨fin_no fun h => h2 (hex.1 h).2.1, hX⟩
  · try simp only [go_sem, ruB, h1']
    exact ⟨fin_no fun h => h1 (hex.1 h).1, hX⟩

theorem refSamePlace_spec {x y : Pl} {v w : Value} (hv : PlV m x v) (hw : PlV m y w) (hl : x.pieces.length < 1000000) (hk : y.pieces.length < 1000000) :
    WC R F.ref16_SamePlace [v, w] m fun r m' => r = .bool (decide (x = y)) ∧ Ext m m' := by
  refine WC.of R.ref16_SamePlace rfl ?_
  obtain ⟨pv, rfl, hp⟩ := hv
  obtain ⟨qv, rfl, hq⟩ := hw
  have hex : x = y ↔ x.unit = y.unit ∧ x.share = y.share ∧ x.core = y.core ∧ x.pieces = y.pieces := by
    cases x; cases y; simp
  simp only [RC.ref16_SamePlace, plV, go_sem, hp.one, hq.one]
  have hx : Ext m (m.new (.cells [.int .i64 x.unit, .int .i64 x.share, .int .i64 x.core, pv] (some 4))) := Ext.new
  have hb : Bk (m.new (.cells [.int .i64 x.unit, .int .i64 x.share, .int .i64 x.core, pv] (some 4))) m.next [.int .i64 x.unit, .int .i64 x.share, .int .i64 x.core, pv] 4 := Bk.new
  generalize m.new (.cells [.int .i64 x.unit, .int .i64 x.share, .int .i64 x.core, pv] (some 4)) = m1 at hx hb ⊢
  have hx2 : Ext m1 (m1.new (.cells [.int .i64 y.unit, .int .i64 y.share, .int .i64 y.core, qv] (some 4))) := Ext.new
  have hb2 : Bk (m1.new (.cells [.int .i64 y.unit, .int .i64 y.share, .int .i64 y.core, qv] (some 4))) m1.next [.int .i64 y.unit, .int .i64 y.share, .int .i64 y.core, qv] 4 := Bk.new
  generalize m1.new (.cells [.int .i64 y.unit, .int .i64 y.share, .int .i64 y.core, qv] (some 4)) = m2 at hx2 hb2 ⊢
  have hb := hb.keep hx2
  have hp := (hp.keep hx).keep hx2
  have hq := (hq.keep hx).keep hx2
  have hX := hx.trans hx2
  try simp only [go_sem, ruB, hb.at_, hb2.at_]
  refine gT.of (fun h1' => ?_) (fun h1' => ?_) <;> (have h1 := h1'; try simp only [decide_eq_true_eq, decide_eq_false_iff_not, beq_iff_eq, bne_iff_ne, beq_eq_false_iff_ne, ne_eq, Bool.not_eq_true', Bool.not_eq_false', bne_eq_false_iff_eq, Int.not_lt, Int.not_le] at h1)
  · try simp only [go_sem, ruB, h1']
    exact ⟨fin_no fun h => h1 (hex.1 h).1, hX⟩
  · try simp only [go_sem, ruB, h1', hb.at_, hb2.at_]
    refine gT.of (fun h2' => ?_) (fun h2' => ?_) <;> (have h2 := h2'; try simp only [decide_eq_true_eq, decide_eq_false_iff_not, beq_iff_eq, bne_iff_ne, beq_eq_false_iff_ne, ne_eq, Bool.not_eq_true', Bool.not_eq_false', bne_eq_false_iff_eq, Int.not_lt, Int.not_le] at h2)
    · try simp only [go_sem, ruB, h2']
      exact ⟨fin_no fun h => h2 (hex.1 h).2.1, hX⟩
    · try simp only [go_sem, ruB, h2', hb.at_, hb2.at_]
      refine gT.of (fun h3' => ?_) (fun h3' => ?_) <;> (have h3 := h3'; try simp only [decide_eq_true_eq, decide_eq_false_iff_not, beq_iff_eq, bne_iff_ne, beq_eq_false_iff_ne, ne_eq, Bool.not_eq_true', Bool.not_eq_false', bne_eq_false_iff_eq, Int.not_lt, Int.not_le] at h3)
      · try simp only [go_sem, ruB, h3']
        exact ⟨fin_no fun h => h3 (hex.1 h).2.2.1, hX⟩
      · try simp only [go_sem, ruB, h3', hb.at_, hb2.at_, hp.len, hq.len]
        refine gT.of (fun h4' => ?_) (fun h4' => ?_) <;> (have h4 := h4'; try simp only [decide_eq_true_eq, decide_eq_false_iff_not, beq_iff_eq, bne_iff_ne, beq_eq_false_iff_ne, ne_eq, Bool.not_eq_true', Bool.not_eq_false', bne_eq_false_iff_eq, Int.not_lt, Int.not_le] at h4)
        · try simp only [go_sem, ruB, h4']
          exact ⟨fin_no fun h => h4 (by rw [(hex.1 h).2.2.2]), hX⟩
        · have hlk : x.pieces.length = y.pieces.length := by have := h4; omega
          try simp only [go_sem, ruB, h4']
          refine WL.of (fun n e m' => ∃ i : Nat, i ≤ x.pieces.length ∧ n = x.pieces.length - i ∧ e = [(2, pt m.next), (3, pt m1.next), (5, .int .i64 i)] ∧ (∀ j (h1 : j < x.pieces.length) (h2 : j < y.pieces.length), j < i → x.pieces[j] = y.pieces[j]) ∧ m' = m2) x.pieces.length
            ⟨0, by omega, by omega, by simp only [go_sem] <;> rfl, fun _ _ _ h => by omega, rfl⟩ ?_
          rintro _ _ _ ⟨i, hi, rfl, rfl, hj, hm⟩
          replace hm := hm.symm
          subst hm
          simp only [RB.ref16_SamePlace_1, pt, go_sem, ruB, hb.at_, hp.len]
          refine gT.of (fun h5' => ?_) (fun h5' => ?_) <;> (have h5 := h5'; try simp only [decide_eq_true_eq, decide_eq_false_iff_not, beq_iff_eq, bne_iff_ne, beq_eq_false_iff_ne, ne_eq, Bool.not_eq_true', Bool.not_eq_false', bne_eq_false_iff_eq, Int.not_lt, Int.not_le] at h5)
          · have hil : i < x.pieces.length := by omega
            have hik : i < y.pieces.length := by omega
            obtain ⟨b, o, a1, a2, a3, a4⟩ := hp.elem hil
            obtain ⟨b', o', c1, c2, c3, c4⟩ := hq.elem hik
            simp only [pcV] at a2 c2
            try simp only [go_sem, ruB, h5', a1, a2, c1, c2, hb.at_, hb2.at_]
            refine gT.of (fun h6 => ?_) (fun h6 => ?_)
            · have : x ≠ y := by
                rintro rfl
                simp at h6
              try simp only [go_sem, ruB, h6]
              exact ⟨fin_no this, hX⟩
            · have h7 : x.pieces[i] = y.pieces[i] := by
                apply Prod.ext
                · simp at h6; exact h6.1
                · simp at h6; exact h6.2
              try simp only [go_sem, ruB, h6, step1 (show i < 1000000 by omega)]
              refine ⟨x.pieces.length - (i + 1), by omega, i + 1, by omega, rfl, rfl, ?_⟩
              intro j g1 g2 g3
              by_cases e : j = i
              · subst e; exact h7
              · exact hj j g1 g2 (by omega)
          · have : x.pieces = y.pieces := List.ext_getElem hlk fun j g1 g2 => hj j g1 g2 (by omega)
            try simp only [go_sem, ruB, h5']
            exact ⟨fin_yes (hex.2 ⟨h1, h2, h3, this⟩), hX⟩
end Go.Am


/- What putting behind a slice touches: its own block alone. -/
set_option linter.unusedVariables false
namespace Go.Am

/-- The block of a slice. -/
def vb : Value → List Nat
  | .slice (some a) _ _ => [a.block]
  | _ => []

theorem SlOff.vb_iff {v : Value} {fp : List Nat} : SlOff fp v ↔ ∀ b ∈ vb v, b ∉ fp := by
  unfold SlOff vb
  split <;> simp
theorem SlLt.vb_iff {m : Mem} {v : Value} : SlLt m v ↔ ∀ b ∈ vb v, b < m.next := by
  unfold SlLt vb
  split <;> simp

theorem aWrite_upd {m m' : Mem} {b o : Nat} {xs : List Value} (h : aWrite m b o xs = some m') : Upd m m' [b] ∧ m'.next = m.next := by
  unfold aWrite at h
  split at h
  · split at h
    · cases h; exact ⟨Upd.set (by simp), rfl⟩
    · cases h
  · cases h

/-- A function value is called. -/
def gV (R : Nat → Option FEnt) (fv : Value) (vs : List Value) (m : Mem) (Q : Value → Mem → Prop) (_ : Ph Q := ph) : Prop := ∃ f a b, fv = .func (.func f) a b ∧ WC R f (a.toList ++ vs ++ b.toList) m Q
theorem a_callv {R : Nat → Option FEnt} {at_ : Option Nat} {e : Env} {m : Mem} {Q : Value → Mem → Prop} {x : X} {xs : List X} : gpA R at_ e m (.callv x xs) Q = Got (x.ev e) fun fv => Got (evs e xs) fun vs => gV R fv vs m Q := by
  refine propext ⟨?_, ?_⟩
  · rintro ⟨f, a, b, vs, h1, h2, h3⟩; exact ⟨_, h1, _, h2, f, a, b, rfl, h3⟩
  · rintro ⟨_, h1, vs, h2, f, a, b, rfl, h3⟩; exact ⟨f, a, b, vs, h1, h2, h3⟩
theorem gV_func {R : Nat → Option FEnt} {m : Mem} {Q : Value → Mem → Prop} {f : Nat} {vs : List Value} : gV R (.func (.func f) #[] #[]) vs m Q = gC R f vs m Q := by
  refine propext ⟨?_, fun h => ⟨f, #[], #[], rfl, by have h : WC R f vs m Q := h; simpa using h⟩⟩
  rintro ⟨_, _, _, h, k⟩
  cases h
  show WC R f vs m Q
  simpa using k
attribute [go_sem] a_callv gV_func

theorem gV.of {R : Nat → Option FEnt} {fv : Value} {vs : List Value} {m : Mem} {Q Q' : Value → Mem → Prop} (h : gV R fv vs m Q') (k : ∀ v m', Q' v m' → Q v m') : gV R fv vs m Q := by
  obtain ⟨f, a, b, rfl, h2⟩ := h
  exact ⟨f, a, b, rfl, h2.mono k⟩
theorem Own.updq {m0 m m' : Mem} {u n : Nat} {cs : List Value} {v : Value} {fp : List Nat} (h : Own m0 m u n cs v) (hx : Upd m m' fp) (ho : ∀ b ∈ vb v, b ∉ fp) : Own m0 m' u n cs v := by
  cases h with
  | nil h hc => exact .nil h hc
  | @«at» b c all hb hb2 hn hm hl hcs h1 => exact .at hb (Nat.lt_of_lt_of_le hb2 hx.next) hn (by rw [hx.same b hb2 (ho b (by simp [vb]))]; exact hm) hl hcs h1
end Go.Am


/- PlanX5 over the table of stagez (relayset.py). -/
set_option linter.unusedVariables false
set_option linter.unusedSimpArgs false
namespace Go.Am
open Classical
variable {m : Mem}

theorem fin_no2 {P : Prop} [Decidable P] (h : ¬ P) : (Value.bool false = Value.bool (decide P)) := by rw [decide_eq_false h]
theorem fin_yes2 {P : Prop} [Decidable P] (h : P) : (Value.bool true = Value.bool (decide P)) := by rw [decide_eq_true h]

theorem EqualFunc_spec {l k : List Pl} {v w : Value} (hs : PlsV m l v) (ht : PlsV m k w) (hl : l.length < 1000000) (hk : k.length < 1000000) (hl2 : ∀ x ∈ l, x.pieces.length < 1000000) (hk2 : ∀ x ∈ k, x.pieces.length < 1000000) :
    WC R F.slices_EqualFunc_api_Place_api_Place_api_Place_api_Place [v, w, .func (.func F.plan_SamePlace) #[] #[]] m fun r m' => r = .bool (decide (l = k)) ∧ Ext m m' := by
  refine WC.of R.slices_EqualFunc_api_Place_api_Place_api_Place_api_Place rfl ?_
  simp only [RC.slices_EqualFunc_api_Place_api_Place_api_Place_api_Place, go_sem, hs.len, ht.len]
  refine gT.of (fun h' => ?_) (fun h' => ?_) <;> (have h := h'; try simp only [decide_eq_true_eq, decide_eq_false_iff_not, beq_iff_eq, bne_iff_ne, beq_eq_false_iff_ne, ne_eq, Bool.not_eq_true', Bool.not_eq_false', bne_eq_false_iff_eq, Int.not_lt, Int.not_le] at h)
  · have : l ≠ k := by rintro rfl; exact h rfl
    try simp only [go_sem, ruB, h']
    exact ⟨fin_no2 this, Ext.refl _⟩
  · have hlk : l.length = k.length := by have := h; omega
    try simp only [go_sem, ruB, h', hs.len]
    refine WL.of (fun n e m' => ∃ i : Nat, i ≤ l.length ∧ n = l.length - i ∧ e = [(1, w), (2, .func (.func F.plan_SamePlace) #[] #[]), (15, v), (16, .int .i64 l.length), (17, .int .i64 i)] ∧ (∀ j (h1 : j < l.length) (h2 : j < k.length), j < i → l[j] = k[j]) ∧ Ext m m') l.length
      ⟨0, by omega, by omega, by simp only [go_sem] <;> rfl, fun _ _ _ h => by omega, Ext.refl _⟩ ?_
    rintro _ _ m1 ⟨i, hi, rfl, rfl, hj, hx⟩
    have hs1 := hs.keep hx
    have ht1 := ht.keep hx
    simp only [RB.slices_EqualFunc_api_Place_api_Place_api_Place_api_Place_1, go_sem]
    refine gT.of (fun h2' => ?_) (fun h2' => ?_) <;> (have h2 := h2'; try simp only [decide_eq_true_eq, decide_eq_false_iff_not, beq_iff_eq, bne_iff_ne, beq_eq_false_iff_ne, ne_eq, Bool.not_eq_true', Bool.not_eq_false', bne_eq_false_iff_eq, Int.not_lt, Int.not_le] at h2)
    · have hil : i < l.length := by omega
      have hik : i < k.length := by omega
      obtain ⟨b, o, pv, a1, a2, a3, a4, a5⟩ := hs1.elem hil
      obtain ⟨b', o', qv, c1, c2, c3, c4, c5⟩ := ht1.elem hik
      have g1 := hl2 _ (List.getElem_mem hil)
      have g2 := hk2 _ (List.getElem_mem hik)
      have s1 := step1 (show i < 1000000 by omega)
      have bad : l[i] ≠ k[i] → l ≠ k := by rintro h rfl; exact h rfl
      generalize hxx : l[i] = x at *
      generalize hyy : k[i] = y at *
      simp only [plV] at a2 c2
      try simp only [go_sem, ruB, h2', a1, a2, a4.one]
      have hx2 : Ext m1 (m1.new (.cells [.int .i64 x.unit, .int .i64 x.share, .int .i64 x.core, pv] (some 4))) := Ext.new
      have hb2 : Bk (m1.new (.cells [.int .i64 x.unit, .int .i64 x.share, .int .i64 x.core, pv] (some 4))) m1.next [.int .i64 x.unit, .int .i64 x.share, .int .i64 x.core, pv] 4 := Bk.new
      generalize m1.new (.cells [.int .i64 x.unit, .int .i64 x.share, .int .i64 x.core, pv] (some 4)) = m2 at hx2 hb2 ⊢
      rw [← load_ext hx2 c5] at c2
      try simp only [go_sem, ruB, c1, c2, c4.one, hb2.ne, hb2.at_]
      have hx3 : Ext m2 (m2.new (.cells [.int .i64 y.unit, .int .i64 y.share, .int .i64 y.core, qv] (some 4))) := Ext.new
      have hb3 : Bk (m2.new (.cells [.int .i64 y.unit, .int .i64 y.share, .int .i64 y.core, qv] (some 4))) m2.next [.int .i64 y.unit, .int .i64 y.share, .int .i64 y.core, qv] 4 := Bk.new
      generalize m2.new (.cells [.int .i64 y.unit, .int .i64 y.share, .int .i64 y.core, qv] (some 4)) = m3 at hx3 hb3 ⊢
      have hb4 := hb2.keep hx3
      have hx23 := hx2.trans hx3
      try simp only [go_sem, ruB, hb3.at_, hb4.at_]
      refine gC.of (SamePlace_spec (x := x) (y := y) ⟨pv, rfl, a4.keep hx23⟩ ⟨qv, rfl, c4.keep hx23⟩ g1 g2) ?_
      rintro _ m4 ⟨rfl, hx4⟩
      simp only [go_sem]
      refine gT.of (fun h3' => ?_) (fun h3' => ?_) <;> (have h3 := h3'; try simp only [decide_eq_true_eq, decide_eq_false_iff_not, beq_iff_eq, bne_iff_ne, beq_eq_false_iff_ne, ne_eq, Bool.not_eq_true', Bool.not_eq_false', bne_eq_false_iff_eq, Int.not_lt, Int.not_le] at h3)
      · try simp only [go_sem, ruB, h3']
        exact ⟨fin_no2 (bad h3), hx.trans (hx23.trans hx4)⟩
      · have h4 : x = y := by simpa using h3'
        try simp only [go_sem, ruB, h3', s1]
        refine ⟨l.length - (i + 1), by omega, i + 1, by omega, rfl, rfl, ?_, hx.trans (hx23.trans hx4)⟩
        intro j q1 q2 q3
        by_cases e : j = i
        · subst e; rw [hxx, hyy]; exact h4
        · exact hj j q1 q2 (by omega)
    · have : l = k := List.ext_getElem hlk fun j g1 g2 => hj j g1 g2 (by omega)
      try simp only [go_sem, ruB, h2']
      exact ⟨fin_yes2 this, hx⟩

theorem plan_ext {p q : PlanD} : p = q ↔ p.frame = q.frame ∧ p.cores = q.cores ∧ p.places = q.places := by
  cases p; cases q; simp

theorem Same_spec {p q : PlanD} {v w : Value} (hv : PlanV m p v) (hw : PlanV m q w) (hl : PlanL p) (hk : PlanL q) :
    WC R F.plan_Same [v, w] m fun r m' => r = .bool (decide (p = q)) ∧ Ext m m' := by
  refine WC.of R.plan_Same rfl ?_
  obtain ⟨pv, rfl, hp⟩ := hv
  obtain ⟨qv, rfl, hq⟩ := hw
  simp only [RC.plan_Same, planV, go_sem, hp.one, hq.one]
  have hx : Ext m (m.new (.cells [.int .i64 p.frame, u32 p.cores, pv] (some 3))) := Ext.new
  have hb : Bk (m.new (.cells [.int .i64 p.frame, u32 p.cores, pv] (some 3))) m.next [.int .i64 p.frame, u32 p.cores, pv] 3 := Bk.new
  generalize m.new (.cells [.int .i64 p.frame, u32 p.cores, pv] (some 3)) = m1 at hx hb ⊢
  have hx2 : Ext m1 (m1.new (.cells [.int .i64 q.frame, u32 q.cores, qv] (some 3))) := Ext.new
  have hb2 : Bk (m1.new (.cells [.int .i64 q.frame, u32 q.cores, qv] (some 3))) m1.next [.int .i64 q.frame, u32 q.cores, qv] 3 := Bk.new
  generalize m1.new (.cells [.int .i64 q.frame, u32 q.cores, qv] (some 3)) = m2 at hx2 hb2 ⊢
  have hb := hb.keep hx2
  have hp := (hp.keep hx).keep hx2
  have hq := (hq.keep hx).keep hx2
  have hX := hx.trans hx2
  try simp only [go_sem, ruB, hb.at_, hb2.at_]
  refine gT.of (fun h1' => ?_) (fun h1' => ?_) <;> (have h1 := h1'; try simp only [decide_eq_true_eq, decide_eq_false_iff_not, beq_iff_eq, bne_iff_ne, beq_eq_false_iff_ne, ne_eq, Bool.not_eq_true', Bool.not_eq_false', bne_eq_false_iff_eq, Int.not_lt, Int.not_le] at h1)
  · try simp only [go_sem, ruB, h1', hb.at_, hb2.at_]
    refine gT.of (fun h2' => ?_) (fun h2' => ?_) <;> (have h2 := h2'; try simp only [decide_eq_true_eq, decide_eq_false_iff_not, beq_iff_eq, bne_iff_ne, beq_eq_false_iff_ne, ne_eq, Bool.not_eq_true', Bool.not_eq_false', bne_eq_false_iff_eq, Int.not_lt, Int.not_le] at h2)
    · try simp only [go_sem, ruB, h2', hb.at_, hb2.at_]
      refine gC.of (EqualFunc_spec hp hq hl.len hk.len hl.pcs hk.pcs) ?_
      rintro _ m3 ⟨rfl, hx3⟩
      simp only [go_sem]
      try simp only [go_sem, ruB]
      refine ⟨?_, hX.trans hx3⟩
      congr 1
      exact decide_eq_decide.2 ⟨fun h => plan_ext.2 ⟨h1, h2, h⟩, fun h => (plan_ext.1 h).2.2⟩
    · try simp only [go_sem, ruB, h2']
      exact ⟨fin_no fun h => h2 (plan_ext.1 h).2.1, hX⟩
  · try simp only [go_sem, ruB, h1']
    exact ⟨fin_no fun h => h1 (plan_ext.1 h).1, hX⟩

theorem refSame_spec {p q : PlanD} {v w : Value} (hv : PlanV m p v) (hw : PlanV m q w) (hl : PlanL p) (hk : PlanL q) :
    WC R F.ref16_Same [v, w] m fun r m' => r = .bool (decide (p = q)) ∧ Ext m m' := by
  refine WC.of R.ref16_Same rfl ?_
  obtain ⟨pv, rfl, hp⟩ := hv
  obtain ⟨qv, rfl, hq⟩ := hw
  simp only [RC.ref16_Same, planV, go_sem, hp.one, hq.one]
  have hx : Ext m (m.new (.cells [.int .i64 p.frame, u32 p.cores, pv] (some 3))) := Ext.new
  have hb : Bk (m.new (.cells [.int .i64 p.frame, u32 p.cores, pv] (some 3))) m.next [.int .i64 p.frame, u32 p.cores, pv] 3 := Bk.new
  generalize m.new (.cells [.int .i64 p.frame, u32 p.cores, pv] (some 3)) = m1 at hx hb ⊢
  have hx2 : Ext m1 (m1.new (.cells [.int .i64 q.frame, u32 q.cores, qv] (some 3))) := Ext.new
  have hb2 : Bk (m1.new (.cells [.int .i64 q.frame, u32 q.cores, qv] (some 3))) m1.next [.int .i64 q.frame, u32 q.cores, qv] 3 := Bk.new
  generalize m1.new (.cells [.int .i64 q.frame, u32 q.cores, qv] (some 3)) = m2 at hx2 hb2 ⊢
  have hb := hb.keep hx2
  have hp := (hp.keep hx).keep hx2
  have hq := (hq.keep hx).keep hx2
  have hX := hx.trans hx2
  have hlen := hl.len
  try simp only [go_sem, ruB, hb.at_, hb2.at_]
  refine gT.of (fun h1' => ?_) (fun h1' => ?_) <;> (have h1 := h1'; try simp only [decide_eq_true_eq, decide_eq_false_iff_not, beq_iff_eq, bne_iff_ne, beq_eq_false_iff_ne, ne_eq, Bool.not_eq_true', Bool.not_eq_false', bne_eq_false_iff_eq, Int.not_lt, Int.not_le] at h1)
  · try simp only [go_sem, ruB, h1']
    exact ⟨fin_no fun h => h1 (plan_ext.1 h).1, hX⟩
  · try simp only [go_sem, ruB, h1', hb.at_, hb2.at_]
    refine gT.of (fun h2' => ?_) (fun h2' => ?_) <;> (have h2 := h2'; try simp only [decide_eq_true_eq, decide_eq_false_iff_not, beq_iff_eq, bne_iff_ne, beq_eq_false_iff_ne, ne_eq, Bool.not_eq_true', Bool.not_eq_false', bne_eq_false_iff_eq, Int.not_lt, Int.not_le] at h2)
    · try simp only [go_sem, ruB, h2']
      exact ⟨fin_no fun h => h2 (plan_ext.1 h).2.1, hX⟩
    · try simp only [go_sem, ruB, h2', hb.at_, hb2.at_, hp.len, hq.len]
      refine gT.of (fun h3' => ?_) (fun h3' => ?_) <;> (have h3 := h3'; try simp only [decide_eq_true_eq, decide_eq_false_iff_not, beq_iff_eq, bne_iff_ne, beq_eq_false_iff_ne, ne_eq, Bool.not_eq_true', Bool.not_eq_false', bne_eq_false_iff_eq, Int.not_lt, Int.not_le] at h3)
      · try simp only [go_sem, ruB, h3']
        exact ⟨fin_no fun h => h3 (by rw [(plan_ext.1 h).2.2]), hX⟩
      · have hlk : p.places.length = q.places.length := by have := h3; omega
        try simp only [go_sem, ruB, h3']
        refine WL.of (fun n e m' => ∃ i : Nat, i ≤ p.places.length ∧ n = p.places.length - i ∧ e = [(2, pt m.next), (3, pt m1.next), (5, .int .i64 i)] ∧ (∀ j (h1 : j < p.places.length) (h2 : j < q.places.length), j < i → p.places[j] = q.places[j]) ∧ Ext m2 m') p.places.length
          ⟨0, by omega, by omega, by simp only [go_sem] <;> rfl, fun _ _ _ h => by omega, Ext.refl _⟩ ?_
        rintro _ _ m3 ⟨i, hi, rfl, rfl, hj, hx3⟩
        have hb3 := hb.keep hx3
        have hc3 := hb2.keep hx3
        have hp3 := hp.keep hx3
        have hq3 := hq.keep hx3
        simp only [RB.ref16_Same_1, pt, go_sem, ruB, hb3.at_, hp3.len]
        refine gT.of (fun h4' => ?_) (fun h4' => ?_) <;> (have h4 := h4'; try simp only [decide_eq_true_eq, decide_eq_false_iff_not, beq_iff_eq, bne_iff_ne, beq_eq_false_iff_ne, ne_eq, Bool.not_eq_true', Bool.not_eq_false', bne_eq_false_iff_eq, Int.not_lt, Int.not_le] at h4)
        · have hil : i < p.places.length := by omega
          have hik : i < q.places.length := by omega
          obtain ⟨b, o, pv', a1, a2, a3, a4, a5⟩ := hp3.elem hil
          obtain ⟨b', o', qv', c1, c2, c3, c4, c5⟩ := hq3.elem hik
          have g1 := hl.pcs _ (List.getElem_mem hil)
          have g2 := hk.pcs _ (List.getElem_mem hik)
          have s1 := step1 (show i < 1000000 by omega)
          have bad : p.places[i] ≠ q.places[i] → p ≠ q := by rintro h rfl; exact h rfl
          generalize hxx : p.places[i] = x at *
          generalize hyy : q.places[i] = y at *
          try simp only [go_sem, ruB, h4', a1, a2, c1, c2, hb3.at_, hc3.at_]
          refine gC.of (refSamePlace_spec (x := x) (y := y) ⟨pv', rfl, a4⟩ ⟨qv', rfl, c4⟩ g1 g2) ?_
          rintro _ m4 ⟨rfl, hx4⟩
          simp only [go_sem]
          refine gT.of (fun h5' => ?_) (fun h5' => ?_) <;> (have h5 := h5'; try simp only [decide_eq_true_eq, decide_eq_false_iff_not, beq_iff_eq, bne_iff_ne, beq_eq_false_iff_ne, ne_eq, Bool.not_eq_true', Bool.not_eq_false', bne_eq_false_iff_eq, Int.not_lt, Int.not_le] at h5)
          · try simp only [go_sem, ruB, h5']
            exact ⟨fin_no (bad h5), hX.trans (hx3.trans hx4)⟩
          · have h6 : x = y := by simpa using h5'
            try simp only [go_sem, ruB, h5', s1]
            refine ⟨p.places.length - (i + 1), by omega, i + 1, by omega, rfl, rfl, ?_, hx3.trans hx4⟩
            intro j q1 q2 q3
            by_cases e : j = i
            · subst e; rw [hxx, hyy]; exact h6
            · exact hj j q1 q2 (by omega)
        · have : p.places = q.places := List.ext_getElem hlk fun j g1 g2 => hj j g1 g2 (by omega)
          try simp only [go_sem, ruB, h4']
          exact ⟨fin_yes (plan_ext.2 ⟨by simpa using h1', by simpa using h2', this⟩), hX.trans hx3⟩
end Go.Am


/- PlanM3 over the table of stagez (relayset.py). -/
set_option linter.unusedVariables false
set_option linter.unusedSimpArgs false
namespace Go.Am
open Classical

theorem orW_bit {t : Nat} : ∀ {l : List Pc}, (orW l).getLsbD t = l.any fun y => y.2.getLsbD t := by
  have : ∀ (l : List Pc) (a : BitVec 64), (l.foldl (fun a y => a ||| y.2) a).getLsbD t = (a.getLsbD t || l.any fun y => y.2.getLsbD t) := by
    intro l
    induction l with
    | nil => intro a; simp
    | cons y l ih => intro a; rw [List.foldl_cons, ih, BitVec.getLsbD_or, List.any_cons, Bool.or_assoc]
  intro l
  unfold orW; rw [this]; simp

theorem cntA_eq {x : Pl} {t : Nat} (ht : t < 64) : cntA x t = x.pieces.countP fun y => y.2.getLsbD t := by
  unfold cntA
  exact List.countP_congr fun y _ => by rw [atB_all ht]

theorem any_count {α : Type} {f : α → Bool} {l : List α} : (l.any f = true) ↔ 0 < l.countP f := by
  rw [List.countP_pos_iff, List.any_eq_true]

theorem and_zero {a b : BitVec 64} : (a &&& b) = 0#64 ↔ ∀ t, t < 64 → ¬ (a.getLsbD t = true ∧ b.getLsbD t = true) := by
  constructor
  · intro h t _ ⟨h1, h2⟩
    have := congrArg (fun z => z.getLsbD t) h
    simp [h1, h2] at this
  · intro h
    refine word_ext fun t ht => ?_
    have := h t ht
    rw [BitVec.getLsbD_and]
    simp only [BitVec.getLsbD_zero]
    cases e1 : a.getLsbD t <;> cases e2 : b.getLsbD t <;> simp_all

/-- At most one at each tick: each one meets nobody ahead of it. -/
theorem once_iff {l : List Pc} {t : Nat} : (l.countP fun y => y.2.getLsbD t) ≤ 1 ↔ ∀ i (h : i < l.length), ¬ (l[i].2.getLsbD t = true ∧ (orW (l.take i)).getLsbD t = true) := by
  constructor
  · intro h i hi ⟨h1, h2⟩
    rw [orW_bit, any_count] at h2
    have e := countP_take (f := fun (y : Pc) => y.2.getLsbD t) hi
    rw [if_pos h1] at e
    have : (l.take (i + 1)).countP (fun y => y.2.getLsbD t) ≤ l.countP (fun y => y.2.getLsbD t) := (List.take_sublist _ _).countP_le
    omega
  · intro h
    have : ∀ n, n ≤ l.length → (l.take n).countP (fun y => y.2.getLsbD t) ≤ 1 := by
      intro n
      induction n with
      | zero => intro _; simp
      | succ n ih =>
        intro hn
        have e := countP_take (f := fun (y : Pc) => y.2.getLsbD t) (show n < l.length by omega)
        have := ih (by omega)
        rw [e]
        split
        · rename_i hb
          have := h n (by omega)
          rw [orW_bit, any_count] at this
          have : ¬ 0 < (l.take n).countP (fun y => y.2.getLsbD t) := fun g => this ⟨hb, g⟩
          omega
        · omega
    have := this l.length (Nat.le_refl _)
    rwa [List.take_length] at this

theorem pop_cnt {x : Pl} (h : ∀ t, t < 64 → cntA x t ≤ 1) : (pop (orW x.pieces) : Int) = sumA x 64 := by
  rw [pop_tks, tks_S, sumA_S]
  refine S_congr fun t ht => ?_
  have h1 := h t ht
  rw [cntA_eq ht] at *
  split
  · rename_i e; rw [orW_bit, any_count] at e; omega
  · rename_i e; rw [orW_bit, any_count] at e; omega

theorem pcs_iff {p : PlanD} {x : Pl} (h2 : 2 ≤ p.frame) (h64 : p.frame ≤ 64) (hne : x.pieces.length ≠ 0) :
    pcsP p x ↔ ((∀ i, i < x.pieces.length → pcOk p x.pieces i) ∧ (∀ t, t < 64 → cntA x t ≤ 1 ∧ (0 < cntA x t → (t : Int) < p.frame)) ∧ 2 ≤ x.pieces.length ∧ x.core = 0 ∧ (sumA x 64 : Int) = x.share) := by
  have hfr : (fr p.frame).toNat = p.frame.toNat := by unfold fr; omega
  have hin : (∀ i, i < x.pieces.length → pcIn p x.pieces i) ↔ ∀ t, t < 64 → cntA x t ≤ 1 ∧ (0 < cntA x t → (t : Int) < p.frame) := by
    constructor
    · intro h t ht
      rw [cntA_eq ht]
      refine ⟨once_iff.2 fun i hi => ?_, fun hpos => ?_⟩
      · obtain ⟨_, _, g⟩ := h i hi
        exact and_zero.1 g t ht
      · rw [← any_count, List.any_eq_true] at hpos
        obtain ⟨y, hy, hb⟩ := hpos
        obtain ⟨i, hi, rfl⟩ := List.getElem_of_mem hy
        obtain ⟨_, g, _⟩ := h i hi
        have := and_zero.1 g t ht
        rw [hfr, BitVec.getLsbD_not, allB_bit] at this
        simp [hb, ht] at this
        omega
    · intro h i hi
      refine ⟨hi, and_zero.2 fun t ht ⟨h1, h3⟩ => ?_, and_zero.2 fun t ht => ?_⟩
      · rw [hfr, BitVec.getLsbD_not, allB_bit] at h3
        have := (h t ht).2 (by rw [cntA_eq ht, ← any_count, List.any_eq_true]; exact ⟨_, List.getElem_mem hi, h1⟩)
        simp [ht] at h3
        omega
      · have := (h t ht).1
        rw [cntA_eq ht] at this
        exact once_iff.1 this i hi
  unfold pcsP
  constructor
  · rintro ⟨a, b, c, d⟩
    have q := hin.1 fun i hi => (a i hi).2
    exact ⟨fun i hi => (a i hi).1, q, by omega, c, by rw [← pop_cnt fun t ht => (q t ht).1]; exact d⟩
  · rintro ⟨a, q, b, c, d⟩
    exact ⟨fun i hi => ⟨a i hi, hin.2 q i hi⟩, by omega, c, by rw [pop_cnt fun t ht => (q t ht).1]; exact d⟩

theorem place_iff {p : PlanD} {x : Pl} (h2 : 2 ≤ p.frame) (h64 : p.frame ≤ 64) : placeP p x ↔ refPlaceP p x := by
  unfold placeP refPlaceP
  constructor
  · rintro ⟨a, b, c, d, e⟩; exact ⟨a, b, c, d, fun h => (pcs_iff h2 h64 h).1 (e h)⟩
  · rintro ⟨a, b, c, d, e⟩; exact ⟨a, b, c, d, fun h => (pcs_iff h2 h64 h).2 (e h)⟩

theorem flat_cnt {l : List Pl} {c t : Int} : cntL l c t = (l.flatMap (·.pieces)).countP (atB c t) := by
  induction l with
  | nil => rfl
  | cons x l ih => rw [cntL_cons, ih, List.flatMap_cons, List.countP_append]

theorem wAt_bit {ps : List Pc} {c t : Nat} (ht : t < 64) : (wAt ps (c : Nat)).getLsbD t = true ↔ 0 < ps.countP (atB (c : Nat) (t : Nat)) := by
  unfold wAt
  rw [winPc_bit]
  simp only [BitVec.getLsbD_zero, Bool.false_or]
  rw [any_count]
  have : ps.countP (fun y => decide (y.1 = (c : Int)) && y.2.getLsbD t) = ps.countP (atB (c : Nat) (t : Nat)) := List.countP_congr fun y _ => by rw [atB_eq ht]
  rw [this]

theorem apart_iff {ps : List Pc} (hc : ∀ y ∈ ps, 0 ≤ y.1 ∧ y.1 < 16) : apartP ps ↔ ∀ c, c < 16 → ∀ t, t < 64 → ps.countP (atB (c : Nat) (t : Nat)) ≤ 1 := by
  constructor
  · intro h c hc16 t ht
    have : ∀ n, n ≤ ps.length → (ps.take n).countP (atB (c : Nat) (t : Nat)) ≤ 1 := by
      intro n
      induction n with
      | zero => intro _; simp
      | succ n ih =>
        intro hn
        have e := countP_take (f := atB (c : Nat) (t : Nat)) (show n < ps.length by omega)
        have := ih (by omega)
        rw [e]
        split
        · rename_i hb
          have g := and_zero.1 (h n (by omega)) t ht
          rw [atB_eq ht] at hb
          simp only [Bool.and_eq_true, decide_eq_true_eq] at hb
          have hn0 : ¬ 0 < (ps.take n).countP (atB (c : Nat) (t : Nat)) := by
            intro hpos
            refine g ⟨?_, hb.2⟩
            rw [hb.1]
            exact (wAt_bit ht).2 hpos
          omega
        · omega
    have := this ps.length (Nat.le_refl _)
    rwa [List.take_length] at this
  · intro h i hi
    refine and_zero.2 fun t ht ⟨h1, h2⟩ => ?_
    obtain ⟨h0, h16⟩ := hc _ (List.getElem_mem hi)
    obtain ⟨c, hcc⟩ := Int.eq_ofNat_of_zero_le h0
    rw [hcc] at h1 h16
    have hpos := (wAt_bit ht).1 h1
    have e := countP_take (f := atB (c : Nat) (t : Nat)) hi
    rw [if_pos (by rw [atB_eq ht]; simp [hcc, h2])] at e
    have : (ps.take (i + 1)).countP (atB (c : Nat) (t : Nat)) ≤ ps.countP (atB (c : Nat) (t : Nat)) := (List.take_sublist _ _).countP_le
    have := h c (by omega) t ht
    omega

/-- Both call the same plans right. -/
theorem check_iff {p : PlanD} : CheckP p ↔ RightP p := by
  unfold CheckP RightP
  have hcores : p.cores >>> 16 = 0#32 ↔ p.cores.toNat ≤ 65535 := by
    rw [← BitVec.toNat_inj, BitVec.toNat_ushiftRight, Nat.shiftRight_eq_div_pow]
    have := p.cores.isLt
    simp; omega
  constructor
  · rintro ⟨a, b, c, d, e, f, g, h⟩
    refine ⟨a, b, c, hcores.1 d, fun i hi => ?_, ?_, g, fun c hc => ?_⟩
    · obtain ⟨q, r, s⟩ := e i hi
      exact ⟨q, (place_iff a b).1 r, s⟩
    · intro c hc t ht
      rw [flat_cnt]
      have hf : preP p.places p.places.length = p.places.flatMap (·.pieces) := by unfold preP; rw [List.take_length]
      rw [hf] at f
      exact (apart_iff (by
        intro y hy
        obtain ⟨x, hx, hy⟩ := List.mem_flatMap.1 hy
        exact plC_cores e x hx y hy)).1 f c hc t ht
    · have := h c hc
      rw [leftP_eq] at this; omega
  · rintro ⟨a, b, c, d, e, f, g, h⟩
    have e' : ∀ i, i < p.places.length → plC p i := fun i hi => by
      obtain ⟨q, r, s⟩ := e i hi
      exact ⟨q, (place_iff a b).2 r, s⟩
    refine ⟨a, b, c, hcores.2 d, e', ?_, g, fun c hc => ?_⟩
    · have hf : preP p.places p.places.length = p.places.flatMap (·.pieces) := by unfold preP; rw [List.take_length]
      rw [hf]
      refine (apart_iff (by
        intro y hy
        obtain ⟨x, hx, hy⟩ := List.mem_flatMap.1 hy
        exact plC_cores e' x hx y hy)).2 fun c hc t ht => ?_
      rw [← flat_cnt]; exact f c hc t ht
    · have := h c hc
      rw [leftP_eq]; omega
end Go.Am


/- PlanY1 over the table of stagez (relayset.py). -/
set_option linter.unusedVariables false
set_option linter.unusedSimpArgs false
namespace Go.Am
open Classical
variable {m : Mem}

def cmpI (a b : Int) : Int := if a < b then -1 else if b < a then 1 else 0

theorem isNaN_spec {a : Int} : WC R F.cmp_isNaN_int [.int .i64 a] m fun r m' => r = .bool false ∧ m' = m := by
  refine WC.of R.cmp_isNaN_int rfl ?_
  simp only [RC.cmp_isNaN_int, go_sem]

theorem Compare_spec {a b : Int} : WC R F.cmp_Compare_int [.int .i64 a, .int .i64 b] m fun r m' => r = .int .i64 (cmpI a b) ∧ m' = m := by
  refine WC.of R.cmp_Compare_int rfl ?_
  simp only [RC.cmp_Compare_int, go_sem]
  refine gC.of isNaN_spec ?_
  rintro _ m_ ⟨rfl, hm_⟩
  replace hm_ := hm_.symm
  subst hm_
  simp only [go_sem]
  refine gC.of isNaN_spec ?_
  rintro _ m_ ⟨rfl, hm_⟩
  replace hm_ := hm_.symm
  subst hm_
  simp only [go_sem]
  unfold cmpI
  refine gT.of (fun h1' => ?_) (fun h1' => ?_) <;> (have h1 := h1'; try simp only [decide_eq_true_eq, decide_eq_false_iff_not, beq_iff_eq, bne_iff_ne, beq_eq_false_iff_ne, ne_eq, Bool.not_eq_true', Bool.not_eq_false', bne_eq_false_iff_eq, Int.not_lt, Int.not_le] at h1)
  · try simp only [go_sem, ruB, h1']
    rw [if_pos h1]
  · try simp only [go_sem, ruB, h1']
    refine gT.of (fun h2' => ?_) (fun h2' => ?_) <;> (have h2 := h2'; try simp only [decide_eq_true_eq, decide_eq_false_iff_not, beq_iff_eq, bne_iff_ne, beq_eq_false_iff_ne, ne_eq, Bool.not_eq_true', Bool.not_eq_false', bne_eq_false_iff_eq, Int.not_lt, Int.not_le] at h2)
    · try simp only [go_sem, ruB, h2']
      rw [if_neg (by omega), if_pos h2]
    · try simp only [go_sem, ruB, h2']
      rw [if_neg (by omega), if_neg (by omega)]

theorem find1_spec {x : Pl} {v : Value} {u : Int} (hv : PlV m x v) : WC R F.plan_find_1 [v, .int .i64 u] m fun r m' => r = .int .i64 (cmpI x.unit u) ∧ Ext m m' := by
  refine WC.of R.plan_find_1 rfl ?_
  obtain ⟨pv, rfl, hp⟩ := hv
  simp only [RC.plan_find_1, plV, go_sem, hp.one]
  have hx : Ext m (m.new (.cells [.int .i64 x.unit, .int .i64 x.share, .int .i64 x.core, pv] (some 4))) := Ext.new
  have hb : Bk (m.new (.cells [.int .i64 x.unit, .int .i64 x.share, .int .i64 x.core, pv] (some 4))) m.next [.int .i64 x.unit, .int .i64 x.share, .int .i64 x.core, pv] 4 := Bk.new
  generalize m.new (.cells [.int .i64 x.unit, .int .i64 x.share, .int .i64 x.core, pv] (some 4)) = m1 at hx hb ⊢
  try simp only [go_sem, ruB, hb.at_]
  refine gC.of Compare_spec ?_
  rintro _ m_ ⟨rfl, hm_⟩
  replace hm_ := hm_.symm
  subst hm_
  simp only [go_sem]
  exact hx
end Go.Am


/- PlanY2 over the table of stagez (relayset.py). -/
set_option linter.unusedVariables false
set_option linter.unusedSimpArgs false
namespace Go.Am
open Classical
variable {m : Mem}

def Asc (l : List Pl) : Prop := ∀ i j (hi : i < j) (hj : j < l.length), (l[i]'(by omega)).unit < l[j].unit
/-- Where a unit is, or would be. -/
def atU (l : List Pl) (u : Int) (k : Nat) : Prop := k ≤ l.length ∧ (∀ t (h : t < l.length), t < k → l[t].unit < u) ∧ ∀ t (h : t < l.length), k ≤ t → u ≤ l[t].unit
def isAt (l : List Pl) (u : Int) (k : Nat) : Prop := ∃ h : k < l.length, l[k].unit = u

theorem half_eq {i j : Nat} (h : i + j < 2000000) : IntKind.wrap .i64 (((BitVec.ofInt 64 (IntKind.wrap .i64 ((i : Int) + j)) >>> (1#64).toNat).toNat : Nat) : Int) = ((i + j) / 2 : Nat) := by
  have e : IntKind.wrap .i64 ((i : Int) + j) = ((i + j : Nat) : Int) := by rw [wrap_i64 (by omega) (by omega)]; omega
  rw [show (1#64).toNat = 1 from rfl, e, BitVec.ofInt_natCast, BitVec.toNat_ushiftRight, BitVec.toNat_ofNat, Nat.mod_eq_of_lt (by omega), Nat.shiftRight_eq_div_pow, wrap_i64 (by omega) (by omega)]

theorem Binary_spec {l : List Pl} {v : Value} {u : Int} (hs : PlsV m l v) (hl : l.length < 1000000) (ha : Asc l) :
    WC R F.slices_BinarySearchFunc_api_Place_api_Place_int [v, .int .i64 u, .func (.func F.plan_find_1) #[] #[]] m fun r m' => ∃ k, atU l u k ∧ r = .tuple #[.int .i64 k, .bool (decide (isAt l u k))] ∧ Ext m m' := by
  refine WC.of R.slices_BinarySearchFunc_api_Place_api_Place_int rfl ?_
  simp only [RC.slices_BinarySearchFunc_api_Place_api_Place_int, go_sem, hs.len]
  refine WL.of (fun n e m' => ∃ i j : Nat, i ≤ j ∧ j ≤ l.length ∧ n = j - i ∧ e = [(0, v), (1, .int .i64 u), (2, .func (.func F.plan_find_1) #[] #[]), (8, .int .i64 l.length), (9, .int .i64 i), (10, .int .i64 j)] ∧ (∀ t (h : t < l.length), t < i → l[t].unit < u) ∧ (∀ t (h : t < l.length), j ≤ t → u ≤ l[t].unit) ∧ Ext m m') l.length
    ⟨0, l.length, by omega, by omega, by omega, by simp only [go_sem] <;> rfl, fun t h h2 => by omega, fun t h h2 => by omega, Ext.refl _⟩ ?_
  rintro _ _ m1 ⟨i, j, hij, hj, rfl, rfl, hlo, hhi, hx⟩
  have hs1 := hs.keep hx
  simp only [RB.slices_BinarySearchFunc_api_Place_api_Place_int_1, go_sem]
  refine gT.of (fun h1' => ?_) (fun h1' => ?_) <;> (have h1 := h1'; try simp only [decide_eq_true_eq, decide_eq_false_iff_not, beq_iff_eq, bne_iff_ne, beq_eq_false_iff_ne, ne_eq, Bool.not_eq_true', Bool.not_eq_false', bne_eq_false_iff_eq, Int.not_lt, Int.not_le] at h1)
  · have hij2 : i < j := by omega
    have hh := half_eq (i := i) (j := j) (by omega)
    have hkl : (i + j) / 2 < l.length := by omega
    obtain ⟨b, o, qv, a1, a2, a3, a4, a5⟩ := hs1.elem hkl
    have hlow : l[(i + j) / 2].unit < u → ∀ t (h : t < l.length), t < (i + j) / 2 + 1 → l[t].unit < u := by
      intro g t h ht
      by_cases e : t = (i + j) / 2
      · subst e; exact g
      · have := ha t ((i + j) / 2) (by omega) hkl; omega
    have hhigh : ¬ l[(i + j) / 2].unit < u → ∀ t (h : t < l.length), (i + j) / 2 ≤ t → u ≤ l[t].unit := by
      intro g t h ht
      by_cases e : t = (i + j) / 2
      · subst e; omega
      · have := ha ((i + j) / 2) t (by omega) h; omega
    have hk1 : i ≤ (i + j) / 2 ∧ (i + j) / 2 < j := by omega
    generalize (i + j) / 2 = k at *
    have s1 := step1 (show k < 1000000 by omega)
    try simp only [go_sem, ruB, h1', hh, a1, a2]
    refine gC.of (find1_spec (x := l[k]) (u := u) ⟨qv, rfl, a4⟩) ?_
    rintro _ m2 ⟨rfl, hx2⟩
    simp only [go_sem]
    refine gT.of (fun h2' => ?_) (fun h2' => ?_) <;> (have h2 := h2'; try simp only [decide_eq_true_eq, decide_eq_false_iff_not, beq_iff_eq, bne_iff_ne, beq_eq_false_iff_ne, ne_eq, Bool.not_eq_true', Bool.not_eq_false', bne_eq_false_iff_eq, Int.not_lt, Int.not_le] at h2)
    · have h3 : l[k].unit < u := by unfold cmpI at h2; split at h2 <;> (try split at h2) <;> omega
      try simp only [go_sem, ruB, h2', s1]
      exact ⟨j - (k + 1), by omega, k + 1, j, by omega, by omega, rfl, rfl, hlow h3, hhi, hx.trans hx2⟩
    · have h3 : ¬ l[k].unit < u := by unfold cmpI at h2; split at h2 <;> (try split at h2) <;> omega
      try simp only [go_sem, ruB, h2']
      exact ⟨k - i, by omega, i, k, by omega, by omega, rfl, rfl, hlo, hhigh h3, hx.trans hx2⟩
  · have hij2 : i = j := by omega
    subst hij2
    have hat : atU l u i := ⟨hj, hlo, hhi⟩
    try simp only [go_sem, ruB, h1']
    refine gT.of (fun h2' => ?_) (fun h2' => ?_) <;> (have h2 := h2'; try simp only [decide_eq_true_eq, decide_eq_false_iff_not, beq_iff_eq, bne_iff_ne, beq_eq_false_iff_ne, ne_eq, Bool.not_eq_true', Bool.not_eq_false', bne_eq_false_iff_eq, Int.not_lt, Int.not_le] at h2)
    · have hil : i < l.length := by omega
      obtain ⟨b, o, qv, a1, a2, a3, a4, a5⟩ := hs1.elem hil
      try simp only [go_sem, ruB, h2', a1, a2]
      refine gC.of (find1_spec (x := l[i]) (u := u) ⟨qv, rfl, a4⟩) ?_
      rintro _ m2 ⟨rfl, hx2⟩
      simp only [go_sem]
      try simp only [go_sem, ruB, h2']
      have hge := hhi i hil (Nat.le_refl _)
      have key : (cmpI l[i].unit u == 0) = decide (isAt l u i) := by
        rw [Bool.eq_iff_iff, beq_iff_eq, decide_eq_true_eq]
        unfold cmpI
        constructor
        · intro h; refine ⟨hil, ?_⟩; split at h <;> (try split at h) <;> omega
        · rintro ⟨_, h⟩; rw [if_neg (by omega), if_neg (by omega)]
      exact ⟨i, hat, by rw [key], hx.trans hx2⟩
    · try simp only [go_sem, ruB, h2']
      have key : decide (isAt l u i) = false := decide_eq_false fun ⟨h, _⟩ => by omega
      exact ⟨i, hat, by rw [key], hx⟩

theorem find_spec {p : PlanD} {v : Value} {u : Int} (hv : PlanV m p v) (hl : p.places.length < 1000000) (ha : Asc p.places) :
    WC R F.plan_find [v, .int .i64 u] m fun r m' => ∃ k, atU p.places u k ∧ r = .tuple #[.int .i64 k, .bool (decide (isAt p.places u k))] ∧ Ext m m' := by
  refine WC.of R.plan_find rfl ?_
  obtain ⟨pv, rfl, hp⟩ := hv
  simp only [RC.plan_find, planV, go_sem, hp.one]
  have hx : Ext m (m.new (.cells [.int .i64 p.frame, u32 p.cores, pv] (some 3))) := Ext.new
  have hb : Bk (m.new (.cells [.int .i64 p.frame, u32 p.cores, pv] (some 3))) m.next [.int .i64 p.frame, u32 p.cores, pv] 3 := Bk.new
  generalize m.new (.cells [.int .i64 p.frame, u32 p.cores, pv] (some 3)) = m1 at hx hb ⊢
  try simp only [go_sem, ruB, hb.at_]
  refine gC.of (Binary_spec (hp.keep hx) hl ha) ?_
  rintro _ m2 ⟨k, hk, rfl, hx2⟩
  try simp only [go_sem, ruB, aExt0, aExt1]
  exact ⟨k, hk, rfl, hx.trans hx2⟩

/-- A copy of pieces. -/
theorem Clone_spec {l : List Pc} {v : Value} (hs : PcV m l v) (hl : l.length < 1000000) : WC R F.slices_Clone_api_Piece_api_Piece [v] m fun r m' => Own m m' 2 l.length (l.flatMap pcV) r ∧ Ext m m' := by
  refine WC.of R.slices_Clone_api_Piece_api_Piece rfl ?_
  have hone : oneCells (l.flatMap pcV) = true := by
    unfold oneCells
    rw [List.all_eq_true]
    intro x hx
    obtain ⟨y, _, hy⟩ := List.mem_flatMap.1 hx
    simp only [pcV, List.mem_cons, List.not_mem_nil, or_false] at hy
    rcases hy with rfl | rfl <;> rfl
  obtain ⟨h1, h2⟩ := hs
  have hs0 : Sl m 2 l.length (l.flatMap pcV) v := h1
  cases h1 with
  | nil h hc =>
    simp only [RC.slices_Clone_api_Piece_api_Piece, go_sem, Option.isNone_none]
    exact ⟨.nil h hc, Ext.refl _⟩
  | @«at» b o c hc h =>
    simp only [RC.slices_Clone_api_Piece_api_Piece, go_sem]
    obtain ⟨v', m', e1, e2, e3⟩ := app_copy (by_ := 16) (hs0.keep h2 Ext.new) hone (by omega) (by omega)
    rw [e1, Got.some]
    try simp only [go_sem, ruB]
    exact ⟨e2, e3⟩

def find0 : Pl := ⟨0, 0, 0, []⟩
noncomputable def findP (l : List Pl) (u : Int) : Pl := if h : ∃ i, ∃ h : i < l.length, l[i].unit = u then l[h.choose]'(h.choose_spec.choose) else find0
def hasU (l : List Pl) (u : Int) : Prop := ∃ i, ∃ h : i < l.length, l[i].unit = u

theorem Asc.inj {l : List Pl} (ha : Asc l) {i j : Nat} (hi : i < l.length) (hj : j < l.length) (h : l[i].unit = l[j].unit) : i = j := by
  rcases Nat.lt_trichotomy i j with g | g | g
  · have := ha i j g hj; omega
  · exact g
  · have := ha j i g hi; omega
theorem findP_at {l : List Pl} {u : Int} (ha : Asc l) {i : Nat} (hi : i < l.length) (h : l[i].unit = u) : findP l u = l[i] := by
  have hex : ∃ i, ∃ h : i < l.length, l[i].unit = u := ⟨i, hi, h⟩
  unfold findP
  rw [dif_pos hex]
  have e : hex.choose = i := ha.inj hex.choose_spec.choose hi (by rw [hex.choose_spec.choose_spec, h])
  simp only [e]
theorem findP_not {l : List Pl} {u : Int} (h : ¬ hasU l u) : findP l u = find0 := by unfold findP; exact dif_neg h

theorem Find_spec {p : PlanD} {v : Value} {u : Int} (hv : PlanV m p v) (hl : PlanL p) (ha : Asc p.places) :
    WC R F.plan_Find [v, .int .i64 u] m fun r m' => ∃ w, r = .tuple #[w, .bool (decide (hasU p.places u))] ∧ PlV m' (findP p.places u) w ∧ Ext m m' := by
  refine WC.of R.plan_Find rfl ?_
  obtain ⟨pv, rfl, hp⟩ := hv
  simp only [RC.plan_Find, planV, go_sem, hp.one]
  have hx : Ext m (m.new (.cells [.int .i64 p.frame, u32 p.cores, pv] (some 3))) := Ext.new
  have hb : Bk (m.new (.cells [.int .i64 p.frame, u32 p.cores, pv] (some 3))) m.next [.int .i64 p.frame, u32 p.cores, pv] 3 := Bk.new
  generalize m.new (.cells [.int .i64 p.frame, u32 p.cores, pv] (some 3)) = m1 at hx hb ⊢
  have hbn := hb.ne
  try simp only [go_sem, ruB, hb.at_, hbn]
  have hx2 : Ext m1 (m1.new (.cells [.int .i64 0, .int .i64 0, .int .i64 0, .slice none 0 0] (some 4))) := Ext.new
  have hb2 : Bk (m1.new (.cells [.int .i64 0, .int .i64 0, .int .i64 0, .slice none 0 0] (some 4))) m1.next [.int .i64 0, .int .i64 0, .int .i64 0, .slice none 0 0] 4 := Bk.new
  have hn2 : (m1.new (.cells [.int .i64 0, .int .i64 0, .int .i64 0, .slice none 0 0] (some 4))).next = m1.next + 1 := rfl
  generalize m1.new (.cells [.int .i64 0, .int .i64 0, .int .i64 0, .slice none 0 0] (some 4)) = m2 at hx2 hb2 hn2 ⊢
  have hp2 := (hp.keep hx).keep hx2
  have hb' := hb.keep hx2
  try simp only [go_sem, ruB, hb'.at_]
  refine gC.of (find_spec (p := p) ⟨pv, rfl, hp2⟩ hl.len ha) ?_
  rintro _ m3 ⟨k, ⟨hk1, hk2, hk3⟩, rfl, hx3⟩
  have hp3 := hp2.keep hx3
  have hb3 := hb'.keep hx3
  have hr3 := hb2.keep hx3
  try simp only [go_sem, ruB, aExt0, aExt1]
  have hiff : isAt p.places u k ↔ hasU p.places u := by
    constructor
    · rintro ⟨h, e⟩; exact ⟨k, h, e⟩
    · rintro ⟨i, h, e⟩
      have : i = k := by
        rcases Nat.lt_trichotomy i k with g | g | g
        · have := hk2 i h g; omega
        · exact g
        · have h1 := hk3 k (by omega) (Nat.le_refl _)
          have := ha k i g h
          omega
      subst this; exact ⟨h, e⟩
  refine gT.of (fun h1' => ?_) (fun h1' => ?_) <;> (have h1 := h1'; try simp only [decide_eq_true_eq, decide_eq_false_iff_not, beq_iff_eq, bne_iff_ne, beq_eq_false_iff_ne, ne_eq, Bool.not_eq_true', Bool.not_eq_false', bne_eq_false_iff_eq, Int.not_lt, Int.not_le] at h1)
  · have hno : ¬ isAt p.places u k := by simpa using h1'
    have hnu : ¬ hasU p.places u := fun h => hno (hiff.2 h)
    have hX : Ext m1 m3 := hx2.trans hx3
    try simp only [go_sem, ruB, h1', hr3.at_]
    refine ⟨_, by rw [decide_eq_false hnu], ?_, hx.trans (hX.set (Nat.le_refl _))⟩
    rw [findP_not hnu]
    exact ⟨.slice none 0 0, rfl, .nil rfl rfl, trivial⟩
  · have hyes : isAt p.places u k := by simpa using h1'
    obtain ⟨hkl, hku⟩ := hyes
    try simp only [go_sem, ruB, h1', hb3.at_]
    obtain ⟨b, o, qv, a1, a2, a3, a4, a5⟩ := hp3.elem hkl
    have hfx : findP p.places u = p.places[k] := findP_at ha hkl hku
    have hhas : hasU p.places u := ⟨k, hkl, hku⟩
    have hpl := hl.pcs _ (List.getElem_mem hkl)
    generalize p.places[k] = x at *
    simp only [plV] at a2
    try simp only [go_sem, ruB, a1, a2, a4.one]
    have hx4 : Ext m3 (m3.new (.cells [.int .i64 x.unit, .int .i64 x.share, .int .i64 x.core, qv] (some 4))) := Ext.new
    have hb4 : Bk (m3.new (.cells [.int .i64 x.unit, .int .i64 x.share, .int .i64 x.core, qv] (some 4))) m3.next [.int .i64 x.unit, .int .i64 x.share, .int .i64 x.core, qv] 4 := Bk.new
    generalize m3.new (.cells [.int .i64 x.unit, .int .i64 x.share, .int .i64 x.core, qv] (some 4)) = m4 at hx4 hb4 ⊢
    try simp only [go_sem, ruB, hb4.at_]
    refine gC.of (Clone_spec (a4.keep hx4) hpl) ?_
    rintro w m5 ⟨ho, hx5⟩
    have hb5 := hb4.keep hx5
    have hr5 := (hr3.keep hx4).keep hx5
    have hne : m1.next ≠ m3.next := by have := hr3.lt; omega
    have hso : ∀ {m'}, Upd m5 m' [m1.next, m3.next] → PcV m' x.pieces w := by
      intro m' h
      have hoff : SlOff [m1.next, m3.next] w := ho.off (by
        intro z hz
        have := hr3.lt; have := hx4.next; have := hb4.lt
        simp at hz; omega)
      exact ⟨ho.sl.upd ho.lt hoff h, ho.lt.upd h⟩
    have hw : ∃ a n c, w = .slice a n c := by cases ho <;> exact ⟨_, _, _, rfl⟩
    have hw1 := ho.sl.one
    obtain ⟨wa, wn, wc, rfl⟩ := hw
    have hne' : (m1.next = m3.next) = False := eq_false hne
    try simp only [go_sem, ruB, hb5.at_, hw1, hne', hr5.at_]
    have hle : m1.next ≤ m3.next := by have := hr3.lt; omega
    refine ⟨_, by rw [decide_eq_true hhas], ?_, hx.trans (((((hx2.trans hx3).trans hx4).trans hx5).set hle).set (Nat.le_refl _))⟩
    rw [hfx]
    exact ⟨.slice wa wn wc, rfl, hso ((Upd.set (fp := [m1.next, m3.next]) (by simp)).trans (Upd.set (fp := [m1.next, m3.next]) (by simp)) (fun _ h => h) (fun _ h => .inl h))⟩

theorem refFind_spec {p : PlanD} {v : Value} {u : Int} (hv : PlanV m p v) (hl : PlanL p) (ha : Asc p.places) :
    WC R F.ref16_Find [v, .int .i64 u] m fun r m' => ∃ w, r = .tuple #[w, .bool (decide (hasU p.places u))] ∧ PlV m' (findP p.places u) w ∧ Ext m m' := by
  refine WC.of R.ref16_Find rfl ?_
  obtain ⟨pv, rfl, hp⟩ := hv
  have hlen := hl.len
  simp only [RC.ref16_Find, planV, go_sem, hp.one]
  have hx : Ext m (m.new (.cells [.int .i64 p.frame, u32 p.cores, pv] (some 3))) := Ext.new
  have hb : Bk (m.new (.cells [.int .i64 p.frame, u32 p.cores, pv] (some 3))) m.next [.int .i64 p.frame, u32 p.cores, pv] 3 := Bk.new
  generalize m.new (.cells [.int .i64 p.frame, u32 p.cores, pv] (some 3)) = m1 at hx hb ⊢
  have hbn := hb.ne
  try simp only [go_sem, hbn]
  have hx2 : Ext m1 (m1.new (.cells [.int .i64 0, .int .i64 0, .int .i64 0, .slice none 0 0] (some 4))) := Ext.new
  have hb2 : Bk (m1.new (.cells [.int .i64 0, .int .i64 0, .int .i64 0, .slice none 0 0] (some 4))) m1.next [.int .i64 0, .int .i64 0, .int .i64 0, .slice none 0 0] 4 := Bk.new
  generalize m1.new (.cells [.int .i64 0, .int .i64 0, .int .i64 0, .slice none 0 0] (some 4)) = m2 at hx2 hb2 ⊢
  have hp2 := (hp.keep hx).keep hx2
  have hb' := hb.keep hx2
  refine WL.of (fun n e m' => ∃ i : Nat, i ≤ p.places.length ∧ n = p.places.length - i ∧ e = [(1, .int .i64 u), (2, pt m.next), (4, pt m1.next), (6, .int .i64 i)] ∧ (∀ t (h : t < p.places.length), t < i → p.places[t].unit ≠ u) ∧ m' = m2) p.places.length
    ⟨0, by omega, by omega, by simp only [go_sem] <;> rfl, fun t h h2 => by omega, rfl⟩ ?_
  rintro _ _ _ ⟨i, hi, rfl, rfl, hno, hm⟩
  replace hm := hm.symm
  subst hm
  simp only [RB.ref16_Find_1, pt, go_sem, ruB, hb'.at_, hp2.len]
  refine gT.of (fun h1' => ?_) (fun h1' => ?_) <;> (have h1 := h1'; try simp only [decide_eq_true_eq, decide_eq_false_iff_not, beq_iff_eq, bne_iff_ne, beq_eq_false_iff_ne, ne_eq, Bool.not_eq_true', Bool.not_eq_false', bne_eq_false_iff_eq, Int.not_lt, Int.not_le] at h1)
  · have hil : i < p.places.length := by omega
    obtain ⟨b, o, qv, a1, a2, a3, a4, a5⟩ := (hp.keep hx).elem hil
    have a30 := a3 0 (by omega)
    rw [← load_ext hx2 a5] at a2 a30
    have hfx : p.places[i].unit = u → findP p.places u = p.places[i] := fun h => findP_at ha hil h
    have hhas : p.places[i].unit = u → hasU p.places u := fun h => ⟨i, hil, h⟩
    have hno2 : p.places[i].unit ≠ u → ∀ t (h : t < p.places.length), t < i + 1 → p.places[t].unit ≠ u := by
      intro g t h ht
      by_cases e : t = i
      · subst e; exact g
      · exact hno t h (by omega)
    generalize p.places[i] = x at *
    simp only [plV, Nat.add_zero, List.getElem?_cons_zero] at a2 a30
    have q1 := a4.one
    try simp only [go_sem, ruB, h1', a1, a30, hb'.at_]
    refine gT.of (fun h2' => ?_) (fun h2' => ?_) <;> (have h2 := h2'; try simp only [decide_eq_true_eq, decide_eq_false_iff_not, beq_iff_eq, bne_iff_ne, beq_eq_false_iff_ne, ne_eq, Bool.not_eq_true', Bool.not_eq_false', bne_eq_false_iff_eq, Int.not_lt, Int.not_le] at h2)
    · have hfx := hfx h2
      try simp only [go_sem, ruB, h2', a1, a2, hb'.at_, hb2.at_, q1]
      refine ⟨_, by rw [decide_eq_true (hhas h2)], ?_, hx.trans (hx2.set (Nat.le_refl _))⟩
      rw [hfx]
      exact ⟨qv, rfl, a4.keep (hx2.set (Nat.le_refl _))⟩
    · try simp only [go_sem, ruB, h2', step1 (show i < 1000000 by omega)]
      exact ⟨p.places.length - (i + 1), by omega, i + 1, by omega, rfl, rfl, hno2 h2⟩
  · have hnu : ¬ hasU p.places u := by
      rintro ⟨t, h, e⟩
      exact hno t h (by omega) e
    try simp only [go_sem, ruB, h1', hb2.at_]
    refine ⟨_, by rw [decide_eq_false hnu], ?_, hx.trans (hx2.set (Nat.le_refl _))⟩
    rw [findP_not hnu]
    exact ⟨.slice none 0 0, rfl, .nil rfl rfl, trivial⟩
end Go.Am


/- SlcPlanPl over the table of stagez (relayset.py). -/
set_option linter.unusedVariables false
set_option linter.unusedSimpArgs false
namespace Go.Am
variable {α : Type} {f : α → List Value} {m : Mem}

theorem pl_upd2 {all A B C : List Value} {o : Nat} (h : all = A ++ B ++ C) (ho : A.length = o) {X : List Value} (hl : X.length = B.length) : writeL all o X = A ++ X ++ C := by
  subst h
  unfold writeL
  have e1 : (A ++ B ++ C).take o = A := by rw [List.append_assoc]; exact List.take_left' ho
  have e2 : (A ++ B ++ C).drop (o + X.length) = C := List.drop_left' (by rw [List.length_append, ho, hl])
  rw [e1, e2]

/-- One left out; the last place is cleared. -/
theorem pl_Delete1 {l : List α} {v : Value} {m0 : Mem} {i : Nat} (hf : ∀ a, (f a).length = 4) (h1 : ∀ a, oneCells (f a) = true) (ho : Own m0 m 4 l.length (l.flatMap f) v) (hx0 : Ext m0 m) (hl : l.length < 100000) (hi : i < l.length) :
    WC R F.slices_Delete_api_Place_api_Place [v, .int .i64 i, .int .i64 (i + 1 : Nat)] m fun r m' => Own m0 m' 4 (l.eraseIdx i).length ((l.eraseIdx i).flatMap f) r ∧ Ext m0 m' ∧ vb r = vb v ∧ Upd m m' (vb v) := by
  refine WC.of R.slices_Delete_api_Place_api_Place rfl ?_
  simp only [RC.slices_Delete_api_Place_api_Place, go_sem]
  cases ho with
  | nil h hc => omega
  | @«at» b c all hb hb2 hnc hm hal hcs hone =>
    have hun : unitOk 4 m b = true := unitOk_own hm
    have b3 : aSub 4 m (.slice (some ⟨b, 0, none⟩) l.length c) (some (.int .i64 (i : Nat))) (some (.int .i64 ((i + 1 : Nat) : Int))) (some (.int .i64 (l.length : Nat))) = some (.slice (some ⟨b, 0 + i * 4, none⟩) (i + 1 - i) (l.length - i)) := by
      have q : ∀ (N n : Nat), n ≤ N → aBound N (.int .i64 (n : Nat)) = some n := fun N n h => by
        simp only [aBound]; rw [if_pos (by omega)]; simp
      simp only [aSub, hun, if_true, aBounds, q c l.length hnc, q l.length (i + 1) (by omega), q (i + 1) i (by omega), Option.bind_some, cutAt]
      rw [if_pos (by omega)]
    have ne : ((i : Int) == ((i + 1 : Nat) : Int)) = false := by rw [beq_eq_false_iff_ne]; omega
    have hunb : ∀ n, unitOk 4 (m.bump n) b = true := fun n => hun
    have c1 : ∀ n, aSub 4 (m.bump n) (.slice (some ⟨b, 0, none⟩) l.length c) none (some (.int .i64 (i : Nat))) none = some (.slice (some ⟨b, 0, none⟩) i c) := fun n => sub_to (hunb n) (by omega)
    have c2 : ∀ n, aSub 4 (m.bump n) (.slice (some ⟨b, 0, none⟩) l.length c) (some (.int .i64 ((i + 1 : Nat) : Int))) none none = some (.slice (some ⟨b, (i + 1) * 4, none⟩) (l.length - (i + 1)) (c - (i + 1))) := fun n => by
      have := sub_from (m := m.bump n) (b := b) (o := 0) (n := l.length) (c := c) (u := 4) (k := .i64) (i := i + 1) (hunb n) (by omega) hnc
      rw [Nat.zero_add] at this; exact this
    have key : ∀ (q n : Nat), ∃ (m' : Mem) (X : List Value), aApp (some q) 4 48 (m.bump n) (.slice (some ⟨b, 0, none⟩) i c) (.slice (some ⟨b, (i + 1) * 4, none⟩) (l.length - (i + 1)) (c - (i + 1))) = some (.slice (some ⟨b, 0, none⟩) (l.length - 1) c, m') ∧
        X.length = 4 ∧ m'.blk b = some (.cells ((l.eraseIdx i).flatMap f ++ X ++ all.drop (l.length * 4)) (some 4)) ∧ Upd m m' [b] := by
      intro q n
      have hbm : (m.bump n).blk b = some (.cells all (some 4)) := hm
      have hall : all = l.flatMap f ++ all.drop (l.length * 4) := by rw [← hcs, List.take_append_drop]
      generalize all.drop (l.length * 4) = sp at hall ⊢
      have hle : l.length * 4 ≤ c * 4 := Nat.mul_le_mul_right _ hnc
      have e0 : l = l.take i ++ l[i] :: l.drop (i + 1) := by rw [← List.drop_eq_getElem_cons hi, List.take_append_drop]
      have hti : ((l.take i).flatMap f).length = i * 4 := by rw [flat_len hf, List.length_take]; congr 1; omega
      have hdi : ((l.drop (i + 1)).flatMap f).length = (l.length - (i + 1)) * 4 := by rw [flat_len hf, List.length_drop]
      have hE : l.eraseIdx i = l.take i ++ l.drop (i + 1) := List.eraseIdx_eq_take_drop_succ ..
      have hl2 : l.flatMap f = (l.take i).flatMap f ++ (f l[i] ++ (l.drop (i + 1)).flatMap f) := by
        conv => lhs; rw [e0]
        rw [List.flatMap_append, List.flatMap_cons]
      by_cases hk : l.length - (i + 1) = 0
      · have hd : l.drop (i + 1) = [] := List.eq_nil_of_length_eq_zero (by rw [List.length_drop]; exact hk)
        refine ⟨m.bump n, f l[i], ?_, hf _, ?_, Ext.bump.upd⟩
        · rw [hk]
          simp only [aApp, sliceLen, Option.bind_some, aSrc, if_true]
          rw [if_pos ⟨by omega, by rw [hbm]; rfl⟩, show i = l.length - 1 by omega]
        · rw [hbm, hE, hd, List.append_nil, hall, hl2, hd, List.flatMap_nil, List.append_nil]
      · have hsl : Sl (m.bump n) 4 (l.length - (i + 1)) ((l.drop (i + 1)).flatMap f) (.slice (some ⟨b, (i + 1) * 4, none⟩) (l.length - (i + 1)) (c - (i + 1))) := by
          refine .at (by omega) ?_
          unfold aCells
          rw [hbm]
          have e1 : all.length = c * 4 := hal
          have e2 : (i + 1) * 4 + (l.length - (i + 1)) * 4 = l.length * 4 := by rw [← Nat.add_mul]; congr 1; omega
          have e3 : all.drop ((i + 1) * 4) = (l.drop (i + 1)).flatMap f ++ sp := by
            rw [hall, hl2]
            have : ((l.take i).flatMap f ++ (f l[i] ++ (l.drop (i + 1)).flatMap f) ++ sp) = ((l.take i).flatMap f ++ f l[i]) ++ ((l.drop (i + 1)).flatMap f ++ sp) := by simp only [List.append_assoc]
            rw [this]
            exact List.drop_left' (by rw [List.length_append, hti, hf, Nat.succ_mul])
          simp only
          rw [if_pos (by omega), e3, List.take_left' hdi]
        obtain ⟨s1, s2⟩ := hsl.src
        have oneD : oneCells ((l.drop (i + 1)).flatMap f) = true := by
          unfold oneCells
          rw [List.all_eq_true]
          intro x hx
          obtain ⟨y, _, hy⟩ := List.mem_flatMap.1 hx
          have := h1 y
          unfold oneCells at this
          exact List.all_eq_true.1 this x hy
        obtain ⟨B, X, hBX, hBl, hXl⟩ : ∃ B X : List Value, f l[i] ++ (l.drop (i + 1)).flatMap f = B ++ X ∧ B.length = (l.length - (i + 1)) * 4 ∧ X.length = 4 := by
          refine ⟨_, _, (List.take_append_drop ((l.length - (i + 1)) * 4) _).symm, ?_, ?_⟩
          · rw [List.length_take, List.length_append, hdi]; omega
          · rw [List.length_drop, List.length_append, hdi, hf]; omega
        have hw : writeL all (i * 4) ((l.drop (i + 1)).flatMap f) = (l.eraseIdx i).flatMap f ++ X ++ sp := by
          rw [pl_upd2 (A := (l.take i).flatMap f) (B := B) (C := X ++ sp) (by rw [hall, hl2, hBX]; simp only [List.append_assoc]) hti (by rw [hdi, hBl]), hE, List.flatMap_append]
          simp only [List.append_assoc]
        have hlen : i * 4 + (l.length - (i + 1)) * 4 ≤ all.length := by
          have e1 : all.length = c * 4 := hal
          have : i * 4 + (l.length - (i + 1)) * 4 ≤ l.length * 4 := by rw [← Nat.add_mul]; exact Nat.mul_le_mul_right _ (by omega)
          omega
        refine ⟨(m.bump n).set b (some (.cells ((l.eraseIdx i).flatMap f ++ X ++ sp) (some 4))), X, ?_, hXl, by simp [Mem.set], Ext.bump.upd.trans (Upd.set (fp := [b]) (by simp)) (fun _ h => h) (fun _ h => .inl h)⟩
        simp only [aApp, s2, Option.bind_some, s1, hk, if_false, Nat.zero_add]
        rw [if_pos (by omega)]
        unfold aWrite
        rw [hbm]
        simp only
        rw [if_pos ⟨by omega, oneD⟩, hw, show i + (l.length - (i + 1)) = l.length - 1 by omega]
        rfl
    obtain ⟨m1, X, k1, k2, k3, k4⟩ := key (m.next + 6) 8
    have hE2 : (l.eraseIdx i).length = l.length - 1 := by rw [List.length_eraseIdx]; simp [hi]
    have hfe : ((l.eraseIdx i).flatMap f).length = (l.length - 1) * 4 := by rw [flat_len hf, hE2]
    have hun1 : unitOk 4 m1 b = true := unitOk_own k3
    have c3 : aSub 4 m1 (.slice (some ⟨b, 0, none⟩) (l.length - 1) c) (some (.int .i64 ((l.length - 1 : Nat) : Int))) (some (.int .i64 (l.length : Nat))) none = some (.slice (some ⟨b, (l.length - 1) * 4, none⟩) 1 (c - (l.length - 1))) := by
      have := sub_both (m := m1) (b := b) (o := 0) (n := l.length - 1) (c := c) (u := 4) (k := .i64) (k' := .i64) (i := l.length - 1) (j := l.length) hun1 (by omega) hnc
      rw [Nat.zero_add, show l.length - (l.length - 1) = 1 by omega] at this
      exact this
    have hclr : aClr 4 [(.int .i64 0), (.int .i64 0), (.int .i64 0), (.slice none 0 0)] m1 (.slice (some ⟨b, (l.length - 1) * 4, none⟩) 1 (c - (l.length - 1))) = some (m1.set b (some (.cells ((l.eraseIdx i).flatMap f ++ [(.int .i64 0), (.int .i64 0), (.int .i64 0), (.slice none 0 0)] ++ all.drop (l.length * 4)) (some 4)))) := by
      simp only [aClr]
      rw [if_neg (by omega), if_pos (show ([(.int .i64 0), (.int .i64 0), (.int .i64 0), (.slice none 0 0)] : List Value).length = 4 from rfl)]
      unfold aWrite
      rw [k3]
      have hz : zeros [(.int .i64 0), (.int .i64 0), (.int .i64 0), (.slice none 0 0)] 1 = [(.int .i64 0), (.int .i64 0), (.int .i64 0), (.slice none 0 0)] := by simp [zeros]
      rw [hz]
      simp only
      rw [if_pos ⟨by simp only [List.length_append, hfe, k2, List.length_cons, List.length_nil]; omega, rfl⟩]
      congr 4
      exact pl_upd2 rfl hfe (by rw [k2]; rfl)
    simp only [go_sem, len_s, b3, ne, c1, c2]
    rw [k1]
    simp only [go_sem, len_s, c3, hclr]
    have hu : Upd m (m1.set b (some (.cells ((l.eraseIdx i).flatMap f ++ [(.int .i64 0), (.int .i64 0), (.int .i64 0), (.slice none 0 0)] ++ all.drop (l.length * 4)) (some 4)))) [b] := k4.trans (Upd.set (fp := [b]) (by simp)) (fun _ h => h) (fun _ h => .inl h)
    refine ⟨?_, hu.ext_of hx0 (by simpa using hb), rfl, hu⟩
    rw [← hE2]
    refine .at (all := (l.eraseIdx i).flatMap f ++ [(.int .i64 0), (.int .i64 0), (.int .i64 0), (.slice none 0 0)] ++ all.drop (l.length * 4)) hb (Nat.lt_of_lt_of_le hb2 hu.next) (by omega) (by simp [Mem.set]) ?_ ?_ ?_
    · have e1 : l.length * 4 ≤ c * 4 := Nat.mul_le_mul_right _ hnc
      have e2 : (l.length - 1) * 4 + 4 = l.length * 4 := by rw [← Nat.succ_mul]; congr 1; omega
      simp only [List.length_append, hfe, List.length_drop, hal, List.length_cons, List.length_nil]
      omega
    · rw [List.append_assoc, List.take_left' (by rw [hfe, hE2])]
    · unfold oneCells
      rw [List.all_eq_true]
      intro x hx
      obtain ⟨y, _, hy⟩ := List.mem_flatMap.1 hx
      have := h1 y
      unfold oneCells at this
      exact List.all_eq_true.1 this x hy
end Go.Am


/- slices.Insert of one element, in our machine. -/
set_option linter.unusedVariables false
namespace Go.Am
open Go.RowKit

def insRow (u i : Nat) (row v : List Value) : List Value := row.take (i * u) ++ v ++ row.drop (i * u)

def X.insert (u by_ : Nat) : List Value → Mem → Option (Value × Mem)
  | [.slice none 0 0, .int .i64 i, .slice (some xa) 1 vc], m => if i = 0 then aApp none u by_ m (.slice none 0 0) (.slice (some xa) 1 vc) else none
  | [.slice (some ⟨b, o, none⟩) n cp, .int .i64 i, .slice (some ⟨vb, vo, none⟩) 1 vc], m =>
    if i = n then aApp none u by_ m (.slice (some ⟨b, o, none⟩) n cp) (.slice (some ⟨vb, vo, none⟩) 1 vc)
    else
      match m.blk b, m.blk vb with
      | some (.cells cs (some u')), some (.cells xs (some _)) =>
        if u' = u ∧ 0 < u ∧ 0 < by_ ∧ 0 ≤ i ∧ i < n ∧ vb ≠ b ∧ n ≤ cp ∧ o + cp * u = cs.length ∧ (n + 1) * by_ ≤ 2 ^ 47 ∧ n < 1000000000 ∧ vo + u ≤ xs.length ∧ oneCells ((cs.drop o).take (n * u)) = true ∧ oneCells ((xs.drop vo).take u) = true then
          some (.slice (some ⟨m.next, 0, none⟩) (n + 1) (n + 1), (m.set b none).new (.cells (insRow u i.toNat ((cs.drop o).take (n * u)) ((xs.drop vo).take u)) (some u)))
        else none
      | _, _ => none
  | _, _ => none

structure InsOk (P : Program) (f u by_ : Nat) (ts te : TypeId) : Prop where
  ht : P.underlying ts = some (.slice te)
  hs : szOf P te = some u
  hby : byOf P te = some by_
  hz : ∃ z, zeroOf P te = some z ∧ z.cells.size = u
  hu : 0 < u
  hb0 : 0 < by_
  shift : ∀ (b off n c i vb voff vc : Nat) (cs vs : List Value) (w : World), i < n → n + 1 ≤ c → n ≤ 1000000000 → vb ≠ b → cs.length = n * u → vs.length = u →
    (∀ j v, cs[j]? = some v → w.cell? ⟨b, off + j, none⟩ = some v) → (∀ j, j < (n + 1) * u → (w.cell? ⟨b, off + j, none⟩).isSome = true) → (∀ j, w.frozen? ⟨b, j, none⟩ = false) →
    (∀ j v, vs[j]? = some v → w.cell? ⟨vb, voff + j, none⟩ = some v) → (∀ v ∈ cs, v.oneCell' = true) → (∀ v ∈ vs, v.oneCell' = true) →
    ∀ (tA tB : TypeId) (kA kB : Nat), w.shape? vb = some (tA, kA) → w.shape? b = some (tB, kB) → kB ≠ 0 → w.frozen? ⟨vb, voff, none⟩ = false → w.frozen? ⟨vb, kA, none⟩ = false →
    Calls P f #[.slice (some ⟨b, off, none⟩) n c, .int .i64 i, .slice (some ⟨vb, voff, none⟩) 1 vc] w fun e w' =>
      e = .returned (.slice (some ⟨b, off, none⟩) (n + 1) c) ∧ w' = (w.drew.setCells b (off + (i + 1) * u) (cs.drop (i * u))).setCells b (off + i * u) vs
  grow : ∀ (b off n c i vb voff vc : Nat) (cs vs : List Value) (w : World), i < n → n ≤ c → c < n + 1 → (n + 1) * by_ ≤ 140737488355328 → vb ≠ b → cs.length = n * u → vs.length = u →
    (∀ j v, cs[j]? = some v → w.cell? ⟨b, off + j, none⟩ = some v) → (∀ j v, vs[j]? = some v → w.cell? ⟨vb, voff + j, none⟩ = some v) → (∀ v ∈ cs, v.oneCell' = true) → (∀ v ∈ vs, v.oneCell' = true) →
    Calls P f #[.slice (some ⟨b, off, none⟩) n c, .int .i64 i, .slice (some ⟨vb, voff, none⟩) 1 vc] w fun e w' =>
      ∃ (G : Nat) (R : Array Value), e = .returned (.slice (some ⟨w.heap.size, 0, none⟩) (n + 1) G) ∧ n + 1 ≤ G ∧ R.size = G * u ∧ (∀ j, j < i * u → R[j]? = cs[j]?) ∧
        w' = (((w.alloc (.cells R te)).drew.setCells w.heap.size (i * u) vs).drew).setCells w.heap.size ((i + 1) * u) (cs.drop (i * u))
  end_ : ∀ (base : Option Addr) (n c : Nat) (xa : Option Addr) (vc : Nat) (w w2 : World) (v2 : Value), n ≤ c → (base = none → c = 0) →
    (Builtin.append_ #[ts, ts] ts #[.slice base n c, .slice xa 1 vc]).run P w = .ok v2 w2 →
    Calls P f #[.slice base n c, .int .i64 n, .slice xa 1 vc] w fun e w' => e = .returned v2 ∧ w' = w2

variable {P : Program} {B0 : Nat} {σ : Inj} {m : Mem} {w : World}

theorem LR.app {xs ys xs' ys' : List Value} (h : LR σ xs ys) (k : LR σ xs' ys') : LR σ (xs ++ xs') (ys ++ ys') :=
  ⟨by rw [List.length_append, List.length_append, h.1, k.1], fun j x y hx hy => by
    by_cases hj : j < xs.length
    · rw [List.getElem?_append_left hj] at hx
      rw [List.getElem?_append_left (by rw [← h.1]; exact hj)] at hy
      exact h.2 j x y hx hy
    · rw [List.getElem?_append_right (by omega)] at hx
      rw [List.getElem?_append_right (by rw [← h.1]; omega), ← h.1] at hy
      exact k.2 _ x y hx hy⟩
theorem LR.row {u i : Nat} {r r' v v' : List Value} (h : LR σ r r') (k : LR σ v v') : LR σ (insRow u i r v) (insRow u i r' v') := ((h.take _).app k).app (h.drop _)
end Go.Am
namespace Go.Proofs
open Go.RowKit
end Go.Proofs


/- slices.Insert at one's own row. -/
set_option linter.unusedVariables false
set_option linter.unusedSimpArgs false
namespace Go.Am

end Go.Am


/- Cuts of slices. -/
set_option linter.unusedVariables false
set_option linter.unusedSimpArgs false
namespace Go.Am

/-- A slice that may be cut. -/
def Cut (u : Nat) (m : Mem) (v : Value) : Prop := ∀ b o n c, v = .slice (some ⟨b, o, none⟩) n c → unitOk u m b = true
theorem Cutable.cut {u : Nat} {m : Mem} {v : Value} (h : Cutable m v) : Cut u m v := fun b o n c e => by subst e; exact h.unit
theorem Own.cut {m0 m : Mem} {u n : Nat} {cs : List Value} {v : Value} (h : Own m0 m u n cs v) : Cut u m v := by
  intro b o n' c e
  cases h with
  | nil => cases e
  | «at» hb hb2 hn hm hl hcs h1 => cases e; exact unitOk_own hm
theorem Cut.keep {u : Nat} {m m' : Mem} {v : Value} (h : Cut u m v) (hb : SlLt m v) (hx : Ext m m') : Cut u m' v := by
  intro b o n c e
  have := h b o n c e
  subst e
  unfold unitOk at this ⊢
  rw [hx.same b hb]; exact this

theorem aCells_split {m : Mem} {b o n k : Nat} {cs : List Value} (h : aCells m b o n = some cs) (hk : k ≤ n) : aCells m b o k = some (cs.take k) ∧ aCells m b (o + k) (n - k) = some (cs.drop k) := by
  unfold aCells at h ⊢
  split at h
  · rename_i c w hm
    split at h
    · rename_i hle
      cases h
      constructor
      · rw [if_pos (by omega), List.take_take, Nat.min_eq_left hk]
      · rw [if_pos (by omega), ← List.drop_drop, List.drop_take]
    · cases h
  · cases h

theorem Sl.to {m : Mem} {u n : Nat} {cs : List Value} {v : Value} (h : Sl m u n cs v) (hc : Cut u m v) {k : IntKind} {i : Nat} (hi : i ≤ n) :
    ∃ v', aSub u m v none (some (.int k i)) none = some v' ∧ Sl m u i (cs.take (i * u)) v' ∧ (SlLt m v → SlLt m v') ∧ Cut u m v' := by
  cases h with
  | nil h hcs =>
    subst hcs
    have : i = 0 := by omega
    subst this
    exact ⟨.slice none 0 0, rfl, .nil rfl (by simp), id, fun _ _ _ _ e => by cases e⟩
  | @«at» b o c hnc h =>
    have hu := hc b o n c rfl
    refine ⟨.slice (some ⟨b, o, none⟩) i c, sub_to hu (by omega), .at (by omega) (aCells_split h (Nat.mul_le_mul_right _ hi)).1, id, fun _ _ _ _ e => by cases e; exact hu⟩

theorem Sl.from {m : Mem} {u n : Nat} {cs : List Value} {v : Value} (h : Sl m u n cs v) (hc : Cut u m v) {k : IntKind} {i : Nat} (hi : i ≤ n) :
    ∃ v', aSub u m v (some (.int k i)) none none = some v' ∧ Sl m u (n - i) (cs.drop (i * u)) v' ∧ (SlLt m v → SlLt m v') ∧ Cut u m v' := by
  cases h with
  | nil h hcs =>
    subst hcs
    have : i = 0 := by omega
    subst this
    exact ⟨.slice none 0 0, rfl, .nil (by omega) (by simp), id, fun _ _ _ _ e => by cases e⟩
  | @«at» b o c hnc h =>
    have hu := hc b o n c rfl
    refine ⟨.slice (some ⟨b, o + i * u, none⟩) (n - i) (c - i), sub_from hu hi hnc, .at (by omega) ?_, id, fun _ _ _ _ e => by cases e; exact hu⟩
    rw [Nat.sub_mul]
    exact (aCells_split h (Nat.mul_le_mul_right _ hi)).2

/-- Full: no room behind its last one. -/
def Full (v : Value) : Prop := ∀ a p q, v = .slice a p q → p = q
end Go.Am


/- One's own slice whose first block is older than what else is there: only that block, and newer ones, are touched. -/
set_option linter.unusedVariables false
set_option linter.unusedSimpArgs false
namespace Go.Am

theorem app_updA {at_ : Option Nat} {u by_ M : Nat} {m m' : Mem} {v v' x : Value} (h : aApp at_ u by_ m v x = some (v', m')) (ha : ∀ k, at_ = some k → M ≤ k) (hM : M ≤ m.next) :
    m.next ≤ m'.next ∧ (∀ b, b < M → b ∉ vb v → m'.blk b = m.blk b) ∧ (vb v' = vb v ∨ ∃ k, vb v' = [k] ∧ M ≤ k) := by
  have hpl : ∀ (m1 : Mem) (o : AObj), m1.next = m.next → m.next ≤ (place at_ m1 o).2.next ∧ (∀ b, b < M → (place at_ m1 o).2.blk b = m1.blk b) ∧ M ≤ (place at_ m1 o).1 := by
    intro m1 o h1
    unfold place
    split
    · refine ⟨by show m.next ≤ m1.next + 1; omega, fun b hb => ?_, by show M ≤ m1.next; omega⟩
      show (if b = m1.next then _ else _) = _
      rw [if_neg (by omega)]
    · rename_i k
      have := ha k rfl
      refine ⟨by show m.next ≤ m1.next; omega, fun b hb => ?_, this⟩
      show (if b = k then _ else _) = _
      rw [if_neg (by omega)]
  unfold aApp at h
  rw [Option.bind_eq_some_iff] at h
  obtain ⟨n, hn, h⟩ := h
  rw [Option.bind_eq_some_iff] at h
  obtain ⟨xs, hxs, h⟩ := h
  split at h
  · split at h
    · cases h; exact ⟨Nat.le_refl _, fun _ _ _ => rfl, .inl rfl⟩
    · split at h
      · obtain ⟨p1, p2, p3⟩ := hpl m (.cells xs (some u)) rfl
        generalize place at_ m (.cells xs (some u)) = P at h p1 p2 p3
        obtain ⟨b, m1⟩ := P
        cases h
        exact ⟨p1, fun b hb _ => p2 b hb, .inr ⟨_, rfl, p3⟩⟩
      · cases h
  · rename_i b o l c
    split at h
    · split at h
      · cases h; exact ⟨Nat.le_refl _, fun _ _ _ => rfl, .inl rfl⟩
      · cases h
    · split at h
      · rw [Option.map_eq_some_iff] at h
        obtain ⟨m1, h1, h2⟩ := h
        cases h2
        obtain ⟨a1, a2⟩ := aWrite_upd h1
        refine ⟨by omega, fun x hx hn => ?_, .inl rfl⟩
        exact a1.same x (by omega) hn
      · split at h
        · rename_i cs own hb
          split at h
          · have hs : ∀ c : Bool, (if c = true then m.set b none else m).next = m.next ∧ ∀ x, x ≠ b → (if c = true then m.set b none else m).blk x = m.blk x := by
              intro c
              cases c
              · exact ⟨rfl, fun _ _ => rfl⟩
              · refine ⟨rfl, fun x hx => ?_⟩
                show (if x = b then _ else _) = _
                rw [if_neg hx]
            simp only [] at h
            generalize hm1 : (if own.isSome = true ∧ o + c * u = cs.length then m.set b none else m) = m1 at h
            have hs1 : m1.next = m.next ∧ ∀ x, x ≠ b → m1.blk x = m.blk x := by
              rw [← hm1]
              split
              · exact hs true
              · exact hs false
            obtain ⟨p1, p2, p3⟩ := hpl m1 (.cells (List.take (l * u) (List.drop o cs) ++ xs) (some u)) hs1.1
            generalize place at_ m1 (.cells (List.take (l * u) (List.drop o cs) ++ xs) (some u)) = P at h p1 p2 p3
            obtain ⟨b', m2⟩ := P
            cases h
            refine ⟨p1, fun x hx hn => ?_, .inr ⟨_, rfl, p3⟩⟩
            rw [p2 x hx, hs1.2 x (by intro e; apply hn; simp [vb, e])]
          · cases h
        · cases h
  · cases h

theorem Own.ge {m0 m : Mem} {u n : Nat} {cs : List Value} {v : Value} (h : Own m0 m u n cs v) : ∀ b ∈ vb v, m0.next ≤ b := by
  cases h with
  | nil => intro b hb; simp [vb] at hb
  | «at» hb hb2 hn hm hl hcs h1 => intro b' hb'; simp [vb] at hb'; subst hb'; exact hb

structure OwnQ (m0 mb m : Mem) (q u n : Nat) (cs : List Value) (v : Value) : Prop where
  own : Own m0 m u n cs v
  upd : Upd mb m [q]
  at_ : ∀ b ∈ vb v, b = q ∨ mb.next ≤ b
  ext : Ext m0 m

variable {m0 mb m m' : Mem} {q u n : Nat} {cs : List Value} {v : Value}
theorem OwnQ.keep (h : OwnQ m0 mb m q u n cs v) (hx : Ext m m') : OwnQ m0 mb m' q u n cs v :=
  ⟨h.own.keep hx, h.upd.trans hx.upd (fun _ h => h) (fun _ h => .inl h), h.at_, h.ext.trans hx⟩

theorem OwnQ.app {by_ : Nat} {es : List Value} (h : OwnQ m0 mb m q u n cs v) (hu : 0 < u) (he : es.length = u) (h1 : oneCells es = true) (hby : (n + 1) * by_ ≤ 2 ^ 47) (hn : n + 1 < 2 ^ 62) :
    ∃ v' m', aApp none u by_ (m.new (.cells es (some u))) v (.slice (some ⟨m.next, 0, none⟩) 1 1) = some (v', m') ∧ OwnQ m0 mb m' q u (n + 1) (cs ++ es) v' := by
  obtain ⟨v', m', e1, e2, e3⟩ := h.own.app (by_ := by_) h.ext hu he h1 hby hn
  have hx : Ext m (m.new (.cells es (some u))) := Ext.new
  obtain ⟨a1, a2, a3⟩ := app_updA (M := (m.new (.cells es (some u))).next) e1 (fun k hk => by cases hk) (Nat.le_refl _)
  refine ⟨v', m', e1, e2, ?_, fun b hb => ?_, e3⟩
  · have hk := h.keep hx
    refine ⟨Nat.le_trans hk.upd.next a1, fun b hb hn => ?_⟩
    have hb2 := hk.upd.next
    rw [a2 b (by omega) (fun hm => by exact (h.at_ b hm).elim (fun e => hn (by simp [e])) (fun e => by omega)), hk.upd.same b hb hn]
  · have := h.upd.next
    have := hx.next
    rcases a3 with e | ⟨k, e, hk⟩
    · rw [e] at hb; exact h.at_ b hb
    · rw [e] at hb; simp at hb; subst hb; exact .inr (by omega)

theorem OwnQ.put {w : Value} {k : IntKind} {i o : Nat} (h : OwnQ m0 mb m q u n cs v) (hi : i < n) (ho : o < u) (hw : w.cells = #[w]) (hone : w.oneCell' = true) :
    ∃ b m', aIdxS u v (.int k i) = some (.pointer (some ⟨b, i * u, none⟩)) ∧ aStore 1 m (.pointer (some ⟨b, i * u + o, none⟩)) w = some m' ∧ OwnQ m0 mb m' q u n (cs.set (i * u + o) w) v := by
  obtain ⟨b, m', e1, e2, e3, e4⟩ := h.own.put (k := k) h.ext hi ho hw hone
  refine ⟨b, m', e1, e2, e3, ?_, h.at_, e4⟩
  have hbv : b ∈ vb v := by
    cases h.own with
    | nil h hc => omega
    | @«at» b2 c all hb hb2 hn hm hl hcs h1 =>
      simp only [aIdxS] at e1
      split at e1
      · have e1 := Option.some.inj e1
        simp only [Value.pointer.injEq, Option.some.injEq, Addr.mk.injEq] at e1
        rw [← e1.1]; simp [vb]
      · cases e1
  have hw' : aWrite m b (i * u + o) w.cells.toList = some m' := by
    simp only [aStore] at e2
    split at e2
    · exact e2
    · cases e2
  obtain ⟨a1, a2⟩ := aWrite_upd hw'
  refine ⟨by have := h.upd.next; omega, fun x hx hn => ?_⟩
  have := h.upd.next
  rw [a1.same x (by omega) (by simp; intro e; subst e; exact (h.at_ x hbv).elim (fun e => hn (by simp [e])) (fun e => by omega)), h.upd.same x hx hn]
end Go.Am


/- PlanZ1 over the table of stagez (relayset.py). -/
set_option linter.unusedVariables false
set_option linter.unusedSimpArgs false
namespace Go.Am
open Classical
variable {m : Mem}

/-- A place with where its pieces lie. -/
structure PE where
  pl : Pl
  pv : Value
  one : pv.oneCell' = true
def peV (e : PE) : List Value := plV e.pl e.pv
theorem peV_len (e : PE) : (peV e).length = 4 := rfl
theorem peV_one (e : PE) : oneCells (peV e) = true := by
  unfold peV plV oneCells
  simp [e.one]
  exact ⟨rfl, rfl, rfl⟩

/-- Places in a row of one's own. -/
structure OwnPls (m0 m : Mem) (l : List PE) (v : Value) : Prop where
  own : Own m0 m 4 l.length (l.flatMap peV) v
  el : ∀ e ∈ l, PcV m e.pl.pieces e.pv ∧ ∀ b ∈ vb e.pv, b ∉ vb v
  ext : Ext m0 m
theorem OwnPls.keep {m0 m m' : Mem} {l : List PE} {v : Value} (h : OwnPls m0 m l v) (hx : Ext m m') : OwnPls m0 m' l v :=
  ⟨h.own.keep hx, fun e he => ⟨(h.el e he).1.keep hx, (h.el e he).2⟩, h.ext.trans hx⟩
theorem PcV.upd {m m' : Mem} {l : List Pc} {v : Value} {fp : List Nat} (h : PcV m l v) (hx : Upd m m' fp) (ho : ∀ b ∈ vb v, b ∉ fp) : PcV m' l v :=
  ⟨h.1.upd h.2 (SlOff.vb_iff.2 ho) hx, h.2.upd hx⟩
theorem OwnPls.updq {m0 m m' : Mem} {l : List PE} {v : Value} {fp : List Nat} (h : OwnPls m0 m l v) (hx : Upd m m' fp) (h1 : ∀ b ∈ vb v, b ∉ fp) (h2 : ∀ e ∈ l, ∀ b ∈ vb e.pv, b ∉ fp) (h3 : ∀ x ∈ fp, m0.next ≤ x) : OwnPls m0 m' l v :=
  ⟨h.own.updq hx h1, fun e he => ⟨(h.el e he).1.upd hx (h2 e he), (h.el e he).2⟩, hx.ext_of h.ext h3⟩
theorem OwnPls.weak {m0 m1 m : Mem} {l : List PE} {v : Value} (h : OwnPls m1 m l v) (hx : Ext m0 m1) : OwnPls m0 m l v := ⟨h.own.weak hx, h.el, hx.trans h.ext⟩
theorem OwnPls.pls {m0 m : Mem} {l : List PE} {v : Value} (h : OwnPls m0 m l v) : PlsV m (l.map PE.pl) v := by
  refine ⟨l.flatMap peV, by rw [List.length_map]; exact h.own.sl, h.own.lt, fun i hi => ?_⟩
  have hi' : i < l.length := by simpa using hi
  refine ⟨l[i].pv, ?_, ?_⟩
  · rw [flat_drop peV_len hi']; simp [peV]
  · have := (h.el _ (List.getElem_mem hi')).1
    simpa using this

theorem OwnPls.app {m0 m : Mem} {l : List PE} {v : Value} {e : PE} (h : OwnPls m0 m l v) (hp : PcV m e.pl.pieces e.pv) (ho : ∀ b ∈ vb e.pv, b ∉ vb v) (hl : l.length < 1000000) :
    ∃ v' m', aApp none 4 48 (m.new (.cells (peV e) (some 4))) v (.slice (some ⟨m.next, 0, none⟩) 1 1) = some (v', m') ∧ OwnPls m0 m' (l ++ [e]) v' := by
  obtain ⟨v', m', e1, e2, e3⟩ := h.own.app (by_ := 48) (es := peV e) h.ext (by omega) rfl (peV_one e) (by omega) (by omega)
  have hx : Ext m (m.new (.cells (peV e) (some 4))) := Ext.new
  obtain ⟨a1, a2, a3⟩ := app_updA (M := (m.new (.cells (peV e) (some 4))).next) e1 (fun k hk => by cases hk) (Nat.le_refl _)
  have hn := hx.next
  have key : ∀ pc pv, PcV m pc pv → (∀ b ∈ vb pv, b ∉ vb v) → PcV m' pc pv ∧ ∀ b ∈ vb pv, b ∉ vb v' := fun pc pv h1 h2 => by
    have hlt := SlLt.vb_iff.1 h1.2
    refine ⟨(h1.keep hx).upd (fp := vb v) ⟨a1, fun b hb hnb => a2 b hb hnb⟩ h2, fun b hb hm => ?_⟩
    rcases a3 with e | ⟨k, e, hk⟩
    · rw [e] at hm; exact h2 b hb hm
    · rw [e] at hm
      simp at hm
      have := hlt b hb
      omega
  refine ⟨v', m', e1, ⟨?_, fun x hx' => ?_, e3⟩⟩
  · rw [List.length_append, List.flatMap_append]; simpa using e2
  · rcases List.mem_append.1 hx' with hx' | hx'
    · exact key _ _ (h.el x hx').1 (h.el x hx').2
    · rw [List.mem_singleton.1 hx']
      exact key _ _ hp ho


/-- A row of places, all of whose blocks are new. -/
structure NewPls (m0 m : Mem) (l : List PE) (v : Value) : Prop where
  pls : OwnPls m0 m l v
  new : ∀ e ∈ l, ∀ b ∈ vb e.pv, m0.next ≤ b
theorem NewPls.keep {m0 m m' : Mem} {l : List PE} {v : Value} (h : NewPls m0 m l v) (hx : Ext m m') : NewPls m0 m' l v := ⟨h.pls.keep hx, h.new⟩
theorem NewPls.weak {m0 m1 m : Mem} {l : List PE} {v : Value} (h : NewPls m1 m l v) (hx : Ext m0 m1) : NewPls m0 m l v := ⟨h.pls.weak hx, fun e he b hb => by have := h.new e he b hb; have := hx.next; omega⟩
theorem NewPls.old {m0 m m' : Mem} {l : List PE} {v : Value} {fp : List Nat} (h : NewPls m0 m l v) (hx : Upd m m' fp) (hf : ∀ x ∈ fp, x < m0.next) : OwnPls m0 m' l v ∨ True := .inr trivial
theorem make0 {u by_ : Nat} {z : List Value} {m : Mem} {n : Nat} (h1 : n < 2 ^ 62) (h2 : n * by_ ≤ 2 ^ 47) (hz : z.length = u) (ho : oneCells z = true) :
    aMake none u by_ z m (.int .i64 0) (.int .i64 n) = some (.slice (some ⟨m.next, 0, none⟩) 0 n, m.new (.cells (zeros z n) (some u))) := by
  simp only [aMake, place]
  rw [if_pos ⟨by omega, by omega, by omega, by omega, hz, ho⟩, Int.toNat_natCast]
  rfl
theorem zeros_len {z : List Value} {n : Nat} : (zeros z n).length = n * z.length := by
  induction n with
  | zero => simp [zeros]
  | succ n ih => simp [zeros, ih, Nat.succ_mul]; omega

theorem new0 {m : Mem} {cs : List Value} {n : Nat} (h : cs.length = n * 4) (hx : Ext m (m.new (.cells cs (some 4)))) : NewPls m (m.new (.cells cs (some 4))) [] (.slice (some ⟨m.next, 0, none⟩) 0 n) := by
  refine ⟨⟨.at (all := cs) (Nat.le_refl _) (by simp [Mem.new]) (Nat.zero_le _) (by simp [Mem.new]) h ?_ rfl, (fun e he => by simp at he), hx⟩, (fun e he => by simp at he)⟩
  show cs.take (0 * 4) = []
  rw [Nat.zero_mul]; rfl

theorem mk_rule {R : Nat → Option FEnt} {e : Env} {m : Mem} {u b k : Nat} {z : List Value} {a v : Value} {Q : Value → Mem → Prop} (h : Env.get e k = some v) :
    gpA R none e m (.mkslice u b z (.c a) (.t k)) Q = Got (aMake none u b z m a v) fun r => Q r.1 r.2 := by
  rw [a_mkslice, act_mkslice, ev_c, ev_t, h, Option.bind_some, Option.bind_some]

set_option maxHeartbeats 4000000 in
theorem clone_spec {p : PlanD} {v : Value} (hv : PlanV m p v) (hl : PlanL p) :
    WC R F.plan_clone [v] m fun r m' => ∃ (l : List PE) (lv : Value), r = .agg (planV p lv).toArray ∧ l.map PE.pl = p.places ∧ NewPls m m' l lv := by
  refine WC.of R.plan_clone rfl ?_
  obtain ⟨pv, rfl, hp⟩ := hv
  have hln := hl.len
  simp only [RC.plan_clone, planV, go_sem, hp.one]
  have hx1 : Ext m (m.new (.cells [.int .i64 p.frame, u32 p.cores, pv] (some 3))) := Ext.new
  have hb1 : Bk (m.new (.cells [.int .i64 p.frame, u32 p.cores, pv] (some 3))) m.next [.int .i64 p.frame, u32 p.cores, pv] 3 := Bk.new
  generalize m.new (.cells [.int .i64 p.frame, u32 p.cores, pv] (some 3)) = m1 at hx1 hb1 ⊢
  have hbn := hb1.ne
  try simp only [go_sem, ruB, hb1.at_, hbn]
  have hx2 : Ext m1 (m1.new (.cells [.int .i64 0, u32 0#32, .slice none 0 0] (some 3))) := Ext.new
  have hb2 : Bk (m1.new (.cells [.int .i64 0, u32 0#32, .slice none 0 0] (some 3))) m1.next [.int .i64 0, u32 0#32, .slice none 0 0] 3 := Bk.new
  generalize m1.new (.cells [.int .i64 0, u32 0#32, .slice none 0 0] (some 3)) = m2 at hx2 hb2 ⊢
  have hb12 := hb1.keep hx2
  have hp2 := (hp.keep hx1).keep hx2
  try simp only [go_sem, ruB, hb12.at_]
  simp only [hp2.len, Got.some, wpO_cons, wpOp_on, put_some]
  rw [mk_rule (v := .int .i64 (p.places.length : Nat)) get_same]
  refine Got.of (make0 (u := 4) (by_ := 48) (n := p.places.length) (by omega) (by omega) rfl rfl) ?_
  try simp only [go_sem, ruB, hb12.at_, hb12.ne, hp2.len]
  have hx3 : Ext m2 (m2.new (.cells (zeros [.int .i64 0, .int .i64 0, .int .i64 0, .slice none 0 0] p.places.length) (some 4))) := Ext.new
  have ho : NewPls m2 (m2.new (.cells (zeros [.int .i64 0, .int .i64 0, .int .i64 0, .slice none 0 0] p.places.length) (some 4))) [] (.slice (some ⟨m2.next, 0, none⟩) 0 p.places.length) := new0 zeros_len hx3
  generalize m2.new (.cells (zeros [.int .i64 0, .int .i64 0, .int .i64 0, .slice none 0 0] p.places.length) (some 4)) = m3 at hx3 ho ⊢
  have hle : m1.next + 1 ≤ m2.next := hb2.lt
  have hle0 : m.next + 1 ≤ m1.next := hb1.lt
  refine WL.of (fun n e m' => ∃ (i : Nat) (l : List PE) (lv : Value), i ≤ p.places.length ∧ n = p.places.length - i ∧ e = [(1, pt m.next), (2, pt m1.next), (3, lv), (11, pv), (12, .int .i64 p.places.length), (13, .int .i64 i)] ∧ l.map PE.pl = p.places.take i ∧ NewPls m2 m' l lv) p.places.length
    ⟨0, [], _, by omega, by omega, by simp only [go_sem] <;> rfl, by simp, ho⟩ ?_
  rintro _ _ m4 ⟨i, l, lv, hi, rfl, rfl, hmp, hN⟩
  have hx4 := hN.pls.ext
  have hp4 := hp2.keep hx4
  have hb14 := hb12.keep hx4
  have hb24 := hb2.keep hx4
  have hll : l.length = i := by have := congrArg List.length hmp; simp at this; omega
  simp only [RB.plan_clone_1, pt, go_sem]
  refine gT.of (fun h1' => ?_) (fun h1' => ?_) <;> (have h1 := h1'; try simp only [decide_eq_true_eq, decide_eq_false_iff_not, beq_iff_eq, bne_iff_ne, beq_eq_false_iff_ne, ne_eq, Bool.not_eq_true', Bool.not_eq_false', bne_eq_false_iff_eq, Int.not_lt, Int.not_le] at h1)
  · have hil : i < p.places.length := by omega
    obtain ⟨b, o, qv, a1, a2, a3, a4, a5⟩ := hp4.elem hil
    have htk : p.places.take (i + 1) = p.places.take i ++ [p.places[i]] := List.take_succ_eq_append_getElem hil
    have hpl := hl.pcs _ (List.getElem_mem hil)
    have s1 := step1 (show i < 1000000 by omega)
    generalize p.places[i] = x at *
    simp only [plV] at a2
    try simp only [go_sem, ruB, h1', a1, a2, a4.one]
    have hx5 : Ext m4 (m4.new (.cells [.int .i64 x.unit, .int .i64 x.share, .int .i64 x.core, qv] (some 4))) := Ext.new
    have hb5 : Bk (m4.new (.cells [.int .i64 x.unit, .int .i64 x.share, .int .i64 x.core, qv] (some 4))) m4.next [.int .i64 x.unit, .int .i64 x.share, .int .i64 x.core, qv] 4 := Bk.new
    generalize m4.new (.cells [.int .i64 x.unit, .int .i64 x.share, .int .i64 x.core, qv] (some 4)) = m5 at hx5 hb5 ⊢
    try simp only [go_sem, ruB, hb5.at_]
    refine gC.of (Clone_spec (a4.keep hx5) hpl) ?_
    rintro w m6 ⟨hw, hx6⟩
    have hb6 := hb5.keep hx6
    have hw1 := hw.sl.one
    have hwc := hw.sl.cells
    have hge := hw.ge
    have hwl := hw.lt
    have hwp : PcV m6 x.pieces w := ⟨hw.sl, hw.lt⟩
    have hn5 := hx5.next
    have hn4 := hx4.next
    have hb5l := hb5.lt
    have hws : ∃ a n c, w = .slice a n c := by cases hw <;> exact ⟨_, _, _, rfl⟩
    obtain ⟨wa, wn, wc, rfl⟩ := hws
    try simp only [go_sem, ruB, hb6.at_, hw1]
    have hU : Upd m6 (m6.set m4.next (some (.cells [.int .i64 x.unit, .int .i64 x.share, .int .i64 x.core, .slice wa wn wc] (some 4)))) [m4.next] := Upd.set (by simp)
    have hN6 := (hN.keep hx5).keep hx6
    have hN7 : NewPls m2 _ l lv := ⟨hN6.pls.updq hU (fun b hb => by
        have := (SlLt.vb_iff.1 hN.pls.own.lt) b hb; simp; omega) (fun e he b hb => by
        have := (SlLt.vb_iff.1 (hN.pls.el e he).1.2) b hb; simp; omega) (by simp; omega), hN.new⟩
    have hwp7 := hwp.upd hU (fun b hb => by have := hge b hb; simp; omega)
    have hwv : ∀ b ∈ vb (Value.slice wa wn wc), b ∉ vb lv := fun b hb hm => by
      have := hge b hb
      have := (SlLt.vb_iff.1 hN.pls.own.lt) b hm
      omega
    obtain ⟨v', m8, q1, q2⟩ := hN7.pls.app (e := ⟨x, .slice wa wn wc, rfl⟩) hwp7 hwv (by omega)
    rw [show (m6.set m4.next (some (.cells [.int .i64 x.unit, .int .i64 x.share, .int .i64 x.core, Value.slice wa wn wc] (some 4)))).next = m6.next from rfl] at q1
    simp only [peV, plV] at q1
    rw [q1, Got.some]
    try simp only [go_sem, ruB, s1]
    refine ⟨p.places.length - (i + 1), by omega, i + 1, l ++ [⟨x, .slice wa wn wc, rfl⟩], v', by omega, rfl, rfl, ?_, q2, ?_⟩
    · rw [htk, List.map_append, hmp]; rfl
    · intro e he b hb
      rcases List.mem_append.1 he with he | he
      · exact hN.new e he b hb
      · rw [List.mem_singleton.1 he] at hb
        have := hge b hb; omega
  · have hil : i = p.places.length := by omega
    subst hil
    rw [List.take_length] at hmp
    have hlo := hN.pls.own.sl.one
    have hls : ∃ a n c, lv = .slice a n c := by cases hN.pls.own <;> exact ⟨_, _, _, rfl⟩
    obtain ⟨wa, wn, wc, rfl⟩ := hls
    have hne : (m.next = m1.next) = False := hbn
    have hne2 : (m1.next = m.next) = False := eq_false (by omega)
    try simp only [go_sem, ruB, h1', hb14.at_, hlo, hb24.at_, hne, hne2]
    have hX := (hx1.trans hx2)
    have hge := hN.pls.own.ge
    have hNw := hN.weak hX
    have hU : ∀ {m'}, Upd m4 m' [m.next, m1.next] → NewPls m m' l (.slice wa wn wc) := fun hU => ⟨hNw.pls.updq hU (fun b hb => by have := hge b hb; simp; omega) (fun e he b hb => by have := hN.new e he b hb; simp; omega) (by simp; omega), hNw.new⟩
    exact ⟨l, _, rfl, hmp, hU ((Upd.set (fp := [m.next, m1.next]) (by simp)).trans (Upd.set (fp := [m.next, m1.next]) (by simp)) (fun _ h => h) (fun _ h => .inl h))⟩
end Go.Am


/- PlanZ2 over the table of stagez (relayset.py). -/
set_option linter.unusedVariables false
set_option linter.unusedSimpArgs false
namespace Go.Am
open Classical
variable {m : Mem}

theorem del_spec {m0 : Mem} {l : List PE} {v : Value} {i : Nat} (h : NewPls m0 m l v) (hl : l.length < 100000) (hi : i < l.length) :
    WC R F.slices_Delete_api_Place_api_Place [v, .int .i64 i, .int .i64 (i + 1 : Nat)] m fun r m' => NewPls m0 m' (l.eraseIdx i) r ∧ Upd m m' (vb v) ∧ vb r = vb v := by
  refine WC.mono (pl_Delete1 peV_len peV_one h.pls.own h.pls.ext hl hi) ?_
  rintro r m' ⟨h1, h2, h3, h4⟩
  refine ⟨⟨⟨h1, fun e he => ?_, h2⟩, fun e he => h.new e (List.mem_of_mem_eraseIdx he)⟩, h4, h3⟩
  have := h.pls.el e (List.mem_of_mem_eraseIdx he)
  exact ⟨this.1.upd h4 this.2, by rw [h3]; exact this.2⟩

theorem map_eraseIdx' {α β : Type} {f : α → β} : ∀ {l : List α} {k : Nat}, (l.eraseIdx k).map f = (l.map f).eraseIdx k
  | [], _ => rfl
  | _ :: _, 0 => rfl
  | a :: l, k + 1 => by simp only [List.eraseIdx_cons_succ, List.map_cons, map_eraseIdx']

def dropU (l : List Pl) (u : Int) : List Pl := l.filter fun x => decide (x.unit ≠ u)
theorem dropU_not {l : List Pl} {u : Int} (h : ∀ k (hk : k < l.length), l[k].unit ≠ u) : dropU l u = l := by
  unfold dropU
  rw [List.filter_eq_self]
  intro x hx
  obtain ⟨k, hk, rfl⟩ := List.getElem_of_mem hx
  exact decide_eq_true (h k hk)
theorem dropU_at {l : List Pl} {u : Int} {k : Nat} (ha : Asc l) (hk : k < l.length) (hu : l[k].unit = u) : dropU l u = l.eraseIdx k := by
  have e0 : l = l.take k ++ l[k] :: l.drop (k + 1) := by rw [← List.drop_eq_getElem_cons hk, List.take_append_drop]
  unfold dropU
  rw [List.eraseIdx_eq_take_drop_succ]
  conv => lhs; rw [e0]
  rw [List.filter_append, List.filter_cons, if_neg (by simp [hu]), List.filter_eq_self.2, List.filter_eq_self.2]
  · intro x hx
    obtain ⟨t, ht, rfl⟩ := List.getElem_of_mem hx
    rw [List.getElem_drop]
    rw [List.length_drop] at ht
    have := ha k (k + 1 + t) (by omega) (by omega)
    exact decide_eq_true (by omega)
  · intro x hx
    obtain ⟨t, ht, rfl⟩ := List.getElem_of_mem hx
    rw [List.getElem_take]
    rw [List.length_take] at ht
    have := ha t k (by omega) hk
    exact decide_eq_true (by omega)
theorem Asc.filter {l : List Pl} (h : Asc l) (f : Pl → Bool) : Asc (l.filter f) := by
  have hp : l.Pairwise fun a b => a.unit < b.unit := List.pairwise_iff_getElem.2 fun i j hi hj hij => h i j hij hj
  intro i j hij hj
  exact List.pairwise_iff_getElem.1 (hp.filter f) i j (by omega) hj hij

/-- Stores into boxes leave a row of new blocks. -/
theorem NewPls.box {m0 m m' : Mem} {l : List PE} {v : Value} {fp : List Nat} (h : NewPls m0 m l v) (hx : Upd m m' fp) (h1 : ∀ x ∈ fp, m0.next ≤ x) (h2 : ∀ x ∈ fp, x ∉ vb v) (h3 : ∀ x ∈ fp, ∀ e ∈ l, x ∉ vb e.pv) : NewPls m0 m' l v :=
  ⟨h.pls.updq hx (fun b hb hf => h2 b hf hb) (fun e he b hb hf => h3 b hf e he hb) h1, h.new⟩
/-- Blocks below it, or behind what it was told at. -/
theorem NewPls.out {m0 m : Mem} {l : List PE} {v : Value} (h : NewPls m0 m l v) {x : Nat} (hx : x < m0.next ∨ m.next ≤ x) : x ∉ vb v ∧ ∀ e ∈ l, x ∉ vb e.pv := by
  refine ⟨fun hb => ?_, fun e he hb => ?_⟩
  · have := h.pls.own.ge x hb
    have := (SlLt.vb_iff.1 h.pls.own.lt) x hb
    omega
  · have := h.new e he x hb
    have := (SlLt.vb_iff.1 (h.pls.el e he).1.2) x hb
    omega

theorem plan_of {p : PlanD} {l : List PE} {m0 m : Mem} {lv : Value} (h : NewPls m0 m l lv) : PlanV m ⟨p.frame, p.cores, l.map PE.pl⟩ (.agg #[.int .i64 p.frame, u32 p.cores, lv]) := ⟨lv, rfl, h.pls.pls⟩
theorem slice_of {m0 m : Mem} {u n : Nat} {cs : List Value} {v : Value} (h : Own m0 m u n cs v) : ∃ a n c, v = .slice a n c := by cases h <;> exact ⟨_, _, _, rfl⟩

set_option maxHeartbeats 4000000 in
theorem Drop_spec {p : PlanD} {v : Value} {u : Int} (hv : PlanV m p v) (hl : PlanL p) (hl2 : p.places.length < 100000) (ha : Asc p.places) :
    WC R F.plan_Drop [v, .int .i64 u] m fun r m' => ∃ (l : List PE) (lv : Value), r = .agg (planV p lv).toArray ∧ l.map PE.pl = dropU p.places u ∧ NewPls m m' l lv := by
  refine WC.of R.plan_Drop rfl ?_
  obtain ⟨pv, rfl, hp⟩ := hv
  simp only [RC.plan_Drop, planV, go_sem, hp.one]
  have hx1 : Ext m (m.new (.cells [.int .i64 p.frame, u32 p.cores, pv] (some 3))) := Ext.new
  have hb1 : Bk (m.new (.cells [.int .i64 p.frame, u32 p.cores, pv] (some 3))) m.next [.int .i64 p.frame, u32 p.cores, pv] 3 := Bk.new
  generalize m.new (.cells [.int .i64 p.frame, u32 p.cores, pv] (some 3)) = m1 at hx1 hb1 ⊢
  have hbn := hb1.ne
  try simp only [go_sem, ruB, hb1.at_, hbn]
  have hx2 : Ext m1 (m1.new (.cells [.int .i64 0, u32 0#32, .slice none 0 0] (some 3))) := Ext.new
  have hb2 : Bk (m1.new (.cells [.int .i64 0, u32 0#32, .slice none 0 0] (some 3))) m1.next [.int .i64 0, u32 0#32, .slice none 0 0] 3 := Bk.new
  generalize m1.new (.cells [.int .i64 0, u32 0#32, .slice none 0 0] (some 3)) = m2 at hx2 hb2 ⊢
  have hb12 := hb1.keep hx2
  have hp2 := (hp.keep hx1).keep hx2
  try simp only [go_sem, ruB, hb12.at_]
  refine gC.of (clone_spec (p := p) ⟨pv, rfl, hp2⟩ hl) ?_
  rintro _ m3 ⟨l, lv, rfl, hmp, hN⟩
  have hlo := hN.pls.own.sl.one
  obtain ⟨wa, wn, wc, rfl⟩ := slice_of hN.pls.own
  simp only [planV]
  try simp only [go_sem, ruB, hlo]
  have hx4 : Ext m3 (m3.new (.cells [.int .i64 p.frame, u32 p.cores, .slice wa wn wc] (some 3))) := Ext.new
  have hb4 : Bk (m3.new (.cells [.int .i64 p.frame, u32 p.cores, .slice wa wn wc] (some 3))) m3.next [.int .i64 p.frame, u32 p.cores, .slice wa wn wc] 3 := Bk.new
  generalize m3.new (.cells [.int .i64 p.frame, u32 p.cores, .slice wa wn wc] (some 3)) = m4 at hx4 hb4 ⊢
  have hN4 := hN.keep hx4
  have hx34 := hN.pls.ext
  have hr := (hb2.keep hx34).keep hx4
  try simp only [go_sem, ruB, hb4.at_]
  have hlen : l.length = p.places.length := by rw [← hmp, List.length_map]
  have hP := plan_of (p := p) hN4
  rw [hmp] at hP
  refine gC.of (find_spec (u := u) hP hl.len ha) ?_
  rintro _ m5 ⟨k, ⟨hk1, hk2, hk3⟩, rfl, hx5⟩
  replace hk1 : k ≤ p.places.length := hk1
  replace hk2 : ∀ t (h : t < p.places.length), t < k → p.places[t].unit < u := hk2
  replace hk3 : ∀ t (h : t < p.places.length), k ≤ t → u ≤ p.places[t].unit := hk3
  have hN5 := hN4.keep hx5
  have hb5 := hb4.keep hx5
  have hr5 := hr.keep hx5
  have hnb : m.next + 1 ≤ m1.next ∧ m1.next + 1 ≤ m2.next ∧ m2.next ≤ m3.next ∧ m3.next + 1 ≤ m4.next ∧ m4.next ≤ m5.next := ⟨hb1.lt, hb2.lt, hx34.next, hb4.lt, hx5.next⟩
  have s1 := step1 (show k < 1000000 by omega)
  have hout := hN.out (x := m3.next) (.inr (Nat.le_refl _))
  have hout1 := hN.out (x := m1.next) (.inl (by omega))
  have hX := hx1.trans hx2
  try simp only [go_sem, ruB, aExt0, aExt1]
  refine gT.of (fun h1' => ?_) (fun h1' => ?_) <;> (have h1 := h1'; try simp only [decide_eq_true_eq, decide_eq_false_iff_not, beq_iff_eq, bne_iff_ne, beq_eq_false_iff_ne, ne_eq, Bool.not_eq_true', Bool.not_eq_false', bne_eq_false_iff_eq, Int.not_lt, Int.not_le] at h1)
  · obtain ⟨hkl, hku⟩ : isAt p.places u k := by simpa using h1'
    have hd := dropU_at ha hkl hku
    try simp only [go_sem, ruB, h1', hb5.at_, s1]
    refine gC.of (del_spec (i := k) hN5 (by omega) (by omega)) ?_
    rintro rv m6 ⟨hN6, hU6, hvb⟩
    obtain ⟨xa, xn, xc, rfl⟩ := slice_of hN6.pls.own
    have hb6 := hb5.upd hU6 hout.1
    have hr6 := hr5.upd hU6 hout1.1
    have hne : (m3.next = m1.next) = False := eq_false (by omega)
    have hne2 : (m1.next = m3.next) = False := eq_false (by omega)
    have hlo6 := hN6.pls.own.sl.one
    try simp only [go_sem, ruB, hb6.at_, hlo6, hr6.at_, hne, hne2]
    refine ⟨l.eraseIdx k, _, rfl, ?_, ?_⟩
    · rw [hd, ← hmp, map_eraseIdx']
    · refine (hN6.weak hX).box (fp := [m3.next, m1.next]) ((Upd.set (fp := [m3.next, m1.next]) (by simp)).trans (Upd.set (fp := [m3.next, m1.next]) (by simp)) (fun _ h => h) (fun _ h => .inl h)) (by simp; omega) ?_ ?_
      · rw [hvb]; simp; exact ⟨hout.1, hout1.1⟩
      · intro x hx e he
        have he := List.mem_of_mem_eraseIdx he
        simp at hx
        rcases hx with rfl | rfl
        · exact hout.2 e he
        · exact hout1.2 e he
  · have hno : ¬ isAt p.places u k := by simpa using h1'
    have hd : dropU p.places u = p.places := dropU_not fun t ht e => by
      have : t = k := by
        rcases Nat.lt_trichotomy t k with g | g | g
        · have := hk2 t ht g; omega
        · exact g
        · have h1 := hk3 k (by omega) (Nat.le_refl _)
          have := ha k t g ht
          omega
      subst this; exact hno ⟨ht, e⟩
    try simp only [go_sem, ruB, h1', hb5.at_, hr5.at_]
    refine ⟨l, _, rfl, by rw [hd, hmp], ?_⟩
    refine (hN5.weak hX).box (fp := [m1.next]) (Upd.set (by simp)) (by simp; omega) (by simpa using hout1.1) ?_
    intro x hx e he
    simp at hx; subst hx
    exact hout1.2 e he
end Go.Am


/- PlanZ3 over the table of stagez (relayset.py). -/
set_option linter.unusedVariables false
set_option linter.unusedSimpArgs false
namespace Go.Am
open Classical
variable {m : Mem}
end Go.Am


/- PlanZ4 over the table of stagez (relayset.py). -/
set_option linter.unusedVariables false
set_option linter.unusedSimpArgs false
namespace Go.Am
open Classical
variable {m : Mem}

/-- A row of places as it lies. -/
structure RowE (m : Mem) (l : List PE) (v : Value) : Prop where
  sl : Sl m 4 l.length (l.flatMap peV) v
  lt : SlLt m v
theorem RowE.keep {m m' : Mem} {l : List PE} {v : Value} (h : RowE m l v) (hx : Ext m m') : RowE m' l v := ⟨h.sl.keep h.lt hx, h.lt.keep hx⟩
theorem RowE.upd {m m' : Mem} {l : List PE} {v : Value} {fp : List Nat} (h : RowE m l v) (hx : Upd m m' fp) (ho : ∀ b ∈ vb v, b ∉ fp) : RowE m' l v := ⟨h.sl.upd h.lt (SlOff.vb_iff.2 ho) hx, h.lt.upd hx⟩
theorem RowE.slice {m : Mem} {l : List PE} {v : Value} (h : RowE m l v) : ∃ a n c, v = .slice a n c := by cases h.sl <;> exact ⟨_, _, _, rfl⟩
theorem Own.rowE {m0 m : Mem} {l : List PE} {v : Value} (h : Own m0 m 4 l.length (l.flatMap peV) v) : RowE m l v := ⟨h.sl, h.lt⟩
/-- The places behind a row as it lies. -/
theorem RowE.pls {m : Mem} {l : List PE} {v : Value} (h : RowE m l v) (hp : ∀ e ∈ l, PcV m e.pl.pieces e.pv) : PlsV m (l.map PE.pl) v := by
  refine ⟨l.flatMap peV, by rw [List.length_map]; exact h.sl, h.lt, fun i hi => ?_⟩
  have hi' : i < l.length := by simpa using hi
  refine ⟨l[i].pv, ?_, ?_⟩
  · rw [flat_drop peV_len hi']; simp [peV]
  · have := hp _ (List.getElem_mem hi')
    simpa using this
theorem rowE_of {m : Mem} {l : List Pl} {v : Value} (h : PlsV m l v) : ∃ le : List PE, le.map PE.pl = l ∧ RowE m le v ∧ ∀ e ∈ le, PcV m e.pl.pieces e.pv := by
  obtain ⟨cs, h1, h2, h3⟩ := h
  obtain ⟨le, hle, hP⟩ := list_choice (P := fun i (e : PE) => ∃ h : i < l.length, e.pl = l[i] ∧ (cs.drop (i * 4)).take 4 = peV e ∧ PcV m e.pl.pieces e.pv) (n := l.length) (fun i hi => by
    obtain ⟨pv, a, b⟩ := h3 i hi
    exact ⟨⟨l[i], pv, b.one⟩, hi, rfl, a, b⟩)
  have hm : le.map PE.pl = l := by
    apply List.ext_getElem
    · rw [List.length_map, hle]
    · intro i h1 h2
      rw [List.getElem_map]
      obtain ⟨_, e, _⟩ := hP i (by simpa using h1)
      exact e
  refine ⟨le, hm, ⟨?_, h2⟩, fun e he => ?_⟩
  · have hc : cs = le.flatMap peV := by
      have hcl := h1.length
      have hfl : (le.flatMap peV).length = l.length * 4 := by rw [flat_len peV_len, hle]
      apply List.ext_getElem (by rw [hcl, hfl])
      intro i hi hi2
      have hq : i / 4 < le.length := by rw [hle]; omega
      obtain ⟨_, _, e, _⟩ := hP (i / 4) hq
      have e2 := flat_drop peV_len hq
      rw [← e2] at e
      have g1 : ((cs.drop (i / 4 * 4)).take 4)[i % 4]? = cs[i]? := by
        rw [List.getElem?_take_of_lt (by omega), List.getElem?_drop, show i / 4 * 4 + i % 4 = i by omega]
      have g2 : (((le.flatMap peV).drop (i / 4 * 4)).take 4)[i % 4]? = (le.flatMap peV)[i]? := by
        rw [List.getElem?_take_of_lt (by omega), List.getElem?_drop, show i / 4 * 4 + i % 4 = i by omega]
      rw [e, g2] at g1
      rw [List.getElem?_eq_getElem hi, List.getElem?_eq_getElem hi2] at g1
      exact (Option.some.inj g1).symm
    rw [hle, ← hc]; exact h1
  · obtain ⟨i, hi, rfl⟩ := List.getElem_of_mem he
    obtain ⟨_, _, _, b⟩ := hP i hi
    exact b

def dropE (l : List PE) (u : Int) : List PE := l.filter fun e => decide (e.pl.unit ≠ u)
theorem dropE_succ {l : List PE} {u : Int} {i : Nat} (hi : i < l.length) : dropE (l.take (i + 1)) u = dropE (l.take i) u ++ (if l[i].pl.unit ≠ u then [l[i]] else []) := by
  unfold dropE
  rw [List.take_succ_eq_append_getElem hi, List.filter_append, List.filter_cons]
  by_cases h : l[i].pl.unit = u <;> simp [h]
theorem dropE_len {l : List PE} {u : Int} {i : Nat} : (dropE (l.take i) u).length ≤ i := by
  unfold dropE
  exact Nat.le_trans (List.length_filter_le ..) (by rw [List.length_take]; omega)
theorem dropE_map {l : List PE} {u : Int} : (dropE l u).map PE.pl = dropU (l.map PE.pl) u := by
  unfold dropE dropU
  rw [List.filter_map]; rfl

set_option maxHeartbeats 4000000 in
theorem refDrop_spec {l : List PE} {f : Int} {c : BitVec 32} {pv : Value} {u : Int} (hs : RowE m l pv) (hl : l.length < 1000000) :
    WC R F.ref16_Drop [.agg #[.int .i64 f, u32 c, pv], .int .i64 u] m fun r m' => ∃ lv, r = .agg #[.int .i64 f, u32 c, lv] ∧ Own m m' 4 (dropE l u).length ((dropE l u).flatMap peV) lv ∧ Ext m m' := by
  refine WC.of R.ref16_Drop rfl ?_
  simp only [RC.ref16_Drop, go_sem, hs.sl.one]
  have hx1 : Ext m (m.new (.cells [.int .i64 f, u32 c, pv] (some 3))) := Ext.new
  have hb1 : Bk (m.new (.cells [.int .i64 f, u32 c, pv] (some 3))) m.next [.int .i64 f, u32 c, pv] 3 := Bk.new
  generalize m.new (.cells [.int .i64 f, u32 c, pv] (some 3)) = m1 at hx1 hb1 ⊢
  have hbn := hb1.ne
  have hx2 : Ext m1 (m1.new (.cells [.int .i64 0, u32 0#32, .slice none 0 0] (some 3))) := Ext.new
  have hb2 : Bk (m1.new (.cells [.int .i64 0, u32 0#32, .slice none 0 0] (some 3))) m1.next [.int .i64 0, u32 0#32, .slice none 0 0] 3 := Bk.new
  generalize m1.new (.cells [.int .i64 0, u32 0#32, .slice none 0 0] (some 3)) = m2 at hx2 hb2 ⊢
  have hb12 := hb1.keep hx2
  have hs2 := (hs.keep hx1).keep hx2
  have hx3 : Ext m2 (m2.new (.cells [] (some 4))) := Ext.new
  have ho3 : Own m2 (m2.new (.cells [] (some 4))) 4 0 [] (.slice (some ⟨m2.next, 0, none⟩) 0 0) := .at (all := []) (Nat.le_refl _) (by simp [Mem.new]) (Nat.le_refl _) (by simp [Mem.new]) rfl rfl rfl
  have hle : m.next + 1 ≤ m1.next ∧ m1.next + 1 ≤ m2.next := ⟨hb1.lt, hb2.lt⟩
  generalize m2.new (.cells [] (some 4)) = m3 at hx3 ho3 ⊢
  refine WL.of (fun n e m' => ∃ (i : Nat) (w : Value), i ≤ l.length ∧ n = l.length - i ∧ e = [(1, .int .i64 u), (2, pt m.next), (4, pt m1.next), (5, w), (6, .int .i64 i)] ∧ Own m2 m' 4 (dropE (l.take i) u).length ((dropE (l.take i) u).flatMap peV) w ∧ Ext m2 m') l.length
    ⟨0, _, by omega, by omega, by simp only [go_sem] <;> rfl, ho3, hx3⟩ ?_
  rintro _ _ m4 ⟨i, w, hi, rfl, rfl, ho, hx4⟩
  have hs4 := hs2.keep hx4
  have hb4 := hb12.keep hx4
  have hr4 := hb2.keep hx4
  simp only [RB.ref16_Drop_1, pt, go_sem, ruB, hb4.at_, hs4.sl.len]
  refine gT.of (fun h1' => ?_) (fun h1' => ?_) <;> (have h1 := h1'; try simp only [decide_eq_true_eq, decide_eq_false_iff_not, beq_iff_eq, bne_iff_ne, beq_eq_false_iff_ne, ne_eq, Bool.not_eq_true', Bool.not_eq_false', bne_eq_false_iff_eq, Int.not_lt, Int.not_le] at h1)
  · have hil : i < l.length := by omega
    obtain ⟨b, o, a1, a2, a3, a4⟩ := hs4.sl.elem peV_len (k := .i64) (i := i) hil
    have a30 := a3 0 (by omega)
    have hd := dropE_succ (u := u) hil
    have hdl := dropE_len (l := l) (u := u) (i := i)
    have s1 := step1 (show i < 1000000 by omega)
    have q1 := l[i].one
    generalize l[i] = x at *
    simp only [peV, plV, Nat.add_zero, List.getElem?_cons_zero] at a2 a30
    try simp only [go_sem, ruB, h1', a1, a30, hb4.at_]
    refine gT.of (fun h2' => ?_) (fun h2' => ?_) <;> (have h2 := h2'; try simp only [decide_eq_true_eq, decide_eq_false_iff_not, beq_iff_eq, bne_iff_ne, beq_eq_false_iff_ne, ne_eq, Bool.not_eq_true', Bool.not_eq_false', bne_eq_false_iff_eq, Int.not_lt, Int.not_le] at h2)
    · try simp only [go_sem, ruB, h2', a1, a2, hb4.at_, q1]
      obtain ⟨v', m6, e1, e2, e3⟩ := ho.app (by_ := 48) (es := peV x) hx4 (by omega) rfl (peV_one x) (by omega) (by omega)
      simp only [peV, plV] at e1
      rw [e1, Got.some]
      try simp only [go_sem, ruB, s1]
      rw [if_pos h2] at hd
      refine ⟨l.length - (i + 1), by omega, i + 1, v', by omega, rfl, rfl, ?_, e3⟩
      rw [hd, List.length_append, List.flatMap_append]; simpa [peV, plV] using e2
    · try simp only [go_sem, ruB, h2', s1]
      rw [if_neg (by simpa using h2), List.append_nil] at hd
      refine ⟨l.length - (i + 1), by omega, i + 1, w, by omega, rfl, rfl, ?_, hx4⟩
      rw [hd]; exact ho
  · have hil : i = l.length := by omega
    subst hil
    rw [List.take_length] at ho
    have hlo := ho.sl.one
    obtain ⟨wa, wn, wc, rfl⟩ := slice_of ho
    have hge := ho.ge
    have hne : (m.next = m1.next) = False := hbn
    have hne2 : (m1.next = m.next) = False := eq_false (by omega)
    try simp only [go_sem, ruB, h1', hb4.at_, hlo, hr4.at_, hne, hne2]
    have hX := (hx1.trans hx2)
    have key : ∀ {m'}, Upd m4 m' [m.next, m1.next] → Own m m' 4 (dropE l u).length ((dropE l u).flatMap peV) (.slice wa wn wc) ∧ Ext m m' := fun hU =>
      ⟨(ho.weak hX).updq hU (fun b hb => by have := hge b hb; simp; omega), hU.ext_of (hX.trans hx4) (by simp; omega)⟩
    refine ⟨_, rfl, key ?_⟩
    exact ((Upd.set (fp := [m.next, m1.next]) (by simp)).trans (Upd.set (fp := [m.next, m1.next]) (by simp)) (fun _ h => h) (fun _ h => .inl h))

end Go.Am


/- Maps whose keys are whole numbers. -/
set_option linter.unusedVariables false
namespace Go.Am
variable {α : Type}

def mpL (e : α → Value) (L : List (Int × α)) : List (Value × Value) := L.map fun p => (.int .i64 p.1, e p.2)
def lkp : List (Int × α) → Int → Option α
  | [], _ => none
  | (k, a) :: r, x => if k = x then some a else lkp r x
def updL : List (Int × α) → Int → α → List (Int × α)
  | [], x, a => [(x, a)]
  | (k, b) :: r, x, a => if k = x then (x, a) :: r else (k, b) :: updL r x a
def delL : List (Int × α) → Int → List (Int × α)
  | [], _ => []
  | (k, b) :: r, x => if k = x then r else (k, b) :: delL r x

theorem findK_mp {e : α → Value} {x : Int} : ∀ (L : List (Int × α)) (i : Nat), (lkp L x = none → findK .int (.int .i64 x) (mpL e L) i = some none ∧ ∀ a, mpL e L ++ [(.int .i64 x, e a)] = mpL e (updL L x a)) ∧
    ∀ a, lkp L x = some a → ∃ j, findK .int (.int .i64 x) (mpL e L) i = some (some (i + j, e a)) ∧ (∀ b, (mpL e L).set j (.int .i64 x, e b) = mpL e (updL L x b)) ∧ (mpL e L).eraseIdx j = mpL e (delL L x)
  | [], i => ⟨fun _ => ⟨rfl, fun a => rfl⟩, fun a h => by simp [lkp] at h⟩
  | (k, b) :: r, i => by
    by_cases h : k = x
    · subst h
      refine ⟨fun h => by simp [lkp] at h, fun a ha => ?_⟩
      simp only [lkp, if_true, Option.some.injEq] at ha
      subst ha
      refine ⟨0, ?_, fun b => ?_, ?_⟩
      · simp [mpL, findK, keyEq]
      · simp [mpL, updL]
      · simp [mpL, delL]
    · have hk : keyEq .int (.int .i64 x) (.int .i64 k) = some false := by simp [keyEq]; exact fun e => h e.symm
      have hf : findK .int (.int .i64 x) (mpL e ((k, b) :: r)) i = findK .int (.int .i64 x) (mpL e r) (i + 1) := by
        show (match keyEq .int (.int .i64 x) (.int .i64 k) with | some true => _ | some false => _ | none => _) = _
        rw [hk]; rfl
      obtain ⟨h1, h2⟩ := findK_mp (e := e) r (i + 1)
      refine ⟨fun hn => ?_, fun a ha => ?_⟩
      · simp only [lkp, h, if_false] at hn
        obtain ⟨g1, g2⟩ := h1 hn
        refine ⟨by rw [hf, g1], fun a => ?_⟩
        simp only [updL, h, if_false]
        show (.int .i64 k, e b) :: (mpL e r ++ _) = _
        rw [g2]; rfl
      · simp only [lkp, h, if_false] at ha
        obtain ⟨j, g1, g2, g3⟩ := h2 a ha
        refine ⟨j + 1, by rw [hf, g1]; congr 3; omega, fun c => ?_, ?_⟩
        · simp only [updL, h, if_false]
          show (.int .i64 k, e b) :: ((mpL e r).set j _) = _
          rw [g2]; rfl
        · simp only [delL, h, if_false]
          show (.int .i64 k, e b) :: ((mpL e r).eraseIdx j) = _
          rw [g3]; rfl

/-- A map that is there. -/
structure Mp (m : Mem) (r : Nat) (e : α → Value) (L : List (Int × α)) : Prop where
  at_ : m.blk r = some (.map (mpL e L))
  lt : r < m.next
theorem Mp.new {m : Mem} {e : α → Value} : Mp (m.new (.map [])) m.next e [] := ⟨by simp [Mem.new, mpL], by simp [Mem.new]⟩
theorem Mp.keep {m m' : Mem} {r : Nat} {e : α → Value} {L : List (Int × α)} (h : Mp m r e L) (hx : Ext m m') : Mp m' r e L := ⟨by rw [hx.same _ h.lt]; exact h.at_, Nat.lt_of_lt_of_le h.lt hx.next⟩
theorem Mp.upd {m m' : Mem} {r : Nat} {e : α → Value} {L : List (Int × α)} {fp : List Nat} (h : Mp m r e L) (hx : Upd m m' fp) (hn : r ∉ fp) : Mp m' r e L := ⟨by rw [hx.same _ h.lt hn]; exact h.at_, Nat.lt_of_lt_of_le h.lt hx.next⟩
theorem Mp.other {m : Mem} {r b : Nat} {e : α → Value} {L : List (Int × α)} {o : Option AObj} (h : Mp m r e L) (hn : r ≠ b) : Mp (m.set b o) r e L := ⟨by simp [Mem.set, hn]; exact h.at_, h.lt⟩
theorem Mp.self {m : Mem} {r : Nat} {e : α → Value} {L L' : List (Int × α)} (h : Mp m r e L) : Mp (m.set r (some (.map (mpL e L')))) r e L' := ⟨by simp [Mem.set], h.lt⟩

theorem Mp.look {m : Mem} {r : Nat} {e : α → Value} {L : List (Int × α)} (h : Mp m r e L) {x : Int} {z : α} : aLook .int (e z) false m (.map (some r)) (.int .i64 x) = some (e ((lkp L x).getD z)) := by
  simp only [aLook, h.at_, Option.bind_some]
  obtain ⟨h1, h2⟩ := findK_mp (e := e) (x := x) L 0
  cases hl : lkp L x with
  | none => rw [(h1 hl).1]; rfl
  | some a =>
    obtain ⟨j, g, -⟩ := h2 a hl
    rw [g]; rfl
theorem Mp.look_ok {m : Mem} {r : Nat} {e : α → Value} {L : List (Int × α)} (h : Mp m r e L) {x : Int} {z : α} : aLook .int (e z) true m (.map (some r)) (.int .i64 x) = some (.tuple #[e ((lkp L x).getD z), .bool (lkp L x).isSome]) := by
  simp only [aLook, h.at_, Option.bind_some]
  obtain ⟨h1, h2⟩ := findK_mp (e := e) (x := x) L 0
  cases hl : lkp L x with
  | none => rw [(h1 hl).1]; rfl
  | some a =>
    obtain ⟨j, g, -⟩ := h2 a hl
    rw [g]; rfl
theorem Mp.put {m : Mem} {r : Nat} {e : α → Value} {L : List (Int × α)} (h : Mp m r e L) {x : Int} {a : α} : aUpd .int m (.map (some r)) (.int .i64 x) (e a) = some (m.set r (some (.map (mpL e (updL L x a))))) := by
  simp only [aUpd, h.at_]
  obtain ⟨h1, h2⟩ := findK_mp (e := e) (x := x) L 0
  cases hl : lkp L x with
  | none => rw [(h1 hl).1]; simp only [Option.map_some]; rw [(h1 hl).2]
  | some b =>
    obtain ⟨j, g, g2, -⟩ := h2 b hl
    rw [g]; simp only [Option.map_some, Nat.zero_add]; rw [g2]
theorem Mp.del {m : Mem} {r : Nat} {e : α → Value} {L : List (Int × α)} (h : Mp m r e L) {x : Int} : ∃ L', L' = (if (lkp L x).isSome then delL L x else L) ∧ ∃ m', aDel .int m (.map (some r)) (.int .i64 x) = some m' ∧ Mp m' r e L' ∧ Upd m m' [r] := by
  refine ⟨_, rfl, ?_⟩
  simp only [aDel, h.at_]
  obtain ⟨h1, h2⟩ := findK_mp (e := e) (x := x) L 0
  cases hl : lkp L x with
  | none => rw [(h1 hl).1]; exact ⟨m, rfl, h, Upd.refl _ _⟩
  | some b =>
    obtain ⟨j, g, -, g3⟩ := h2 b hl
    rw [g]; simp only [Option.map_some, Nat.zero_add]
    rw [g3]
    exact ⟨_, rfl, h.self, Upd.set (by simp)⟩

end Go.Am


/- Diff: the places of a plan by unit; the units in order. -/
set_option linter.unusedVariables false
set_option linter.unusedSimpArgs false
namespace Go.Am
open Classical
variable {m : Mem}

def eP (e : PE) : Value := .agg (peV e).toArray
def unitE (e : PE) : Int := e.pl.unit
def asMap (l : List PE) : List (Int × PE) := l.map fun e => (unitE e, e)
theorem updL_new {α : Type} {L : List (Int × α)} {x : Int} {a : α} (h : ∀ p ∈ L, p.1 ≠ x) : updL L x a = L ++ [(x, a)] := by
  induction L with
  | nil => rfl
  | cons p r ih =>
    obtain ⟨k, b⟩ := p
    simp only [updL]
    rw [if_neg (h (k, b) (by simp)), ih fun q hq => h q (by simp [hq])]; rfl
theorem asMap_succ {l : List PE} {i : Nat} (hi : i < l.length) (hn : (l.map unitE).Nodup) : updL (asMap (l.take i)) (unitE l[i]) l[i] = asMap (l.take (i + 1)) := by
  rw [updL_new]
  · unfold asMap
    rw [List.take_succ_eq_append_getElem hi, List.map_append]; rfl
  · intro p hp
    unfold asMap at hp
    obtain ⟨e, he, rfl⟩ := List.mem_map.1 hp
    obtain ⟨t, ht, rfl⟩ := List.getElem_of_mem he
    rw [List.getElem_take]
    rw [List.length_take] at ht
    intro e
    have := (List.nodup_iff_pairwise_ne.1 hn)
    rw [List.pairwise_iff_getElem] at this
    exact this t i (by simp; omega) (by simpa using hi) (by omega) (by simpa using e)

/-- A row of places as it lies (kept from plan's texts). -/
structure RowS (m : Mem) (l : List PE) (v : Value) : Prop where
  sl : Sl m 4 l.length (l.flatMap peV) v
  lt : SlLt m v
theorem RowS.keep {m m' : Mem} {l : List PE} {v : Value} (h : RowS m l v) (hx : Ext m m') : RowS m' l v := ⟨h.sl.keep h.lt hx, h.lt.keep hx⟩

set_option maxHeartbeats 4000000 in
theorem places_spec {l : List PE} {f : Int} {c : BitVec 32} {pv : Value} (hs : RowS m l pv) (hl : l.length < 1000000) (hn : (l.map unitE).Nodup) :
    WC R F.diff_places [.agg #[.int .i64 f, u32 c, pv]] m fun r m' => ∃ q, r = .map (some q) ∧ Mp m' q eP (asMap l) ∧ m.next ≤ q ∧ Ext m m' := by
  refine WC.of R.diff_places rfl ?_
  simp only [RC.diff_places, go_sem, hs.sl.one]
  have hx1 : Ext m (m.new (.cells [.int .i64 f, u32 c, pv] (some 3))) := Ext.new
  have hb1 : Bk (m.new (.cells [.int .i64 f, u32 c, pv] (some 3))) m.next [.int .i64 f, u32 c, pv] 3 := Bk.new
  generalize m.new (.cells [.int .i64 f, u32 c, pv] (some 3)) = m1 at hx1 hb1 ⊢
  have hs1 := hs.keep hx1
  have hbn := hb1.ne
  try simp only [go_sem, ruB, hbn, hb1.at_, hs1.sl.len]
  have hM : Mp (m1.new (.map [])) m1.next eP (asMap ([] : List PE)) := Mp.new
  have hx2 : Ext m1 (m1.new (.map [])) := Ext.new
  generalize m1.new (.map []) = m2 at hM hx2 ⊢
  refine WL.of (fun n e m' => ∃ i : Nat, i ≤ l.length ∧ n = l.length - i ∧ e = [(3, .map (some m1.next)), (8, pv), (9, .int .i64 l.length), (10, .int .i64 i)] ∧ Mp m' m1.next eP (asMap (l.take i)) ∧ Ext m1 m') l.length
    ⟨0, by omega, by omega, by simp only [go_sem] <;> rfl, hM, hx2⟩ ?_
  rintro _ _ m3 ⟨i, hi, rfl, rfl, hM3, hx3⟩
  have hs3 := hs1.keep hx3
  simp only [RB.diff_places_1, go_sem]
  refine gT.of (fun h1' => ?_) (fun h1' => ?_) <;> (have h1 := h1'; try simp only [decide_eq_true_eq, decide_eq_false_iff_not, beq_iff_eq, bne_iff_ne, beq_eq_false_iff_ne, ne_eq, Bool.not_eq_true', Bool.not_eq_false', bne_eq_false_iff_eq, Int.not_lt, Int.not_le] at h1)
  · have hil : i < l.length := by omega
    obtain ⟨b, o, a1, a2, a3, a4⟩ := hs3.sl.elem peV_len (k := .i64) (i := i) hil
    have hsu := asMap_succ hil hn
    have s1 := step1 (show i < 1000000 by omega)
    have q1 := l[i].one
    generalize l[i] = x at *
    simp only [peV, plV] at a2
    try simp only [go_sem, ruB, h1', a1, a2, q1]
    have hx4 : Ext m3 (m3.new (.cells [.int .i64 x.pl.unit, .int .i64 x.pl.share, .int .i64 x.pl.core, x.pv] (some 4))) := Ext.new
    have hb4 : Bk (m3.new (.cells [.int .i64 x.pl.unit, .int .i64 x.pl.share, .int .i64 x.pl.core, x.pv] (some 4))) m3.next [.int .i64 x.pl.unit, .int .i64 x.pl.share, .int .i64 x.pl.core, x.pv] 4 := Bk.new
    generalize m3.new (.cells [.int .i64 x.pl.unit, .int .i64 x.pl.share, .int .i64 x.pl.core, x.pv] (some 4)) = m4 at hx4 hb4 ⊢
    have hM4 := hM3.keep hx4
    have hp := hM4.put (x := x.pl.unit) (a := x)
    simp only [eP, peV, plV] at hp
    try simp only [go_sem, ruB, hb4.at_, hp, s1]
    have hn1 := hx1.next
    refine ⟨l.length - (i + 1), by omega, i + 1, by omega, rfl, rfl, ?_, (hx3.trans hx4).set (Nat.le_refl _)⟩
    rw [← hsu]
    exact hM4.self
  · have hil : i = l.length := by omega
    subst hil
    rw [List.take_length] at hM3
    try simp only [go_sem, ruB, h1']
    exact ⟨_, rfl, hM3, hx1.next, hx1.trans hx3⟩
end Go.Am


/- Diff: a map's keys in order. -/
set_option linter.unusedVariables false
set_option linter.unusedSimpArgs false
namespace Go.Am
open Classical
variable {m : Mem}

theorem keyInts_asMap : ∀ {l : List PE}, (∀ e ∈ l, (Lit.int .i64 (unitE e)).wf = true) → keyInts (mpL eP (asMap l)) = some (l.map unitE)
  | [], _ => rfl
  | e :: l, h => by
    simp only [asMap, mpL, List.map_cons, keyInts]
    rw [if_pos (h e (by simp))]
    have := keyInts_asMap (l := l) fun x hx => h x (by simp [hx])
    simp only [asMap, mpL] at this
    rw [this]; rfl

theorem keys_spec {q : Nat} : WC R F.maps_Keys_map_int_api_Place_int_api_Place [.map (some q)] m fun r m' => r = .func (.func F.maps_Keys_map_int_api_Place_int_api_Place_1) #[] #[.pointer (some ⟨m.next, 0, none⟩)] ∧ m' = m.new (.cells [.map (some q)] (some 1)) := by
  refine WC.of R.maps_Keys_map_int_api_Place_int_api_Place rfl ?_
  simp only [RC.maps_Keys_map_int_api_Place_int_api_Place, go_sem]

theorem ints_one {l : List Int} : oneCells (l.map (.int .i64)) = true := by
  unfold oneCells
  rw [List.all_eq_true]
  intro x hx
  obtain ⟨y, _, rfl⟩ := List.mem_map.1 hx
  rfl

theorem sorted_spec {l : List PE} {b q : Nat} (hb : Bk m b [.map (some q)] 1) (hq : Mp m q eP (asMap l)) (hw : ∀ e ∈ l, (Lit.int .i64 (unitE e)).wf = true) (hn : (l.map unitE).Nodup) (hl : l.length ≤ 1000000) :
    WC R F.slices_Sorted_int [.func (.func F.maps_Keys_map_int_api_Place_int_api_Place_1) #[] #[.pointer (some ⟨b, 0, none⟩)]] m fun r m' => Own m m' 1 l.length (intsZ (sortI (l.map unitE))) r ∧ Ext m m' ∧ Full r := by
  have hg : F.maps_Keys_map_int_api_Place_int_api_Place_1 = 85 := by unfold F.maps_Keys_map_int_api_Place_int_api_Place_1; rfl
  have hk := keyInts_asMap hw
  have hnd := noDup_iff.2 hn
  have hlen : (l.map unitE).length ≤ 1000000 := by rw [List.length_map]; exact hl
  have key : ∃ r m', X.sk [.func (.func 85) #[] #[.pointer (some ⟨b, 0, none⟩)]] m = some (r, m') ∧ Own m m' 1 l.length (intsZ (sortI (l.map unitE))) r ∧ Ext m m' ∧ Full r := by
    cases l with
    | nil =>
      refine ⟨.slice none 0 0, m, ?_, .nil rfl rfl, Ext.refl _, fun a p q e => by cases e; rfl⟩
      have hc : ([85] : List Nat).contains 85 = true := rfl
      have h0 : ((#[] : Array Value).toList) = [] := rfl
      have h1 : ((#[Value.pointer (some ⟨b, 0, none⟩)] : Array Value).toList) = [.pointer (some ⟨b, 0, none⟩)] := rfl
      simp only [X.sk, X.skeys, hc, h0, h1, hb.at_, List.getElem?_cons_zero, hq.at_, hk, Option.bind_some]
      rw [if_pos ⟨hnd, hlen⟩]
      rfl
    | cons e l =>
      refine ⟨.slice (some ⟨m.next, 0, none⟩) (e :: l).length (e :: l).length, m.new (.cells ((sortI ((e :: l).map unitE)).map (.int .i64)) (some 1)), ?_, ?_, Ext.new, fun a p q e => by cases e; rfl⟩
      · have hc : ([85] : List Nat).contains 85 = true := rfl
        have h0 : ((#[] : Array Value).toList) = [] := rfl
        have h1 : ((#[Value.pointer (some ⟨b, 0, none⟩)] : Array Value).toList) = [.pointer (some ⟨b, 0, none⟩)] := rfl
        simp only [X.sk, X.skeys, hc, h0, h1, hb.at_, List.getElem?_cons_zero, hq.at_, hk, Option.bind_some]
        rw [if_pos ⟨hnd, hlen⟩]
        simp only [List.map_cons, List.length_cons, List.length_map]
      · refine .at (all := (sortI ((e :: l).map unitE)).map (.int .i64)) (Nat.le_refl _) (by simp [Mem.new]) (Nat.le_refl _) (by simp [Mem.new]) ?_ ?_ ?_
        · rw [List.length_map, sortI_len, List.length_map, Nat.mul_one]
        · rw [List.take_of_length_le]; rfl
          rw [List.length_map, sortI_len, List.length_map, Nat.mul_one]; exact Nat.le_refl _
        · exact ints_one
  obtain ⟨r, m', h1, h2⟩ := key
  rw [hg]
  exact WC.ext R.slices_Sorted_int h1 h2
end Go.Am


/- Diff: whole numbers sorted in place. -/
set_option linter.unusedVariables false
set_option linter.unusedSimpArgs false
namespace Go.Am
open Classical
variable {m : Mem}

theorem Sort_spec {m0 : Mem} {zs : List Int} {v : Value} (ho : Own m0 m 1 zs.length (intsZ zs) v) (hx : Ext m0 m) (hl : zs.length ≤ 1000000) :
    WC R F.slices_Sort_int_int [v] m fun r m' => r = .tuple #[] ∧ Own m0 m' 1 zs.length (intsZ (sortI zs)) v ∧ Upd m m' (vb v) ∧ Ext m0 m' := by
  cases ho with
  | nil h hc =>
    obtain rfl : zs = [] := List.eq_nil_of_length_eq_zero h
    exact WC.ext R.slices_Sort_int_int (v := .tuple #[]) (m' := m) rfl ⟨rfl, .nil rfl rfl, Upd.refl _ _, hx⟩
  | @«at» b c all hb hb2 hnc hm hal hcs hone =>
    have hall : all.take zs.length = zs.map (.int .i64) := by simpa [intsZ] using hcs
    have key : X.so [.slice (some ⟨b, 0, none⟩) zs.length c] m = some (.tuple #[], m.set b (some (.cells (writeL all 0 ((sortI zs).map (.int .i64))) (some 1)))) := by
      simp only [X.so, X.isort, hm, List.drop_zero]
      rw [if_pos ⟨by omega, hl⟩, hall, cellInts_map]
      rfl
    refine WC.ext R.slices_Sort_int_int key ⟨rfl, ?_, Upd.set (by simp [vb]), hx.set hb⟩
    have hsl : ((sortI zs).map (Value.int .i64)).length = zs.length := by rw [List.length_map, sortI_len]
    have hw : writeL all 0 ((sortI zs).map (Value.int .i64)) = (sortI zs).map (Value.int .i64) ++ all.drop zs.length := by
      unfold writeL
      simp [sortI_len]
    refine .at (all := writeL all 0 ((sortI zs).map (Value.int .i64))) hb (by simpa [Mem.set] using hb2) hnc (by simp [Mem.set]) ?_ ?_ ?_
    · rw [hw, List.length_append, hsl, List.length_drop]; omega
    · rw [hw, Nat.mul_one, List.take_left' hsl]; rfl
    · exact ints_one

def compL : List Int → List Int
  | [] => []
  | [a] => [a]
  | a :: b :: r => if a = b then compL (b :: r) else a :: compL (b :: r)
theorem compL_snoc : ∀ {l : List Int} {x y : Int}, compL (l ++ [x, y]) = compL (l ++ [x]) ++ (if x = y then [] else [y])
  | [], x, y => by
    simp only [List.nil_append, compL]
    by_cases h : x = y
    · simp [h]
    · simp [h]
  | [a], x, y => by
    have ih := compL_snoc (l := []) (x := x) (y := y)
    simp only [List.nil_append] at ih
    simp only [List.cons_append, List.nil_append, compL]
    by_cases h : x = y <;> by_cases g : a = x <;> simp [h, g] 
  | a :: b :: l, x, y => by
    have ih := compL_snoc (l := b :: l) (x := x) (y := y)
    simp only [List.cons_append] at ih ⊢
    simp only [compL]
    by_cases g : a = b
    · simp [g, ih]
    · simp [g, ih]
theorem compL_len : ∀ {l : List Int}, (compL l).length ≤ l.length
  | [] => Nat.le_refl _
  | [a] => Nat.le_refl _
  | a :: b :: r => by
    have ih := compL_len (l := b :: r)
    simp only [compL]
    split
    · simp only [List.length_cons] at ih ⊢; omega
    · simp only [List.length_cons] at ih ⊢; omega
theorem compL_take {l : List Int} {j : Nat} (h : 0 < j) (hj : j < l.length) : compL (l.take (j + 1)) = compL (l.take j) ++ (if l[j - 1] = l[j] then [] else [l[j]]) := by
  obtain ⟨i, rfl⟩ : ∃ i, j = i + 1 := ⟨j - 1, by omega⟩
  have e1 : l.take (i + 1 + 1) = l.take i ++ [l[i], l[i + 1]] := by
    rw [List.take_succ_eq_append_getElem hj, List.take_succ_eq_append_getElem (show i < l.length by omega), List.append_assoc]; rfl
  have e2 : l.take (i + 1) = l.take i ++ [l[i]] := List.take_succ_eq_append_getElem (by omega)
  rw [e1, e2, compL_snoc]; rfl
end Go.Am


/- Diff: whole numbers left out. -/
set_option linter.unusedVariables false
set_option linter.unusedSimpArgs false
namespace Go.Am
open Classical
variable {m : Mem}

theorem intsZ_getq {l : List Int} {i : Nat} (h : i < l.length) : (intsZ l)[i]? = some (.int .i64 l[i]) := by
  unfold intsZ; rw [List.getElem?_map, List.getElem?_eq_getElem h]; rfl
theorem intsZ_len' {l : List Int} : (intsZ l).length = l.length := by unfold intsZ; rw [List.length_map]
theorem Sl.geti {l : List Int} {v : Value} (h : Sl m 1 l.length (intsZ l) v) {i : Nat} (hi : i < l.length) :
    ∃ b o, aIdxS 1 v (.int .i64 i) = some (.pointer (some ⟨b, o, none⟩)) ∧ aLoad false 1 m (.pointer (some ⟨b, o, none⟩)) = some (.int .i64 l[i]) := by
  obtain ⟨b, o, h1, h2, -⟩ := h.cell (k := .i64) hi
  have := h2 0 (by omega)
  rw [Nat.mul_one, Nat.add_zero, Nat.add_zero, intsZ_getq hi] at this
  exact ⟨b, o, h1, this⟩

theorem iIndex {l : List Int} {v fv : Value} {p : Int → Bool} (hs : Sl m 1 l.length (intsZ l) v) (hb : SlLt m v) (hl : l.length ≤ 3000000)
    (hp : ∀ m1 x, Ext m m1 → gV R fv [.int .i64 x] m1 fun r m' => r = .bool (p x) ∧ Ext m1 m') :
    WC R F.slices_IndexFunc_int_int [v, fv] m fun r m' => ((l.any p = false ∧ r = .int .i64 (-1)) ∨ ∃ i : Nat, ∃ h : i < l.length, r = .int .i64 i ∧ p l[i] = true ∧ ∀ j (hj : j < i), p (l[j]'(by omega)) = false) ∧ Ext m m' := by
  refine WC.of R.slices_IndexFunc_int_int rfl ?_
  simp only [RC.slices_IndexFunc_int_int, go_sem, hs.len]
  refine WL.of (fun n e m' => ∃ i : Nat, i ≤ l.length ∧ n = l.length - i ∧ e = [(0, v), (1, fv), (7, .int .i64 l.length), (8, .int .i64 i)] ∧ (∀ j (hj : j < l.length), j < i → p l[j] = false) ∧ Ext m m') l.length
    ⟨0, by omega, by omega, by simp only [go_sem] <;> rfl, fun _ _ h => by omega, Ext.refl _⟩ ?_
  rintro _ _ m1 ⟨i, hi, rfl, rfl, hj, hx⟩
  have hs1 := hs.keep hb hx
  simp only [RB.slices_IndexFunc_int_int_1, go_sem]
  refine gT.of (fun g1' => ?_) (fun g1' => ?_) <;> (have g1 := g1'; try simp only [decide_eq_true_eq, decide_eq_false_iff_not, beq_iff_eq, bne_iff_ne, beq_eq_false_iff_ne, ne_eq, Bool.not_eq_true', Bool.not_eq_false', bne_eq_false_iff_eq, Int.not_lt, Int.not_le] at g1)
  · have hil : i < l.length := by omega
    obtain ⟨b, o, a1, a2⟩ := hs1.geti hil
    simp only [go_sem, g1', a1, a2]
    refine gV.of (hp m1 l[i] hx) ?_
    rintro _ m2 ⟨rfl, hx2⟩
    simp only [go_sem]
    refine gT.of (fun g2 => ?_) (fun g2 => ?_)
    · simp only [go_sem]
      exact ⟨.inr ⟨i, hil, rfl, g2, fun j hj2 => hj j (by omega) hj2⟩, hx.trans hx2⟩
    · have w : IntKind.wrap .i64 ((i : Int) + 1) = ((i + 1 : Nat) : Int) := by rw [wrap_i64 (by omega) (by omega)]; rfl
      simp only [go_sem, w]
      refine ⟨l.length - (i + 1), by omega, i + 1, by omega, rfl, rfl, fun j h1 h2 => ?_, hx.trans hx2⟩
      by_cases e : j = i
      · subst e; exact g2
      · exact hj j h1 (by omega)
  · have : i = l.length := by omega
    subst this
    simp only [go_sem, g1']
    refine ⟨.inl ?_, hx⟩
    refine List.any_eq_false.2 fun x hx' => ?_
    obtain ⟨j, h1, rfl⟩ := List.getElem_of_mem hx'
    rw [hj j h1 h1]; simp

theorem iupd {all A B C : List Value} {o : Nat} (h : all = A ++ B ++ C) (ho : A.length = o) {X : List Value} (hl : X.length = B.length) : writeL all o X = A ++ X ++ C := by
  subst h
  unfold writeL
  have e1 : (A ++ B ++ C).take o = A := by rw [List.append_assoc]; exact List.take_left' ho
  have e2 : (A ++ B ++ C).drop (o + X.length) = C := List.drop_left' (by rw [List.length_append, ho, hl])
  rw [e1, e2]
theorem intsZ_one {l : List Int} : oneCells (intsZ l) = true := ints_one
theorem zeros1 {n : Nat} : oneCells (zeros [.int .i64 0] n) = true ∧ (zeros [.int .i64 0] n).length = n := by
  rw [zeros_int]
  exact ⟨intsZ_one, by rw [intsZ_len', List.length_replicate]⟩

/-- The tail of one's own row is cleared, the rest is handed back. -/
theorem tail_cut {M : Mem} {b c n k : Nat} {K mid rest : List Value} (hm : M.blk b = some (.cells (K ++ mid ++ rest) (some 1))) (hK : K.length = k) (hmid : mid.length = n - k) (hkn : k ≤ n) (hnc : n ≤ c) :
    ∃ M', aSub 1 M (.slice (some ⟨b, 0, none⟩) n c) (some (.int .i64 k)) none none = some (.slice (some ⟨b, k, none⟩) (n - k) (c - k)) ∧
      aClr 1 [.int .i64 0] M (.slice (some ⟨b, k, none⟩) (n - k) (c - k)) = some M' ∧ aSub 1 M' (.slice (some ⟨b, 0, none⟩) n c) none (some (.int .i64 k)) none = some (.slice (some ⟨b, 0, none⟩) k c) ∧
      ∃ Z : List Value, Z.length = n - k ∧ M'.blk b = some (.cells (K ++ Z ++ rest) (some 1)) ∧ Upd M M' [b] := by
  have hun : unitOk 1 M b = true := unitOk_own hm
  have cs1 := sub_from (m := M) (b := b) (o := 0) (n := n) (c := c) (u := 1) (k := .i64) (i := k) hun hkn hnc
  rw [Nat.zero_add, Nat.mul_one] at cs1
  by_cases hz : n - k = 0
  · refine ⟨M, cs1, ?_, sub_to (k := .i64) hun (by omega), mid, hmid, hm, Upd.refl _ _⟩
    simp only [aClr]
    rw [if_pos hz]
  · refine ⟨M.set b (some (.cells (K ++ zeros [.int .i64 0] (n - k) ++ rest) (some 1))), cs1, ?_, ?_, zeros [.int .i64 0] (n - k), zeros1.2, by simp [Mem.set], Upd.set (by simp)⟩
    · simp only [aClr]
      rw [if_neg hz, if_pos (show ([.int .i64 0] : List Value).length = 1 from rfl)]
      unfold aWrite
      rw [hm]
      simp only
      rw [if_pos ⟨by rw [zeros1.2]; simp only [List.length_append, hK, hmid]; omega, zeros1.1⟩]
      congr 4
      exact iupd rfl hK (by rw [zeros1.2, hmid])
    · exact sub_to (k := .i64) (unitOk_own (cs := K ++ zeros [.int .i64 0] (n - k) ++ rest) (by simp [Mem.set])) (by omega)
end Go.Am


/- Diff: DeleteFunc at whole numbers. -/
set_option linter.unusedVariables false
set_option linter.unusedSimpArgs false
namespace Go.Am
open Classical
variable {m : Mem}

/-- A store of a whole number into one's own row. -/
theorem istore {M : Mem} {b k : Nat} {A B C : List Value} {x y : Value} (hm : M.blk b = some (.cells (A ++ x :: B) (some 1))) (hA : A.length = k) (hy : y.cells = #[y]) (h1 : y.oneCell' = true) :
    aStore 1 M (.pointer (some ⟨b, k, none⟩)) y = some (M.set b (some (.cells (A ++ y :: B) (some 1)))) := by
  simp only [aStore, hy]
  rw [if_pos (by rfl)]
  unfold aWrite
  rw [hm]
  simp only
  rw [if_pos ⟨by simp [hA], by simp [oneCells, h1]⟩]
  congr 4
  have := iupd (all := A ++ x :: B) (A := A) (B := [x]) (C := B) (o := k) (X := [y]) (by simp) hA rfl
  simpa using this

theorem iDeleteFunc {l : List Int} {v fv : Value} {p : Int → Bool} {m0 : Mem} (ho : Own m0 m 1 l.length (intsZ l) v) (hx0 : Ext m0 m) (hl : l.length ≤ 3000000)
    (hp : ∀ m1 x, Ext m0 m1 → gV R fv [.int .i64 x] m1 fun r m' => r = .bool (p x) ∧ Ext m1 m') :
    WC R F.slices_DeleteFunc_int_int [v, fv] m fun r m' => Own m0 m' 1 (l.filter fun x => !p x).length (intsZ (l.filter fun x => !p x)) r ∧ Ext m0 m' := by
  refine WC.of R.slices_DeleteFunc_int_int rfl ?_
  simp only [RC.slices_DeleteFunc_int_int, go_sem]
  refine gC.of (iIndex ho.sl ho.lt hl (fun m1 x hx => hp m1 x (hx0.trans hx))) ?_
  rintro _ m1 ⟨⟨h2, rfl⟩ | ⟨i0, hi0, rfl, h2, h3⟩, hx1⟩
  · have e : l.filter (fun x => !p x) = l := by
      rw [List.filter_eq_self]
      intro x hx
      have := List.any_eq_false.1 h2 x hx
      simpa using this
    rw [e]
    simp only [go_sem]
    exact ⟨ho.keep hx1, hx0.trans hx1⟩
  · have ho1 := ho.keep hx1
    have hx01 := hx0.trans hx1
    clear hx0
    cases ho1 with
    | nil h hc => omega
    | @«at» b c all hb hb2 hnc hm hal hcs hone =>
      have hall : all = intsZ l ++ all.drop l.length := by
        rw [Nat.mul_one] at hcs
        rw [← hcs, List.take_append_drop]
      generalize hrest : all.drop l.length = rest at hall
      have w1 : ∀ k : Nat, k < 3000000 → IntKind.wrap .i64 ((k : Int) + 1) = ((k + 1 : Nat) : Int) := fun k hk => by rw [wrap_i64 (by omega) (by omega)]; rfl
      have ef : ((i0 : Int) == -1) = false := by rw [beq_eq_false_iff_ne]; omega
      simp only [go_sem, ef, w1 i0 (by omega)]
      have start : (l.take i0).filter (fun x => !p x) = l.take i0 := by
        rw [List.filter_eq_self]
        intro x hx
        obtain ⟨j, hj, rfl⟩ := List.getElem_of_mem hx
        rw [List.length_take] at hj
        rw [List.getElem_take, h3 j (by omega)]; rfl
      have hsplit : ∀ j, j < l.length → intsZ (l.drop j) = .int .i64 l[j]! :: intsZ (l.drop (j + 1)) := fun j hj => by
        rw [List.drop_eq_getElem_cons hj, getElem!_pos l j hj]; rfl
      refine WL.of (fun r e m' => ∃ (j : Nat) (K : List Int) (mid : List Value), r = l.length - j ∧ j ≤ l.length ∧ K = (l.take j).filter (fun x => !p x) ∧ K.length < j ∧ mid.length = j - K.length ∧
          e = [(0, .slice (some ⟨b, 0, none⟩) l.length c), (1, fv), (5, .int .i64 K.length), (6, .int .i64 j)] ∧ m'.blk b = some (.cells (intsZ K ++ mid ++ (intsZ (l.drop j) ++ rest)) (some 1)) ∧ Upd m1 m' [b]) (l.length - (i0 + 1))
        ⟨i0 + 1, l.take i0, [.int .i64 l[i0]], by omega, by omega, ?_, by rw [List.length_take]; omega, by rw [List.length_take]; simp; omega, ?_, ?_, Upd.refl _ _⟩ ?_
      · rw [List.take_succ_eq_append_getElem hi0, List.filter_append, start]; simp [h2]
      · rw [List.length_take, Nat.min_eq_left (by omega)]; simp only [go_sem] <;> rfl
      · rw [hm, hall]
        congr 2
        have e : intsZ l = intsZ (l.take i0) ++ (.int .i64 l[i0] :: intsZ (l.drop (i0 + 1))) := by
          unfold intsZ
          rw [← List.map_cons, ← List.drop_eq_getElem_cons hi0, ← List.map_append, List.take_append_drop]
        rw [e]; simp only [List.append_assoc, List.cons_append, List.nil_append]
      · rintro r0 _ m2 ⟨j, K, mid, hr, hj, hK, hKj, hmid, rfl, hm2, hu2⟩
        have hx02 : Ext m0 m2 := hu2.ext_of hx01 (by simpa using hb)
        have hKl : K.length < 3000000 := by omega
        have hfK : (intsZ K).length = K.length := intsZ_len'
        have hbn : b < m2.next := Nat.lt_of_lt_of_le hb2 hu2.next
        simp only [RB.slices_DeleteFunc_int_int_1, go_sem, len_s]
        refine gT.of (fun g1' => ?_) (fun g1' => ?_) <;> (have g1 := g1'; try simp only [decide_eq_true_eq, decide_eq_false_iff_not, beq_iff_eq, bne_iff_ne, beq_eq_false_iff_ne, ne_eq, Bool.not_eq_true', Bool.not_eq_false', bne_eq_false_iff_eq, Int.not_lt, Int.not_le] at g1)
        · have hjl : j < l.length := by omega
          have hd := hsplit j hjl
          rw [getElem!_pos l j hjl] at hd
          rw [hd] at hm2
          have ix : ∀ k : Nat, k < l.length → aIdxS 1 (.slice (some ⟨b, 0, none⟩) l.length c) (.int .i64 k) = some (.pointer (some ⟨b, k, none⟩)) := fun k hk => by
            simp only [aIdxS]
            rw [if_pos (by omega), Nat.zero_add]; simp
          have a2 : aLoad false 1 m2 (.pointer (some ⟨b, j, none⟩)) = some (.int .i64 l[j]) := by
            have hpre : (intsZ K ++ mid).length = j := by rw [List.length_append, hfK, hmid]; omega
            rw [load_w, hm2]
            show (intsZ K ++ mid ++ _)[j]? = _
            rw [List.getElem?_append_right (by omega), hpre, Nat.sub_self]; rfl
          simp only [go_sem, g1', ix j hjl, a2]
          refine gV.of (hp m2 l[j] hx02) ?_
          rintro _ m4 ⟨rfl, hx4⟩
          have hm4 : m4.blk b = _ := (hx4.same b hbn).trans hm2
          have hu4 : Upd m1 m4 [b] := hu2.trans hx4.upd (fun _ h => h) (fun _ h => .inl h)
          have tk : l.take (j + 1) = l.take j ++ [l[j]] := List.take_succ_eq_append_getElem hjl
          simp only [go_sem]
          refine gT.of (fun g2 => ?_) (fun g2 => ?_)
          · have g2 : p l[j] = false := by simpa using g2
            obtain ⟨x0, M2, hM⟩ : ∃ x0 M2, mid = x0 :: M2 := by
              cases mid with
              | nil => simp at hmid; omega
              | cons x0 M2 => exact ⟨x0, M2, rfl⟩
            subst hM
            have hw : aStore 1 m4 (.pointer (some ⟨b, K.length, none⟩)) (.int .i64 l[j]) = some (m4.set b (some (.cells (intsZ (K ++ [l[j]]) ++ (M2 ++ [.int .i64 l[j]]) ++ (intsZ (l.drop (j + 1)) ++ rest)) (some 1)))) := by
              rw [istore (C := []) (A := intsZ K) (x := x0) (B := M2 ++ (.int .i64 l[j] :: intsZ (l.drop (j + 1)) ++ rest)) (by rw [hm4]; simp) hfK rfl rfl]
              congr 4
              unfold intsZ
              simp
            have hg2 : (!p l[j]) = true := by rw [g2]; rfl
            simp only [go_sem, g2, ix K.length (by omega), hw, w1 K.length hKl, w1 j (by omega)]
            refine ⟨l.length - (j + 1), by omega, j + 1, K ++ [l[j]], M2 ++ [.int .i64 l[j]], rfl, by omega, ?_, by simp; omega, ?_, ?_, by simp [Mem.set], hu4.trans (Upd.set (fp := [b]) (by simp)) (fun _ h => h) (fun _ h => .inl h)⟩
            · rw [tk, List.filter_append, ← hK]; simp [g2]
            · simp only [List.length_append, List.length_cons, List.length_nil] at hmid ⊢; omega
            · simp only [List.length_append, List.length_cons, List.length_nil, Nat.zero_add]
          · have g2 : p l[j] = true := by simpa using g2
            simp only [go_sem, g2, w1 j (by omega)]
            refine ⟨l.length - (j + 1), by omega, j + 1, K, mid ++ [.int .i64 l[j]], rfl, by omega, ?_, by omega, ?_, rfl, ?_, hu4⟩
            · rw [tk, List.filter_append, ← hK]; simp [g2]
            · simp only [List.length_append, List.length_cons, List.length_nil]; omega
            · rw [hm4]; simp only [List.append_assoc, List.cons_append, List.nil_append]
        · have hjl : j = l.length := by omega
          subst hjl
          rw [List.take_length] at hK
          rw [List.drop_length, show intsZ ([] : List Int) = [] from rfl, List.nil_append] at hm2
          obtain ⟨M', c1, c2, c3, Z, z1, z2, z3⟩ := tail_cut (c := c) hm2 hfK (n := l.length) hmid (by omega) hnc
          simp only [go_sem, g1', c1, c2, c3]
          rw [← hK]
          refine ⟨.at (all := intsZ K ++ Z ++ rest) hb (Nat.lt_of_lt_of_le hbn z3.next) (by omega) z2 ?_ ?_ intsZ_one, z3.ext_of hx02 (by simpa using hb)⟩
          · have : rest.length = all.length - l.length := by rw [← hrest, List.length_drop]
            simp only [List.length_append, hfK, z1, this, hal]; omega
          · rw [Nat.mul_one, List.append_assoc, List.take_left' hfK]
end Go.Am
