/- Parts of the proofs of the statements of this seat: ChainPlanW9, ChainPlanM, ChainPlanM2, ChainPlanX1, ChainPlanX2, ChainPlanX3, ChainPlanX4, AmSl3, ChainPlanX5, ChainPlanM3, ChainPlanY1, ChainPlanY2, ChainPlanL1, ChainPlanL3, SpansD, ChainOrderD, AmCut, AmOwnQ, ChainOrderW, AmMap, ChainOrderW2, ChainW1. No conditions. -/
import Derived.Test.YteekebicnoaolaaChainGoesPart4
import Derived.Test.YteekebicnoaolaaChainGoesPart5
set_option linter.unusedVariables false
set_option linter.unusedSimpArgs false

/- PlanW9 over the table of chain (relayset.py). -/
set_option linter.unusedVariables false
set_option linter.unusedSimpArgs false
namespace Go.Am
open Classical
variable {m : Mem}

theorem fin_iff {P : Prop} {b : Bool} (h : b = true ↔ P) : (Value.bool b = Value.bool (decide P)) := by
  congr 1; rw [Bool.eq_iff_iff, decide_eq_true_eq]; exact h
theorem fin_no {P : Prop} (h : ¬ P) : (Value.bool false = Value.bool (decide P)) := by rw [decide_eq_false h]
theorem fin_yes {P : Prop} (h : P) : (Value.bool true = Value.bool (decide P)) := by rw [decide_eq_true h]

def cntL (l : List Pl) (c t : Int) : Nat := (l.map fun x => x.pieces.countP (atB c t)).sum
theorem cntL_succ {l : List Pl} {c t : Int} {i : Nat} (h : i < l.length) : cntL (l.take (i + 1)) c t = cntL (l.take i) c t + l[i].pieces.countP (atB c t) := by
  unfold cntL
  rw [List.take_succ_eq_append_getElem h, List.map_append, List.sum_append]; simp
theorem cntL_le {l : List Pl} {c t : Int} (h : ∀ x ∈ l, x.pieces.length < 1000000) : ∀ i, cntL (l.take i) c t ≤ 1000000 * i := by
  intro i
  induction i with
  | zero => simp [cntL]
  | succ i ih =>
    by_cases hi : i < l.length
    · rw [cntL_succ hi]
      have := h _ (List.getElem_mem hi)
      have h2 : l[i].pieces.countP (atB c t) ≤ l[i].pieces.length := List.countP_le_length
      omega
    · rw [List.take_of_length_le (by omega)] at *
      omega

def apartR (l : List Pl) : Prop := ∀ c, c < 16 → ∀ t, t < 64 → cntL l (c : Nat) (t : Nat) ≤ 1

theorem apart1_loop {p : PlanD} {pv : Value} {b0 c t : Nat} (hp : PlsV m p.places pv) (hb : Bk m b0 [.int .i64 p.frame, u32 p.cores, pv] 3) (hl : p.places.length < 1000000) (hp1 : ∀ x ∈ p.places, x.pieces.length < 1000000) :
    WL R [1, 3, 4, 5, 6] RB.ref16_apart_1 [(1, pt b0), (3, .int .i64 c), (4, .int .i64 t), (5, .int .i64 0), (6, .int .i64 0)] m fun x e m' =>
      x = .exit 4 ∧ e = [(1, pt b0), (3, .int .i64 c), (4, .int .i64 t), (5, .int .i64 (cntL p.places c t : Nat)), (6, .int .i64 p.places.length), (19, .bool false)] ∧ Ext m m' := by
  refine WL.of (fun n e m' => ∃ i : Nat, i ≤ p.places.length ∧ n = p.places.length - i ∧ e = [(1, pt b0), (3, .int .i64 c), (4, .int .i64 t), (5, .int .i64 (cntL (p.places.take i) c t : Nat)), (6, .int .i64 i)] ∧ Ext m m') p.places.length
    ⟨0, by omega, by omega, by simp only [go_sem] <;> rfl, Ext.refl _⟩ ?_
  rintro _ _ m4 ⟨i, hi, rfl, rfl, hx4⟩
  have hp4 := hp.keep hx4
  have hb4 := hb.keep hx4
  have hle := cntL_le (c := c) (t := t) hp1 i
  simp only [RB.ref16_apart_1, pt, go_sem, ruB, hb4.at_, hp4.len]
  refine gT.of (fun h3' => ?_) (fun h3' => ?_) <;> (have h3 := h3'; try simp only [decide_eq_true_eq, decide_eq_false_iff_not, beq_iff_eq, bne_iff_ne, beq_eq_false_iff_ne, ne_eq, Bool.not_eq_true', Bool.not_eq_false', bne_eq_false_iff_eq, Int.not_lt, Int.not_le] at h3)
  · have hil : i < p.places.length := by omega
    obtain ⟨b, o, qv, a1, a2, a3, a4, a5⟩ := hp4.elem hil
    have hf := cntL_succ (c := c) (t := t) hil
    have hpl := hp1 _ (List.getElem_mem hil)
    have hpl2 : p.places[i].pieces.countP (atB c t) ≤ p.places[i].pieces.length := List.countP_le_length
    generalize p.places[i] = x at *
    try simp only [go_sem, ruB, hb4.at_, a1, a2]
    refine gC.of (At_spec (x := x) ⟨qv, rfl, a4⟩ hpl) ?_
    rintro _ m5 ⟨rfl, hx5⟩
    simp only [go_sem]
    try simp only [go_sem, ruB, step1 (show i < 1000000 by omega)]
    refine ⟨p.places.length - (i + 1), by omega, i + 1, by omega, rfl, ?_, hx4.trans hx5⟩
    rw [hf, wrap_i64 (by omega) (by omega)]; rfl
  · have hi : i = p.places.length := by omega
    subst hi
    rw [List.take_of_length_le (Nat.le_refl _)]
    try simp only [go_sem, ruB, h3']
    exact hx4

theorem apart2_loop {p : PlanD} {pv : Value} {b0 c : Nat} (hp : PlsV m p.places pv) (hb : Bk m b0 [.int .i64 p.frame, u32 p.cores, pv] 3) (hl : p.places.length < 1000000) (hp1 : ∀ x ∈ p.places, x.pieces.length < 1000000) (h16 : c < 16) :
    WL R [1, 3, 4] RB.ref16_apart_2 [(1, pt b0), (3, .int .i64 c), (4, .int .i64 0)] m fun x e m' =>
      (x = .ret ∧ e = [(2, .bool false)] ∧ ¬ apartR p.places ∧ Ext m m') ∨ (x = .exit 2 ∧ e = [(1, pt b0), (3, .int .i64 c), (4, .int .i64 64), (12, .bool false)] ∧ (∀ t, t < 64 → cntL p.places (c : Nat) (t : Nat) ≤ 1) ∧ Ext m m') := by
  refine WL.of (fun n e m' => ∃ t : Nat, t ≤ 64 ∧ n = 64 - t ∧ e = [(1, pt b0), (3, .int .i64 c), (4, .int .i64 t)] ∧ (∀ s, s < t → cntL p.places (c : Nat) (s : Nat) ≤ 1) ∧ Ext m m') 64
    ⟨0, by omega, by omega, by simp only [go_sem] <;> rfl, fun d hd => by omega, Ext.refl _⟩ ?_
  rintro _ _ m3 ⟨t, ht, rfl, rfl, hts, hx3⟩
  simp only [RB.ref16_apart_2, pt, go_sem]
  refine gT.of (fun h2' => ?_) (fun h2' => ?_) <;> (have h2 := h2'; try simp only [decide_eq_true_eq, decide_eq_false_iff_not, beq_iff_eq, bne_iff_ne, beq_eq_false_iff_ne, ne_eq, Bool.not_eq_true', Bool.not_eq_false', bne_eq_false_iff_eq, Int.not_lt, Int.not_le] at h2)
  · try simp only [go_sem, ruB]
    refine WL.mono (apart1_loop (b0 := b0) (c := c) (t := t) (hp.keep hx3) (hb.keep hx3) hl hp1) ?_
    rintro _ _ m4 ⟨rfl, rfl, hx4⟩
    simp only [pt]
    try simp only [go_sem, ruB]
    refine gT.of (fun h4' => ?_) (fun h4' => ?_) <;> (have h4 := h4'; try simp only [decide_eq_true_eq, decide_eq_false_iff_not, beq_iff_eq, bne_iff_ne, beq_eq_false_iff_ne, ne_eq, Bool.not_eq_true', Bool.not_eq_false', bne_eq_false_iff_eq, Int.not_lt, Int.not_le] at h4)
    · try simp only [go_sem, ruB, h4']
      exact .inl ⟨fun h => by have := h c h16 t (by omega); omega, hx3.trans hx4⟩
    · try simp only [go_sem, ruB, h4', step1 (show t < 1000000 by omega)]
      refine ⟨64 - (t + 1), by omega, t + 1, by omega, rfl, rfl, fun s hs => ?_, hx3.trans hx4⟩
      by_cases e : s = t
      · subst e; omega
      · exact hts s (by omega)
  · have : t = 64 := by omega
    subst this
    try simp only [go_sem, ruB, h2']
    exact .inr ⟨hts, hx3⟩

theorem refApart_spec {p : PlanD} {v : Value} (hv : PlanV m p v) (hl : p.places.length < 1000000) (hp1 : ∀ x ∈ p.places, x.pieces.length < 1000000) : WC R F.ref16_apart [v] m fun r m' => r = .bool (decide (apartR p.places)) ∧ Ext m m' := by
  refine WC.of R.ref16_apart rfl ?_
  obtain ⟨pv, rfl, hp⟩ := hv
  simp only [RC.ref16_apart, planV, go_sem, hp.one]
  have hx : Ext m (m.new (.cells [.int .i64 p.frame, u32 p.cores, pv] (some 3))) := Ext.new
  have hb : Bk (m.new (.cells [.int .i64 p.frame, u32 p.cores, pv] (some 3))) m.next [.int .i64 p.frame, u32 p.cores, pv] 3 := Bk.new
  generalize m.new (.cells [.int .i64 p.frame, u32 p.cores, pv] (some 3)) = m1 at hx hb ⊢
  refine WL.of (fun n e m' => ∃ c : Nat, c ≤ 16 ∧ n = 16 - c ∧ e = [(1, pt m.next), (3, .int .i64 c)] ∧ (∀ d, d < c → ∀ t, t < 64 → cntL p.places (d : Nat) (t : Nat) ≤ 1) ∧ Ext m1 m') 16
    ⟨0, by omega, by omega, by simp only [go_sem] <;> rfl, fun d hd => by omega, Ext.refl _⟩ ?_
  rintro _ _ m2 ⟨c, hc, rfl, rfl, hcs, hx2⟩
  simp only [RB.ref16_apart_3, pt, go_sem]
  refine gT.of (fun h1' => ?_) (fun h1' => ?_) <;> (have h1 := h1'; try simp only [decide_eq_true_eq, decide_eq_false_iff_not, beq_iff_eq, bne_iff_ne, beq_eq_false_iff_ne, ne_eq, Bool.not_eq_true', Bool.not_eq_false', bne_eq_false_iff_eq, Int.not_lt, Int.not_le] at h1)
  · try simp only [go_sem, ruB]
    refine WL.mono (apart2_loop (b0 := m.next) (c := c) ((hp.keep hx).keep hx2) (hb.keep hx2) hl hp1 (by omega)) ?_
    rintro _ _ m3 (⟨rfl, rfl, hno, hx3⟩ | ⟨rfl, rfl, hts, hx3⟩)
    · try simp only [go_sem, ruB]
      exact ⟨fin_no hno, hx.trans (hx2.trans hx3)⟩
    · simp only [pt]
      try simp only [go_sem, ruB, step1 (show c < 1000000 by omega)]
      refine ⟨16 - (c + 1), by omega, c + 1, by omega, rfl, rfl, fun d hd => ?_, hx2.trans hx3⟩
      by_cases e : d = c
      · subst e; exact hts
      · exact hcs d (by omega)
  · have : c = 16 := by omega
    subst this
    try simp only [go_sem, ruB]
    exact ⟨fin_yes hcs, hx.trans hx2⟩

def plOk (p : PlanD) (i : Nat) : Prop := ∃ h : i < p.places.length, refPlaceP p p.places[i] ∧ ∀ h : 0 < i, (p.places[i - 1]'(by omega)).unit < p.places[i].unit
def RightP (p : PlanD) : Prop :=
  2 ≤ p.frame ∧ p.frame ≤ 64 ∧ p.cores ≠ 0#32 ∧ p.cores.toNat ≤ 65535 ∧ (∀ i, i < p.places.length → plOk p i) ∧ apartR p.places ∧ p.places.countP isSp < (csP p 16).length ∧
  ∀ c ∈ csP p 16, loadR p (c : Nat) ≤ p.frame

theorem RightP.r {p : PlanD} (h : 2 ≤ p.frame) (h2 : p.frame ≤ 64) (hl : p.places.length < 1000000) (hp1 : ∀ x ∈ p.places, x.pieces.length < 1000000) (ha : ∀ i, i < p.places.length → plOk p i) : PlanR p := by
  refine ⟨hl, hp1, fun x hx => ?_, by omega, h2⟩
  obtain ⟨i, hi, rfl⟩ := List.getElem_of_mem hx
  obtain ⟨_, h, -⟩ := ha i hi
  have := h.2.1; have := h.2.2.1
  omega

theorem PlsV.prev {m : Mem} {l : List Pl} {v : Value} (h : PlsV m l v) {i : Nat} (hi : i < l.length) : ∃ b o, aIdxS 4 v (.int .i64 i) = some (.pointer (some ⟨b, o, none⟩)) ∧ ∀ m', Ext m m' → aLoad false 1 m' (.pointer (some ⟨b, o, none⟩)) = some (.int .i64 l[i].unit) := by
  obtain ⟨b, o, qv, a1, a2, a3, a4, a5⟩ := h.elem hi
  refine ⟨b, o, a1, fun m' hm => ?_⟩
  obtain ⟨b', o', qv', c1, c2, c3, c4, c5⟩ := (h.keep hm).elem hi
  rw [a1] at c1; cases c1
  have := c3 0 (by omega)
  simpa [plV] using this

theorem refRight_spec {p : PlanD} {v : Value} (hv : PlanV m p v) (hl : p.places.length < 1000000) (hp1 : ∀ x ∈ p.places, x.pieces.length < 1000000) : WC R F.ref16_Right [v] m fun r m' => r = .bool (decide (RightP p)) ∧ Ext m m' := by
  refine WC.of R.ref16_Right rfl ?_
  obtain ⟨pv, rfl, hp⟩ := hv
  simp only [RC.ref16_Right, planV, go_sem, hp.one]
  have hx : Ext m (m.new (.cells [.int .i64 p.frame, u32 p.cores, pv] (some 3))) := Ext.new
  have hb : Bk (m.new (.cells [.int .i64 p.frame, u32 p.cores, pv] (some 3))) m.next [.int .i64 p.frame, u32 p.cores, pv] 3 := Bk.new
  generalize m.new (.cells [.int .i64 p.frame, u32 p.cores, pv] (some 3)) = m1 at hx hb ⊢
  try simp only [go_sem, ruB, hb.at_]
  refine gT.of (fun h1' => ?_) (fun h1' => ?_) <;> (have h1 := h1'; try simp only [decide_eq_true_eq, decide_eq_false_iff_not, beq_iff_eq, bne_iff_ne, beq_eq_false_iff_ne, ne_eq, Bool.not_eq_true', Bool.not_eq_false', bne_eq_false_iff_eq, Int.not_lt, Int.not_le] at h1)
  · try simp only [go_sem, ruB, h1']
    exact ⟨fin_no fun h => by have := h.1; omega, hx⟩
  · try simp only [go_sem, ruB, h1', hb.at_]
    refine gT.of (fun h2' => ?_) (fun h2' => ?_) <;> (have h2 := h2'; try simp only [decide_eq_true_eq, decide_eq_false_iff_not, beq_iff_eq, bne_iff_ne, beq_eq_false_iff_ne, ne_eq, Bool.not_eq_true', Bool.not_eq_false', bne_eq_false_iff_eq, Int.not_lt, Int.not_le] at h2)
    · try simp only [go_sem, ruB, h2']
      exact ⟨fin_no fun h => by have := h.2.1; omega, hx⟩
    · try simp only [go_sem, ruB, h2', hb.at_]
      refine gT.of (fun h3' => ?_) (fun h3' => ?_) <;> (have h3 := h3'; try simp only [decide_eq_true_eq, decide_eq_false_iff_not, beq_iff_eq, bne_iff_ne, beq_eq_false_iff_ne, ne_eq, Bool.not_eq_true', Bool.not_eq_false', bne_eq_false_iff_eq, Int.not_lt, Int.not_le] at h3)
      · try simp only [go_sem, ruB, h3']
        exact ⟨fin_no fun h => h.2.2.1 h3, hx⟩
      · try simp only [go_sem, ruB, h3', hb.at_]
        refine gT.of (fun h4' => ?_) (fun h4' => ?_) <;> (have h4 := h4'; try simp only [decide_eq_true_eq, decide_eq_false_iff_not, beq_iff_eq, bne_iff_ne, beq_eq_false_iff_ne, ne_eq, Bool.not_eq_true', Bool.not_eq_false', bne_eq_false_iff_eq, Int.not_lt, Int.not_le] at h4)
        · try simp only [go_sem, ruB, h4']
          exact ⟨fin_no fun h => by have := h.2.2.2.1; simp at h4; omega, hx⟩
        · have hc : p.cores.toNat ≤ 65535 := by simp at h4; omega
          try simp only [go_sem, ruB, h4']
          refine WL.of (fun n e m' => ∃ i : Nat, i ≤ p.places.length ∧ n = p.places.length - i ∧ e = [(1, pt m.next), (3, .int .i64 i)] ∧ (∀ j, j < i → plOk p j) ∧ Ext m1 m') p.places.length
            ⟨0, by omega, by omega, by simp only [go_sem] <;> rfl, fun d hd => by omega, Ext.refl _⟩ ?_
          rintro _ _ m2 ⟨i, hi, rfl, rfl, hall, hx2⟩
          have hp2 := (hp.keep hx).keep hx2
          have hb2 := hb.keep hx2
          simp only [RB.ref16_Right_2, pt, go_sem, ruB, hb2.at_, hp2.len]
          refine gT.of (fun h5' => ?_) (fun h5' => ?_) <;> (have h5 := h5'; try simp only [decide_eq_true_eq, decide_eq_false_iff_not, beq_iff_eq, bne_iff_ne, beq_eq_false_iff_ne, ne_eq, Bool.not_eq_true', Bool.not_eq_false', bne_eq_false_iff_eq, Int.not_lt, Int.not_le] at h5)
          · have hil : i < p.places.length := by omega
            obtain ⟨b, o, qv, a1, a2, a3, a4, a5⟩ := hp2.elem hil
            obtain ⟨b1, o1, d1, d2⟩ := hp2.prev hil
            have hprev : ∀ h : 0 < i, ∃ b' o', aIdxS 4 pv (.int .i64 (i - 1 : Nat)) = some (.pointer (some ⟨b', o', none⟩)) ∧ ∀ m', Ext m2 m' → aLoad false 1 m' (.pointer (some ⟨b', o', none⟩)) = some (.int .i64 (p.places[i - 1]'(by omega)).unit) := fun h => hp2.prev (by omega)
            have bad : ¬ (refPlaceP p p.places[i] ∧ ∀ h : 0 < i, (p.places[i - 1]'(by omega)).unit < p.places[i].unit) → ¬ RightP p := fun h h2 => h (let ⟨_, g⟩ := h2.2.2.2.2.1 i hil; g)
            have good : (refPlaceP p p.places[i] ∧ ∀ h : 0 < i, (p.places[i - 1]'(by omega)).unit < p.places[i].unit) → ∀ j, j < i + 1 → plOk p j := by
              intro h j hj
              by_cases e : j = i
              · subst e; exact ⟨hil, h⟩
              · exact hall j (by omega)
            have hpl := hp1 _ (List.getElem_mem hil)
            rw [a1] at d1; cases d1
            generalize p.places[i] = x at *
            try simp only [go_sem, ruB, hb2.at_, a1, a2]
            refine gC.of (refPlace_spec (p := p) (x := x) ⟨pv, rfl, hp2⟩ ⟨qv, rfl, a4⟩ hpl) ?_
            rintro _ m3 ⟨rfl, hx3⟩
            simp only [go_sem]
            have hb3 := hb2.keep hx3
            try simp only [go_sem, ruB, hb3.at_, hb2.at_]
            refine gT.of (fun h6' => ?_) (fun h6' => ?_) <;> (have h6 := h6'; try simp only [decide_eq_true_eq, decide_eq_false_iff_not, beq_iff_eq, bne_iff_ne, beq_eq_false_iff_ne, ne_eq, Bool.not_eq_true', Bool.not_eq_false', bne_eq_false_iff_eq, Int.not_lt, Int.not_le] at h6)
            · try simp only [go_sem, ruB, h6']
              exact ⟨fin_no (bad fun h => h6 h.1), hx.trans (hx2.trans hx3)⟩
            · have h6 : refPlaceP p x := by simpa using h6'
              try simp only [go_sem, ruB, h6', hb3.at_]
              refine gT.of (fun h7' => ?_) (fun h7' => ?_) <;> (have h7 := h7'; try simp only [decide_eq_true_eq, decide_eq_false_iff_not, beq_iff_eq, bne_iff_ne, beq_eq_false_iff_ne, ne_eq, Bool.not_eq_true', Bool.not_eq_false', bne_eq_false_iff_eq, Int.not_lt, Int.not_le] at h7)
              · obtain ⟨b', o', c1, c2⟩ := hprev (by omega)
                try simp only [go_sem, ruB, h7', hb3.at_, sub1 (show 0 < i by omega) (show i < 1000000 by omega), c1, c2 _ hx3, a1, d2 _ hx3]
                refine gT.of (fun h8' => ?_) (fun h8' => ?_) <;> (have h8 := h8'; try simp only [decide_eq_true_eq, decide_eq_false_iff_not, beq_iff_eq, bne_iff_ne, beq_eq_false_iff_ne, ne_eq, Bool.not_eq_true', Bool.not_eq_false', bne_eq_false_iff_eq, Int.not_lt, Int.not_le] at h8)
                · try simp only [go_sem, ruB, h8']
                  exact ⟨fin_no (bad fun h => by have := h.2 (by omega); omega), hx.trans (hx2.trans hx3)⟩
                · try simp only [go_sem, ruB, h8', step1 (show i < 1000000 by omega)]
                  exact ⟨p.places.length - (i + 1), by omega, i + 1, by omega, rfl, rfl, good ⟨h6, fun h => by omega⟩, hx2.trans hx3⟩
              · try simp only [go_sem, ruB, h7', step1 (show i < 1000000 by omega)]
                exact ⟨p.places.length - (i + 1), by omega, i + 1, by omega, rfl, rfl, good ⟨h6, fun h => by omega⟩, hx2.trans hx3⟩
          · have hi : i = p.places.length := by omega
            subst hi
            have hr := RightP.r (by omega) (by omega) hl hp1 hall
            try simp only [go_sem, ruB, hb2.at_]
            refine gC.of (refApart_spec (p := p) ⟨pv, rfl, hp2⟩ hl hp1) ?_
            rintro _ m3 ⟨rfl, hx3⟩
            simp only [go_sem]
            have hb3 := hb2.keep hx3
            have hp3 := hp2.keep hx3
            try simp only [go_sem, ruB, hb3.at_, hb2.at_]
            refine gT.of (fun h6' => ?_) (fun h6' => ?_) <;> (have h6 := h6'; try simp only [decide_eq_true_eq, decide_eq_false_iff_not, beq_iff_eq, bne_iff_ne, beq_eq_false_iff_ne, ne_eq, Bool.not_eq_true', Bool.not_eq_false', bne_eq_false_iff_eq, Int.not_lt, Int.not_le] at h6)
            · try simp only [go_sem, ruB, h6']
              exact ⟨fin_no fun h => h6 h.2.2.2.2.2.1, hx.trans (hx2.trans hx3)⟩
            · have h6 : apartR p.places := by simpa using h6'
              try simp only [go_sem, ruB, h6', hb3.at_]
              refine gC.of (refSplits_spec (p := p) ⟨pv, rfl, hp3⟩ hl) ?_
              rintro _ m4 ⟨rfl, hx4⟩
              simp only [go_sem]
              have hb4 := hb3.keep hx4
              have hp4 := hp3.keep hx4
              try simp only [go_sem, ruB, hb3.at_, hb4.at_]
              refine gC.of (refCores_spec (p := p) ⟨pv, rfl, hp4⟩) ?_
              rintro w m5 ⟨ho, hx5⟩
              have hb5 := hb4.keep hx5
              have hp5 := hp4.keep hx5
              try simp only [go_sem, ruB, hb4.at_, hb5.at_, ho.sl.len]
              refine gT.of (fun h7' => ?_) (fun h7' => ?_) <;> (have h7 := h7'; try simp only [decide_eq_true_eq, decide_eq_false_iff_not, beq_iff_eq, bne_iff_ne, beq_eq_false_iff_ne, ne_eq, Bool.not_eq_true', Bool.not_eq_false', bne_eq_false_iff_eq, Int.not_lt, Int.not_le] at h7)
              · try simp only [go_sem, ruB, h7']
                exact ⟨fin_no fun h => by have := h.2.2.2.2.2.2.1; omega, hx.trans (hx2.trans (hx3.trans (hx4.trans hx5)))⟩
              · try simp only [go_sem, ruB, h7', hb5.at_]
                refine gC.of (refCores_spec (p := p) ⟨pv, rfl, hp5⟩) ?_
                rintro w2 m6 ⟨ho6, hx6⟩
                have hsl := ho6.sl
                have hlt := ho6.lt
                have hlen := csP_len (p := p) (n := 16)
                try simp only [go_sem, ruB]
                refine WL.of (fun n e m' => ∃ k : Nat, k ≤ (csP p 16).length ∧ n = (csP p 16).length - k ∧ e = [(1, pt m.next), (4, w2), (5, .int .i64 k)] ∧ (∀ c ∈ (csP p 16).take k, loadR p (c : Nat) ≤ p.frame) ∧ Ext m6 m') (csP p 16).length
                  ⟨0, by omega, by omega, by simp only [go_sem] <;> rfl, by simp, Ext.refl _⟩ ?_
                rintro _ _ m7 ⟨k, hk, rfl, rfl, hld, hx7⟩
                have hb7 := (hb5.keep hx6).keep hx7
                have hp7 := (hp5.keep hx6).keep hx7
                have hsl7 := hsl.keep hlt hx7
                simp only [RB.ref16_Right_1, pt, go_sem, hsl7.len]
                refine gT.of (fun h8' => ?_) (fun h8' => ?_) <;> (have h8 := h8'; try simp only [decide_eq_true_eq, decide_eq_false_iff_not, beq_iff_eq, bne_iff_ne, beq_eq_false_iff_ne, ne_eq, Bool.not_eq_true', Bool.not_eq_false', bne_eq_false_iff_eq, Int.not_lt, Int.not_le] at h8)
                · have hkl : k < (csP p 16).length := by omega
                  obtain ⟨q, e1, e2⟩ := hsl7.get (k := .i64) (i := k) hkl
                  rw [ints_get hkl] at e2
                  have hsn : (csP p 16).take (k + 1) = (csP p 16).take k ++ [(csP p 16)[k]] := List.take_succ_eq_append_getElem hkl
                  have hmm : (csP p 16)[k] ∈ csP p 16 := List.getElem_mem hkl
                  generalize (csP p 16)[k] = c at *
                  try simp only [go_sem, ruB, hb7.at_, e1, e2]
                  refine gC.of (refLoad_spec (p := p) (c := c) ⟨pv, rfl, hp7⟩ hl hp1 hr.sh) ?_
                  rintro _ m8 ⟨rfl, hx8⟩
                  simp only [go_sem]
                  have hb8 := hb7.keep hx8
                  try simp only [go_sem, ruB, hb7.at_, hb8.at_]
                  refine gT.of (fun h9' => ?_) (fun h9' => ?_) <;> (have h9 := h9'; try simp only [decide_eq_true_eq, decide_eq_false_iff_not, beq_iff_eq, bne_iff_ne, beq_eq_false_iff_ne, ne_eq, Bool.not_eq_true', Bool.not_eq_false', bne_eq_false_iff_eq, Int.not_lt, Int.not_le] at h9)
                  · try simp only [go_sem, ruB, h9']
                    exact ⟨fin_no fun h => by have := h.2.2.2.2.2.2.2 c hmm; omega, hx.trans (hx2.trans (hx3.trans (hx4.trans (hx5.trans (hx6.trans (hx7.trans hx8))))))⟩
                  · try simp only [go_sem, ruB, h9', step1 (show k < 1000000 by omega)]
                    refine ⟨(csP p 16).length - (k + 1), by omega, k + 1, by omega, rfl, rfl, ?_, hx7.trans hx8⟩
                    intro c' hc'
                    rw [hsn] at hc'
                    rcases List.mem_append.1 hc' with h | h
                    · exact hld c' h
                    · rw [List.mem_singleton.1 h]; omega
                · try simp only [go_sem, ruB]
                  rw [List.take_of_length_le (by omega)] at hld
                  exact ⟨fin_yes ⟨by omega, by omega, h3, hc, hall, h6, by omega, hld⟩, hx.trans (hx2.trans (hx3.trans (hx4.trans (hx5.trans (hx6.trans hx7)))))⟩
end Go.Am


/- PlanM over the table of chain (relayset.py). -/
set_option linter.unusedVariables false
set_option linter.unusedSimpArgs false
namespace Go.Am
open Classical

/-! ### sums -/
def S (f : Nat → Int) : Nat → Int
  | 0 => 0
  | n + 1 => S f n + f n
theorem S_congr {f g : Nat → Int} {n : Nat} (h : ∀ i, i < n → f i = g i) : S f n = S g n := by
  induction n with
  | zero => rfl
  | succ n ih => simp only [S]; rw [ih fun i hi => h i (by omega), h n (by omega)]
theorem S_add {f g : Nat → Int} {n : Nat} : S (fun i => f i + g i) n = S f n + S g n := by
  induction n with
  | zero => rfl
  | succ n ih => simp only [S]; rw [ih]; omega
theorem S_zero {n : Nat} : S (fun _ => 0) n = 0 := by
  induction n with
  | zero => rfl
  | succ n ih => simp only [S]; rw [ih]; rfl
theorem S_swap {f : Nat → Nat → Int} {n k : Nat} : S (fun i => S (fun j => f i j) k) n = S (fun j => S (fun i => f i j) n) k := by
  induction n with
  | zero => simp only [S]; rw [S_zero]
  | succ n ih => simp only [S]; rw [ih, ← S_add]
/-- One of them alone. -/
theorem S_one {n d : Nat} {a : Int} (h : d < n) : S (fun i => if i = d then a else 0) n = a := by
  induction n with
  | zero => omega
  | succ n ih =>
    simp only [S]
    by_cases e : d = n
    · subst e
      rw [if_pos rfl, S_congr (g := fun _ => 0) (fun i hi => if_neg (by omega)), S_zero]; omega
    · rw [ih (by omega), if_neg (by omega)]; omega

theorem sumI_range {f : Nat → Int} {n : Nat} : sumI ((List.range n).map fun c => f c) = S f n := by
  induction n with
  | zero => rfl
  | succ n ih => rw [List.range_succ, List.map_append, S, ← ih]; simp [sumI]

theorem sumI_cores {p : PlanD} {f : Nat → Int} {n : Nat} : sumI ((csP p n).map fun c => f c) = S (fun c => if hasC p c = true then f c else 0) n := by
  induction n with
  | zero => rfl
  | succ n ih =>
    rw [csP_succ, List.map_append, S, ← ih]
    split <;> simp [sumI]

theorem cores_S {p : PlanD} {n : Nat} : ((csP p n).length : Int) = S (fun c => if hasC p c = true then 1 else 0) n := by
  induction n with
  | zero => rfl
  | succ n ih =>
    rw [csP_succ, List.length_append, S, ← ih]
    split <;> simp

/-! ### bits -/
theorem pop_tks (x : BitVec 64) : pop x = (tks x 64).length := by
  have : ∀ (n : Nat) (x : BitVec 64), n ≤ 64 → popN n x.toNat = (tks x n).length := by
    intro n
    induction n with
    | zero => intro x _; rfl
    | succ n ih =>
      intro x hn
      rw [popN_add n 1, ih x (by omega), tks_succ, List.length_append]
      have : x.getLsbD n = x.toNat.testBit n := rfl
      rw [this, Nat.testBit_eq_decide_div_mod_eq]
      simp only [popN, Nat.add_zero, decide_eq_true_eq]
      split <;> simp <;> omega
  exact this 64 x (Nat.le_refl _)

theorem tks_S {x : BitVec 64} {n : Nat} : ((tks x n).length : Int) = S (fun t => if x.getLsbD t = true then 1 else 0) n := by
  induction n with
  | zero => rfl
  | succ n ih =>
    rw [tks_succ, List.length_append, S, ← ih]
    split <;> simp

/-! ### windows -/
theorem winPc_bit {c : Int} {t : Nat} : ∀ {ps : List Pc} {a : BitVec 64}, (winPc c a ps).getLsbD t = (a.getLsbD t || ps.any fun y => decide (y.1 = c) && y.2.getLsbD t)
  | [], a => by simp [winPc]
  | y :: ps, a => by
    have : winPc c a (y :: ps) = winPc c (if y.1 = c then a ||| y.2 else a) ps := rfl
    rw [this, winPc_bit, List.any_cons]
    split
    · rename_i h; rw [BitVec.getLsbD_or]; simp [h, Bool.or_assoc]
    · rename_i h; simp [h]
theorem winW_bit' {c : Int} {t : Nat} : ∀ {l : List Pl} {a : BitVec 64}, (l.foldl (fun a x => winPc c a x.pieces) a).getLsbD t = (a.getLsbD t || l.any fun x => x.pieces.any fun y => decide (y.1 = c) && y.2.getLsbD t)
  | [], a => by simp
  | x :: l, a => by rw [List.foldl_cons, winW_bit', winPc_bit, List.any_cons, Bool.or_assoc]
theorem winW_bit {c : Int} {t : Nat} {l : List Pl} : (winW l c).getLsbD t = l.any fun x => x.pieces.any fun y => decide (y.1 = c) && y.2.getLsbD t := by
  unfold winW; rw [winW_bit']; simp

theorem atB_eq {c t : Nat} (ht : t < 64) (y : Pc) : atB c t y = (decide (y.1 = c) && y.2.getLsbD t) := by
  have : ¬ ((c : Int) < 0) := by omega
  simp only [atB, this, decide_false, Bool.false_or]
  rw [inB_of (by omega) (by omega), Int.toNat_natCast]
theorem atB_all {t : Nat} (ht : t < 64) (y : Pc) : atB (-1) t y = y.2.getLsbD t := by
  simp only [atB, show ((-1 : Int) < 0) by omega, decide_true, Bool.true_or, Bool.true_and]
  rw [inB_of (by omega) (by omega), Int.toNat_natCast]

theorem cntL_cons {x : Pl} {l : List Pl} {c t : Int} : cntL (x :: l) c t = x.pieces.countP (atB c t) + cntL l c t := by simp [cntL]

theorem cntL_pos {l : List Pl} {c t : Nat} (ht : t < 64) : (0 < cntL l c t) ↔ (winW l c).getLsbD t = true := by
  rw [winW_bit]
  induction l with
  | nil => simp [cntL]
  | cons x l ih =>
    rw [cntL_cons, List.any_cons, Bool.or_eq_true, ← ih]
    have : 0 < x.pieces.countP (atB c t) ↔ (x.pieces.any fun y => decide (y.1 = (c : Int)) && y.2.getLsbD t) = true := by
      rw [List.countP_pos_iff, List.any_eq_true]
      simp only [atB_eq ht]
    rw [← this]; omega

theorem rwT_bit {c : Int} {t i : Nat} (hi : i < 64) : ∀ {l : List Pl} {w : BitVec 64}, (rwT l c t w).getLsbD i = (w.getLsbD i || (decide (i = t) && l.any fun x => decide (0 < x.pieces.countP (atB c t))))
  | [], w => by simp [rwT]
  | x :: l, w => by
    have : rwT (x :: l) c t w = rwT l c t (if 0 < x.pieces.countP (atB c t) then withB w t else w) := rfl
    rw [this, rwT_bit hi, List.any_cons]
    split
    · rename_i h
      rw [withB_bit hi]
      have e : decide ((i : Int) = (t : Int)) = decide (i = t) := decide_eq_decide.2 (by omega)
      rw [e]
      simp [h]
      cases w.getLsbD i <;> simp <;> (intro h; intros; exact h)
    · rename_i h; simp [h]
theorem any_cnt {l : List Pl} {c t : Int} : (l.any fun x => decide (0 < x.pieces.countP (atB c t))) = decide (0 < cntL l c t) := by
  induction l with
  | nil => simp [cntL]
  | cons x l ih =>
    rw [List.any_cons, ih, cntL_cons, ← Bool.decide_or]
    exact decide_eq_decide.2 (by omega)
theorem rwN_bit {l : List Pl} {c : Int} {i : Nat} (hi : i < 64) : ∀ {n : Nat}, (rwN l c n).getLsbD i = (decide (i < n) && decide (0 < cntL l c i))
  | 0 => by simp [rwN]
  | n + 1 => by
    simp only [rwN]
    rw [rwT_bit hi, rwN_bit hi, any_cnt]
    by_cases e : i = n
    · subst e; simp
    · have : decide (i < n + 1) = decide (i < n) := decide_eq_decide.2 (by omega)
      rw [this]; simp [e]

/-- Both say the same windows. -/
theorem windows_same {l : List Pl} {c : Nat} : rwN l c 64 = winW l c := by
  refine word_ext fun i hi => ?_
  rw [rwN_bit hi, Bool.eq_iff_iff]
  simp only [hi, decide_true, Bool.true_and, decide_eq_true_eq]
  exact cntL_pos hi

/-! ### what is counted on all cores -/
def plFine (x : Pl) : Prop := (isSp x = true → (∀ y ∈ x.pieces, 0 ≤ y.1 ∧ y.1 < 16) ∧ (sumA x 64 : Int) = x.share) ∧ (isSp x = false → 0 ≤ x.core ∧ x.core < 16)

theorem sumA_S {x : Pl} {n : Nat} : (sumA x n : Int) = S (fun t => (cntA x t : Int)) n := by
  induction n with
  | zero => rfl
  | succ n ih => simp only [sumA, S]; rw [← ih]; omega

theorem pieces_cores {ps : List Pc} {t : Nat} (ht : t < 64) (h : ∀ y ∈ ps, 0 ≤ y.1 ∧ y.1 < 16) : S (fun c => ((ps.countP (atB (c : Nat) t) : Nat) : Int)) 16 = (ps.countP (atB (-1) t) : Nat) := by
  induction ps with
  | nil => simp only [List.countP_nil]; rw [show ((0 : Nat) : Int) = 0 from rfl, S_zero]
  | cons y ps ih =>
    have hy := h y (by simp)
    have e : ∀ c : Nat, (((y :: ps).countP (atB (c : Nat) t) : Nat) : Int) = (ps.countP (atB (c : Nat) t) : Nat) + (if c = y.1.toNat then (if y.2.getLsbD t = true then 1 else 0) else 0 : Int) := by
      intro c
      rw [List.countP_cons, atB_eq ht]
      by_cases h1 : y.1 = (c : Int)
      · have : c = y.1.toNat := by omega
        rw [if_pos this]; simp [h1]; split <;> rfl
      · have : ¬ c = y.1.toNat := by omega
        rw [if_neg this]; simp [h1]
    rw [S_congr (fun c _ => e c), S_add, ih fun z hz => h z (by simp [hz]), S_one (by omega), List.countP_cons, atB_all ht]
    split <;> simp

theorem all_cores {l : List Pl} (h : ∀ x ∈ l, plFine x) : S (fun c => S (fun t => (cntL l (c : Nat) (t : Nat) : Int)) 64 + sumW (whL l (c : Nat))) 16 = sumW (wtsL l) := by
  induction l with
  | nil =>
    have : ∀ c, c < 16 → S (fun t => (cntL [] (c : Nat) (t : Nat) : Int)) 64 + sumW (whL [] (c : Nat)) = (fun _ => (0 : Int)) c := by
      intro c _
      have : S (fun t => (cntL [] (c : Nat) (t : Nat) : Int)) 64 = 0 := by
        rw [S_congr (g := fun _ => 0) (fun t _ => by simp [cntL]), S_zero]
      rw [this]; simp [whL, sumW]
    rw [S_congr this, S_zero]; rfl
  | cons x l ih =>
    have hx := h x (by simp)
    have ih := ih fun y hy => h y (by simp [hy])
    have e1 : ∀ c, c < 16 → S (fun t => (cntL (x :: l) (c : Nat) (t : Nat) : Int)) 64 + sumW (whL (x :: l) (c : Nat)) =
        (S (fun t => ((x.pieces.countP (atB (c : Nat) (t : Nat)) : Nat) : Int)) 64 + (if isWh c x = true then x.share else 0)) + (S (fun t => (cntL l (c : Nat) (t : Nat) : Int)) 64 + sumW (whL l (c : Nat))) := by
      intro c _
      rw [S_congr (g := fun t => ((x.pieces.countP (atB (c : Nat) (t : Nat)) : Nat) : Int) + (cntL l (c : Nat) (t : Nat) : Int)) (fun t _ => by rw [cntL_cons]; omega), S_add]
      have : sumW (whL (x :: l) (c : Nat)) = (if isWh c x = true then x.share else 0) + sumW (whL l (c : Nat)) := by
        unfold whL sumW
        rw [List.filter_cons]
        split <;> simp [wtOf]
      rw [this]; omega
    rw [S_congr e1, S_add, ih, S_add]
    have e2 : sumW (wtsL (x :: l)) = x.share + sumW (wtsL l) := by simp [wtsL, sumW, wtOf]
    rw [e2, S_swap]
    cases hsp : isSp x
    · have hc := hx.2 hsp
      have hnil : x.pieces = [] := by
        simp only [isSp, decide_eq_false_iff_not] at hsp
        exact List.eq_nil_of_length_eq_zero (by omega)
      rw [hnil]
      have z : S (fun t => S (fun c => (([] : List Pc).countP (atB (c : Nat) (t : Nat)) : Nat) : Nat → Int) 16) 64 = 0 := by
        rw [S_congr (g := fun _ => 0) (fun t _ => by simp only [List.countP_nil]; rw [show ((0 : Nat) : Int) = 0 from rfl, S_zero]), S_zero]
      rw [z]
      have w : S (fun c => if isWh c x = true then x.share else 0) 16 = x.share := by
        rw [S_congr (g := fun c => if c = x.core.toNat then x.share else 0) (fun c hc2 => by
          have : isWh c x = decide (c = x.core.toNat) := by
            simp only [isWh, hsp, Bool.not_false, Bool.true_and]
            rw [Bool.eq_iff_iff, beq_iff_eq, decide_eq_true_eq]; omega
          rw [this]; simp), S_one (by omega)]
      rw [w]; omega
    · obtain ⟨h1, h2⟩ := hx.1 hsp
      rw [S_congr (fun t ht => pieces_cores ht h1)]
      have w : S (fun c => if isWh c x = true then x.share else 0) 16 = 0 := by
        rw [S_congr (g := fun _ => 0) (fun c _ => by simp [isWh, hsp]), S_zero]
      rw [w]
      have : S (fun t => ((x.pieces.countP (atB (-1) (t : Nat)) : Nat) : Int)) 64 = x.share := by rw [← h2, sumA_S]; rfl
      rw [this]; omega
end Go.Am


/- PlanM2 over the table of chain (relayset.py). -/
set_option linter.unusedVariables false
set_option linter.unusedSimpArgs false
namespace Go.Am
open Classical

structure PlanL (p : PlanD) : Prop where
  len : p.places.length < 1000000
  pcs : ∀ x ∈ p.places, x.pieces.length < 1000000

theorem RightP.pr {p : PlanD} (h : RightP p) (hl : PlanL p) : PlanR p := RightP.r h.1 h.2.1 hl.len hl.pcs h.2.2.2.2.1

theorem hasC_range {p : PlanD} {c : Int} (h : hasC p c = true) : 0 ≤ c ∧ c < 16 := by
  simp only [hasC, Bool.and_eq_true, decide_eq_true_eq] at h
  exact h.1

theorem RightP.place {p : PlanD} (h : RightP p) {x : Pl} (hx : x ∈ p.places) : refPlaceP p x := by
  obtain ⟨i, hi, rfl⟩ := List.getElem_of_mem hx
  obtain ⟨_, g, -⟩ := h.2.2.2.2.1 i hi
  exact g

theorem RightP.fine {p : PlanD} (h : RightP p) {x : Pl} (hx : x ∈ p.places) : plFine x := by
  obtain ⟨h1, h2, h3, h4, h5⟩ := h.place hx
  constructor
  · intro hs
    simp only [isSp, decide_eq_true_eq] at hs
    have := h5 (by omega)
    refine ⟨fun y hy => ?_, this.2.2.2.2⟩
    obtain ⟨i, hi, rfl⟩ := List.getElem_of_mem hy
    obtain ⟨_, g, -⟩ := this.1 i hi
    exact hasC_range g
  · intro hs
    simp only [isSp, decide_eq_false_iff_not] at hs
    exact hasC_range (h4 (by omega))

/-- Whose cores are asked. -/
theorem RightP.cnt {p : PlanD} (h : RightP p) {c : Nat} (hc : hasC p c = false) {t : Nat} (ht : t < 64) : cntL p.places (c : Nat) (t : Nat) = 0 ∧ whL p.places (c : Nat) = [] := by
  constructor
  · cases Nat.eq_zero_or_pos (cntL p.places (c : Nat) (t : Nat)) with
    | inl h => exact h
    | inr hpos =>
      exfalso
      replace hpos := (cntL_pos ht).1 hpos
      rw [winW_bit, List.any_eq_true] at hpos
      obtain ⟨x, hx, hy⟩ := hpos
      rw [List.any_eq_true] at hy
      obtain ⟨y, hy, hb⟩ := hy
      simp only [Bool.and_eq_true, decide_eq_true_eq] at hb
      have hp := (h.place hx).2.2.2.2 (by intro e; rw [List.eq_nil_of_length_eq_zero e] at hy; cases hy)
      obtain ⟨i, hi, rfl⟩ := List.getElem_of_mem hy
      obtain ⟨_, g, -⟩ := hp.1 i hi
      rw [hb.1, hc] at g; cases g
  · unfold whL
    rw [List.map_eq_nil_iff, List.filter_eq_nil_iff]
    intro x hx hw
    simp only [isWh, Bool.and_eq_true, beq_iff_eq, Bool.not_eq_true'] at hw
    have h4 := (h.place hx).2.2.2.1 (by have := hw.1; simp only [isSp, decide_eq_false_iff_not] at this; omega)
    rw [hw.2, hc] at h4; cases h4

def loadS (p : PlanD) (c : Nat) : Int := S (fun t => (cntL p.places (c : Nat) (t : Nat) : Int)) 64 + sumW (whL p.places (c : Nat))

theorem RightP.load {p : PlanD} (h : RightP p) {c : Nat} (hc : c < 16) : loadR p c = loadS p c := by
  unfold loadR loadS
  rw [tks_S]
  congr 1
  refine S_congr fun t ht => ?_
  rw [windows_same]
  have h1 := h.2.2.2.2.2.1 c hc t ht
  have h2 := cntL_pos (l := p.places) (c := c) ht
  split
  · rename_i e; rw [← h2] at e; omega
  · rename_i e; rw [← h2] at e; omega

theorem RightP.loadS0 {p : PlanD} (h : RightP p) {c : Nat} (hc : hasC p c = false) : loadS p c = 0 := by
  unfold loadS
  rw [S_congr (g := fun _ => 0) (fun t ht => by rw [(h.cnt hc ht).1]; rfl), S_zero, (h.cnt hc (show 0 < 64 by omega)).2]; rfl

theorem csP_mem {p : PlanD} {c : Nat} : c ∈ csP p 16 ↔ c < 16 ∧ hasC p c = true := by
  unfold csP; rw [List.mem_filter, List.mem_range]

theorem leftP_eq {p : PlanD} {c : Nat} : leftP p c = p.frame - loadR p c := by
  unfold leftP loadR
  rw [pop_tks, windows_same]; omega

theorem RightP.room {p : PlanD} (h : RightP p) {c : Int} : roomP p c = roomR p c := by
  unfold roomP roomR
  split
  · rename_i hc
    obtain ⟨h0, h1⟩ := hasC_range hc
    obtain ⟨n, rfl⟩ := Int.eq_ofNat_of_zero_le h0
    have := h.2.2.2.2.2.2.2 n (csP_mem.2 ⟨by omega, hc⟩)
    rw [leftP_eq]; omega
  · rfl

theorem RightP.free {p : PlanD} (h : RightP p) : freeP p = freeR p := by
  unfold freeP freeR rL
  rw [sumI_cores (f := fun c => roomP p (c : Nat)), sumI_range (f := fun c => roomR p (c : Nat))]
  refine S_congr fun c hc => ?_
  rw [h.room]
  split
  · rfl
  · rename_i e; unfold roomR; rw [if_neg e]

/-- All is counted. -/
theorem RightP.all {p : PlanD} (h : RightP p) : freeP p + sumW (wtsL p.places) = p.frame * ((csP p 16).length : Int) := by
  rw [h.free]
  unfold freeR rL
  rw [sumI_range (f := fun c => roomR p (c : Nat)), cores_S, ← all_cores (l := p.places) fun x hx => h.fine hx, ← S_add]
  have : ∀ f : Nat → Int, ∀ k : Int, ∀ n, k * S f n = S (fun i => k * f i) n := by
    intro f k n
    induction n with
    | zero => simp [S]
    | succ n ih => simp only [S]; rw [Int.mul_add, ih]
  rw [this]
  refine S_congr fun c hc => ?_
  show roomR p c + loadS p c = _
  unfold roomR
  cases e : hasC p c
  · rw [h.loadS0 e]; simp
  · rw [h.load hc]; simp
end Go.Am


/- PlanX1 over the table of chain (relayset.py). -/
set_option linter.unusedVariables false
set_option linter.unusedSimpArgs false
namespace Go.Am
open Classical
variable {m : Mem}

def orW (l : List Pc) : BitVec 64 := l.foldl (fun a y => a ||| y.2) 0#64
theorem orW_succ {l : List Pc} {i : Nat} (h : i < l.length) : orW (l.take (i + 1)) = orW (l.take i) ||| l[i].2 := foldl_take h
def pcIn (p : PlanD) (ps : List Pc) (i : Nat) : Prop := ∃ h : i < ps.length, (ps[i].2 &&& ~~~ allB (fr p.frame).toNat) = 0#64 ∧ (ps[i].2 &&& orW (ps.take i)) = 0#64
def pcsP (p : PlanD) (x : Pl) : Prop := (∀ i, i < x.pieces.length → pcOk p x.pieces i ∧ pcIn p x.pieces i) ∧ 1 < x.pieces.length ∧ x.core = 0 ∧ (pop (orW x.pieces) : Int) = x.share

theorem PcV.prev {m : Mem} {l : List Pc} {v : Value} (h : PcV m l v) {i : Nat} (hi : i < l.length) : ∃ b o, aIdxS 2 v (.int .i64 i) = some (.pointer (some ⟨b, o, none⟩)) ∧ ∀ m', Ext m m' → aLoad false 1 m' (.pointer (some ⟨b, o, none⟩)) = some (.int .i64 l[i].1) := by
  obtain ⟨b, o, a1, a2, a3, a4⟩ := h.elem hi
  refine ⟨b, o, a1, fun m' hm => ?_⟩
  obtain ⟨b', o', c1, c2, c3, c4⟩ := (h.keep hm).elem hi
  rw [a1] at c1; cases c1
  have := c3 0 (by omega)
  simpa [pcV] using this

set_option maxHeartbeats 4000000 in
theorem pieces_spec {p : PlanD} {x : Pl} {v w : Value} (hv : PlanV m p v) (hw : PlV m x w) (hl : x.pieces.length < 1000000) : WC R F.plan_pieces [v, w] m fun r m' => r = .bool (decide (pcsP p x)) ∧ Ext m m' := by
  refine WC.of R.plan_pieces rfl ?_
  obtain ⟨pv, rfl, hp⟩ := hv
  obtain ⟨qv, rfl, hq⟩ := hw
  simp only [RC.plan_pieces, planV, plV, go_sem, hp.one, hq.one]
  have hx : Ext m (m.new (.cells [.int .i64 p.frame, u32 p.cores, pv] (some 3))) := Ext.new
  have hb : Bk (m.new (.cells [.int .i64 p.frame, u32 p.cores, pv] (some 3))) m.next [.int .i64 p.frame, u32 p.cores, pv] 3 := Bk.new
  generalize m.new (.cells [.int .i64 p.frame, u32 p.cores, pv] (some 3)) = m1 at hx hb ⊢
  have hx2 : Ext m1 (m1.new (.cells [.int .i64 x.unit, .int .i64 x.share, .int .i64 x.core, qv] (some 4))) := Ext.new
  have hb2 : Bk (m1.new (.cells [.int .i64 x.unit, .int .i64 x.share, .int .i64 x.core, qv] (some 4))) m1.next [.int .i64 x.unit, .int .i64 x.share, .int .i64 x.core, qv] 4 := Bk.new
  generalize m1.new (.cells [.int .i64 x.unit, .int .i64 x.share, .int .i64 x.core, qv] (some 4)) = m2 at hx2 hb2 ⊢
  have hb := hb.keep hx2
  have hp := (hp.keep hx).keep hx2
  have hq := (hq.keep hx).keep hx2
  try simp only [go_sem, ruB, hb2.at_, hq.len]
  refine WL.of (fun n e m' => ∃ i : Nat, i ≤ x.pieces.length ∧ n = x.pieces.length - i ∧ e = [(2, pt m.next), (3, pt m1.next), (5, u64 (orW (x.pieces.take i))), (9, qv), (10, .int .i64 x.pieces.length), (11, .int .i64 i)] ∧ (∀ j, j < i → pcOk p x.pieces j ∧ pcIn p x.pieces j) ∧ Ext m2 m') x.pieces.length
    ⟨0, by omega, by omega, by simp only [go_sem] <;> rfl, fun j hj => by omega, Ext.refl _⟩ ?_
  rintro _ _ m3 ⟨i, hi, rfl, rfl, hall, hx3⟩
  have hq3 := hq.keep hx3
  have hb3 := hb2.keep hx3
  have hc3 := hb.keep hx3
  simp only [RB.plan_pieces_1, pt, go_sem]
  refine gT.of (fun h4' => ?_) (fun h4' => ?_) <;> (have h4 := h4'; try simp only [decide_eq_true_eq, decide_eq_false_iff_not, beq_iff_eq, bne_iff_ne, beq_eq_false_iff_ne, ne_eq, Bool.not_eq_true', Bool.not_eq_false', bne_eq_false_iff_eq, Int.not_lt, Int.not_le] at h4)
  · have hil : i < x.pieces.length := by omega
    obtain ⟨b, o, a1, a2, a3, a4⟩ := hq3.elem hil
    have bad : ¬ (pcOk p x.pieces i ∧ pcIn p x.pieces i) → ¬ pcsP p x := fun h h2 => h (h2.1 i hil)
    have hdef : pcOk p x.pieces i ↔ (hasC p x.pieces[i].1 = true ∧ (∀ h : 0 < i, (x.pieces[i - 1]'(by omega)).1 < x.pieces[i].1) ∧ x.pieces[i].2 ≠ 0#64) := ⟨fun ⟨_, h⟩ => h, fun h => ⟨hil, h⟩⟩
    have hdef2 : pcIn p x.pieces i ↔ ((x.pieces[i].2 &&& ~~~ allB (fr p.frame).toNat) = 0#64 ∧ (x.pieces[i].2 &&& orW (x.pieces.take i)) = 0#64) := ⟨fun ⟨_, h⟩ => h, fun h => ⟨hil, h⟩⟩
    have hprev : ∀ h : 0 < i, ∃ b' o', aIdxS 2 qv (.int .i64 (i - 1 : Nat)) = some (.pointer (some ⟨b', o', none⟩)) ∧ ∀ m', Ext m3 m' → aLoad false 1 m' (.pointer (some ⟨b', o', none⟩)) = some (.int .i64 (x.pieces[i - 1]'(by omega)).1) := fun h => hq3.prev (by omega)
    have hor := orW_succ hil
    generalize hy : x.pieces[i] = y at *
    simp only [pcV] at a2
    try simp only [go_sem, ruB, hb3.at_, hc3.at_, hb3.ne, hc3.ne, a1, a2]
    have hx4 : Ext m3 (m3.new (.cells [.int .i64 y.1, u64 y.2] (some 2))) := Ext.new
    have hb4 : Bk (m3.new (.cells [.int .i64 y.1, u64 y.2] (some 2))) m3.next [.int .i64 y.1, u64 y.2] 2 := Bk.new
    generalize m3.new (.cells [.int .i64 y.1, u64 y.2] (some 2)) = m4 at hx4 hb4 ⊢
    have hb5 := hb3.keep hx4
    have hc5 := hc3.keep hx4
    try simp only [go_sem, ruB, hb4.at_, hb5.at_, hc5.at_]
    refine gC.of (has_spec (p := p) ⟨pv, rfl, (hp.keep hx3).keep hx4⟩) ?_
    rintro _ m5 ⟨rfl, hx5⟩
    simp only [go_sem]
    have hb6 := hb5.keep hx5
    have hb7 := hb4.keep hx5
    have hc7 := hc5.keep hx5
    have hxx : Ext m2 m5 := hx3.trans (hx4.trans hx5)
    have hX : Ext m m5 := hx.trans (hx2.trans hxx)
    have fin2 : pcOk p x.pieces i → pcIn p x.pieces i → ∀ j, j < i + 1 → pcOk p x.pieces j ∧ pcIn p x.pieces j := by
      intro q1 q2 j hj
      by_cases e : j = i
      · subst e; exact ⟨q1, q2⟩
      · exact hall j (by omega)
    have s1 := step1 (show i < 1000000 by omega)
    have key : pcOk p x.pieces i → gT (decide (y.2 &&& ~~~ allB (fr p.frame).toNat ≠ 0#64)) False False → True := fun _ _ => trivial
    try simp only [go_sem, ruB, hb6.at_, hb7.at_, hb4.at_, hb5.at_]
    refine gT.of (fun h5' => ?_) (fun h5' => ?_) <;> (have h5 := h5'; try simp only [decide_eq_true_eq, decide_eq_false_iff_not, beq_iff_eq, bne_iff_ne, beq_eq_false_iff_ne, ne_eq, Bool.not_eq_true', Bool.not_eq_false', bne_eq_false_iff_eq, Int.not_lt, Int.not_le] at h5)
    · try simp only [go_sem, ruB, h5', hb6.at_, hb7.at_]
      exact ⟨fin_no (bad fun h => by rw [hdef] at h; simp [h.1.1] at h5), hX⟩
    · have g5 : hasC p y.1 = true := by simpa using h5'
      try simp only [go_sem, ruB, h5', g5, hb6.at_, hb7.at_]
      refine gT.of (fun h6' => ?_) (fun h6' => ?_) <;> (have h6 := h6'; try simp only [decide_eq_true_eq, decide_eq_false_iff_not, beq_iff_eq, bne_iff_ne, beq_eq_false_iff_ne, ne_eq, Bool.not_eq_true', Bool.not_eq_false', bne_eq_false_iff_eq, Int.not_lt, Int.not_le] at h6)
      · obtain ⟨b', o', c1, c2⟩ := hprev (by omega)
        have c3 := c2 m5 (hx4.trans hx5)
        try simp only [go_sem, ruB, h6', hb6.at_, hb7.at_, sub1 (show 0 < i by omega) (show i < 1000000 by omega), c1, c3]
        refine gT.of (fun h7' => ?_) (fun h7' => ?_) <;> (have h7 := h7'; try simp only [decide_eq_true_eq, decide_eq_false_iff_not, beq_iff_eq, bne_iff_ne, beq_eq_false_iff_ne, ne_eq, Bool.not_eq_true', Bool.not_eq_false', bne_eq_false_iff_eq, Int.not_lt, Int.not_le] at h7)
        · try simp only [go_sem, ruB, h7']
          exact ⟨fin_no (bad fun h => by rw [hdef] at h; have := h.1.2.1 (by omega); omega), hX⟩
        · try simp only [go_sem, ruB, h7', hb7.at_]
          refine gT.of (fun h8' => ?_) (fun h8' => ?_) <;> (have h8 := h8'; try simp only [decide_eq_true_eq, decide_eq_false_iff_not, beq_iff_eq, bne_iff_ne, beq_eq_false_iff_ne, ne_eq, Bool.not_eq_true', Bool.not_eq_false', bne_eq_false_iff_eq, Int.not_lt, Int.not_le] at h8)
          · try simp only [go_sem, ruB, h8']
            exact ⟨fin_no (bad fun h => by rw [hdef] at h; exact h.1.2.2 h8), hX⟩
          · have gok : pcOk p x.pieces i := hdef.2 ⟨g5, fun h => by omega, h8⟩
            try simp only [go_sem, ruB, h8', hb7.at_, hc7.at_]
            refine gC.of mask_All_spec ?_
            rintro _ m_ ⟨rfl, hm_⟩
            replace hm_ := hm_.symm
            subst hm_
            simp only [go_sem]
            try simp only [go_sem, ruB, hb7.at_, hc7.at_]
            refine gT.of (fun h9' => ?_) (fun h9' => ?_) <;> (have h9 := h9'; try simp only [decide_eq_true_eq, decide_eq_false_iff_not, beq_iff_eq, bne_iff_ne, beq_eq_false_iff_ne, ne_eq, Bool.not_eq_true', Bool.not_eq_false', bne_eq_false_iff_eq, Int.not_lt, Int.not_le] at h9)
            · try simp only [go_sem, ruB, h9']
              exact ⟨fin_no (bad fun h => by rw [hdef2] at h; exact h9 h.2.1), hX⟩
            · try simp only [go_sem, ruB, h9', hb7.at_]
              refine gT.of (fun h10' => ?_) (fun h10' => ?_) <;> (have h10 := h10'; try simp only [decide_eq_true_eq, decide_eq_false_iff_not, beq_iff_eq, bne_iff_ne, beq_eq_false_iff_ne, ne_eq, Bool.not_eq_true', Bool.not_eq_false', bne_eq_false_iff_eq, Int.not_lt, Int.not_le] at h10)
              · try simp only [go_sem, ruB, h10']
                exact ⟨fin_no (bad fun h => by rw [hdef2] at h; exact h10 h.2.2), hX⟩
              · try simp only [go_sem, ruB, h10', hb7.at_, s1]
                refine ⟨x.pieces.length - (i + 1), by omega, i + 1, by omega, rfl, by rw [hor], fin2 gok (hdef2.2 ⟨Decidable.not_not.1 h9, Decidable.not_not.1 h10⟩), hxx⟩
      · try simp only [go_sem, ruB, h6', hb7.at_]
        refine gT.of (fun h8' => ?_) (fun h8' => ?_) <;> (have h8 := h8'; try simp only [decide_eq_true_eq, decide_eq_false_iff_not, beq_iff_eq, bne_iff_ne, beq_eq_false_iff_ne, ne_eq, Bool.not_eq_true', Bool.not_eq_false', bne_eq_false_iff_eq, Int.not_lt, Int.not_le] at h8)
        · try simp only [go_sem, ruB, h8']
          exact ⟨fin_no (bad fun h => by rw [hdef] at h; exact h.1.2.2 h8), hX⟩
        · have gok : pcOk p x.pieces i := hdef.2 ⟨g5, fun h => by omega, h8⟩
          try simp only [go_sem, ruB, h8', hb7.at_, hc7.at_]
          refine gC.of mask_All_spec ?_
          rintro _ m_ ⟨rfl, hm_⟩
          replace hm_ := hm_.symm
          subst hm_
          simp only [go_sem]
          try simp only [go_sem, ruB, hb7.at_, hc7.at_]
          refine gT.of (fun h9' => ?_) (fun h9' => ?_) <;> (have h9 := h9'; try simp only [decide_eq_true_eq, decide_eq_false_iff_not, beq_iff_eq, bne_iff_ne, beq_eq_false_iff_ne, ne_eq, Bool.not_eq_true', Bool.not_eq_false', bne_eq_false_iff_eq, Int.not_lt, Int.not_le] at h9)
          · try simp only [go_sem, ruB, h9']
            exact ⟨fin_no (bad fun h => by rw [hdef2] at h; exact h9 h.2.1), hX⟩
          · try simp only [go_sem, ruB, h9', hb7.at_]
            refine gT.of (fun h10' => ?_) (fun h10' => ?_) <;> (have h10 := h10'; try simp only [decide_eq_true_eq, decide_eq_false_iff_not, beq_iff_eq, bne_iff_ne, beq_eq_false_iff_ne, ne_eq, Bool.not_eq_true', Bool.not_eq_false', bne_eq_false_iff_eq, Int.not_lt, Int.not_le] at h10)
            · try simp only [go_sem, ruB, h10']
              exact ⟨fin_no (bad fun h => by rw [hdef2] at h; exact h10 h.2.2), hX⟩
            · try simp only [go_sem, ruB, h10', hb7.at_, s1]
              refine ⟨x.pieces.length - (i + 1), by omega, i + 1, by omega, rfl, by rw [hor], fin2 gok (hdef2.2 ⟨Decidable.not_not.1 h9, Decidable.not_not.1 h10⟩), hxx⟩
  · have hil : i = x.pieces.length := by omega
    have pcs : ∀ j, j < x.pieces.length → pcOk p x.pieces j ∧ pcIn p x.pieces j := fun j hj => hall j (by omega)
    have hX : Ext m m3 := hx.trans (hx2.trans hx3)
    rw [List.take_of_length_le (show x.pieces.length ≤ i by omega)]
    try simp only [go_sem, ruB, h4', hb3.at_, hq3.len]
    refine gT.of (fun h6' => ?_) (fun h6' => ?_) <;> (have h6 := h6'; try simp only [decide_eq_true_eq, decide_eq_false_iff_not, beq_iff_eq, bne_iff_ne, beq_eq_false_iff_ne, ne_eq, Bool.not_eq_true', Bool.not_eq_false', bne_eq_false_iff_eq, Int.not_lt, Int.not_le] at h6)
    · try simp only [go_sem, ruB, h6', hb3.at_]
      refine gT.of (fun h7' => ?_) (fun h7' => ?_) <;> (have h7 := h7'; try simp only [decide_eq_true_eq, decide_eq_false_iff_not, beq_iff_eq, bne_iff_ne, beq_eq_false_iff_ne, ne_eq, Bool.not_eq_true', Bool.not_eq_false', bne_eq_false_iff_eq, Int.not_lt, Int.not_le] at h7)
      · try simp only [go_sem, ruB, h7', hb3.at_]
        refine gC.of mask_Count_spec ?_
        rintro _ m_ ⟨rfl, hm_⟩
        replace hm_ := hm_.symm
        subst hm_
        simp only [go_sem]
        try simp only [go_sem, ruB, hb3.at_]
        refine ⟨fin_iff ?_, hX⟩
        rw [beq_iff_eq]
        exact ⟨fun h => ⟨pcs, by omega, by omega, h⟩, fun h => h.2.2.2⟩
      · try simp only [go_sem, ruB, h7']
        exact ⟨fin_no fun h => by have := h.2.2.1; omega, hX⟩
    · try simp only [go_sem, ruB, h6']
      exact ⟨fin_no fun h => by have := h.2.1; omega, hX⟩
end Go.Am


/- PlanX2 over the table of chain (relayset.py). -/
set_option linter.unusedVariables false
set_option linter.unusedSimpArgs false
namespace Go.Am
open Classical
variable {m : Mem}

def placeP (p : PlanD) (x : Pl) : Prop := isU x.unit ∧ 1 ≤ x.share ∧ x.share ≤ p.frame ∧ (x.pieces.length = 0 → hasC p x.core = true) ∧ (x.pieces.length ≠ 0 → pcsP p x)

theorem place_spec {p : PlanD} {x : Pl} {v w : Value} (hv : PlanV m p v) (hw : PlV m x w) (hl : x.pieces.length < 1000000) : WC R F.plan_place [v, w] m fun r m' => r = .bool (decide (placeP p x)) ∧ Ext m m' := by
  refine WC.of R.plan_place rfl ?_
  obtain ⟨pv, rfl, hp⟩ := hv
  obtain ⟨qv, rfl, hq⟩ := hw
  simp only [RC.plan_place, planV, plV, go_sem, hp.one, hq.one]
  have hx : Ext m (m.new (.cells [.int .i64 p.frame, u32 p.cores, pv] (some 3))) := Ext.new
  have hb : Bk (m.new (.cells [.int .i64 p.frame, u32 p.cores, pv] (some 3))) m.next [.int .i64 p.frame, u32 p.cores, pv] 3 := Bk.new
  generalize m.new (.cells [.int .i64 p.frame, u32 p.cores, pv] (some 3)) = m1 at hx hb ⊢
  have hx2 : Ext m1 (m1.new (.cells [.int .i64 x.unit, .int .i64 x.share, .int .i64 x.core, qv] (some 4))) := Ext.new
  have hb2 : Bk (m1.new (.cells [.int .i64 x.unit, .int .i64 x.share, .int .i64 x.core, qv] (some 4))) m1.next [.int .i64 x.unit, .int .i64 x.share, .int .i64 x.core, qv] 4 := Bk.new
  generalize m1.new (.cells [.int .i64 x.unit, .int .i64 x.share, .int .i64 x.core, qv] (some 4)) = m2 at hx2 hb2 ⊢
  have hb := hb.keep hx2
  have hp := (hp.keep hx).keep hx2
  have hq := (hq.keep hx).keep hx2
  have hX := hx.trans hx2
  try simp only [go_sem, ruB, hb2.at_]
  refine gC.of Kind_spec ?_
  rintro _ m_ ⟨hu, hm_⟩
  replace hm_ := hm_.symm
  subst hm_
  rcases hu with ⟨hu, rfl⟩ | ⟨hu, rfl⟩
  · try simp only [go_sem, ruB, hb2.at_, aExt0, aExt1, aExt2]
    refine gT.of (fun h1' => ?_) (fun h1' => ?_) <;> (have h1 := h1'; try simp only [decide_eq_true_eq, decide_eq_false_iff_not, beq_iff_eq, bne_iff_ne, beq_eq_false_iff_ne, ne_eq, Bool.not_eq_true', Bool.not_eq_false', bne_eq_false_iff_eq, Int.not_lt, Int.not_le] at h1)
    · try simp only [go_sem, ruB, hb2.at_, h1']
      exact ⟨fin_no fun h => by have := h.2.1; omega, hX⟩
    · try simp only [go_sem, ruB, hb2.at_, hb.at_, h1']
      refine gT.of (fun h2' => ?_) (fun h2' => ?_) <;> (have h2 := h2'; try simp only [decide_eq_true_eq, decide_eq_false_iff_not, beq_iff_eq, bne_iff_ne, beq_eq_false_iff_ne, ne_eq, Bool.not_eq_true', Bool.not_eq_false', bne_eq_false_iff_eq, Int.not_lt, Int.not_le] at h2)
      · try simp only [go_sem, ruB, h2']
        exact ⟨fin_no fun h => by have := h.2.2.1; omega, hX⟩
      · try simp only [go_sem, ruB, h2', hb2.at_]
        refine gC.of (split_spec (x := x) ⟨qv, rfl, hq⟩) ?_
        rintro _ m3 ⟨rfl, hx3⟩
        simp only [go_sem]
        have hb2 := hb2.keep hx3
        have hb := hb.keep hx3
        have hp := hp.keep hx3
        have hq := hq.keep hx3
        refine gT.of (fun h3' => ?_) (fun h3' => ?_) <;> (have h3 := h3'; try simp only [decide_eq_true_eq, decide_eq_false_iff_not, beq_iff_eq, bne_iff_ne, beq_eq_false_iff_ne, ne_eq, Bool.not_eq_true', Bool.not_eq_false', bne_eq_false_iff_eq, Int.not_lt, Int.not_le] at h3)
        · try simp only [go_sem, ruB, h3', hb2.at_, hb.at_]
          refine gC.of (pieces_spec (p := p) (x := x) ⟨pv, rfl, hp⟩ ⟨qv, rfl, hq⟩ hl) ?_
          rintro _ m4 ⟨rfl, hx4⟩
          simp only [go_sem]
          exact ⟨fin_iff (by rw [decide_eq_true_eq]; exact ⟨fun h => ⟨hu, by omega, by omega, fun _ => by omega, fun _ => h⟩, fun h => h.2.2.2.2 (by omega)⟩), hX.trans (hx3.trans hx4)⟩
        · try simp only [go_sem, ruB, h3', hb2.at_, hb.at_]
          refine gC.of (has_spec (p := p) (c := x.core) ⟨pv, rfl, hp⟩) ?_
          rintro _ m4 ⟨rfl, hx4⟩
          simp only [go_sem]
          exact ⟨fin_iff ⟨fun h => ⟨hu, by omega, by omega, fun _ => h, fun _ => by omega⟩, fun h => h.2.2.2.1 (by omega)⟩, hX.trans (hx3.trans hx4)⟩
  · try simp only [go_sem, ruB]
    exact ⟨fin_no fun h => hu h.1, hX⟩

/-! ### windows that meet nowhere -/
def wAt (ps : List Pc) (c : Int) : BitVec 64 := winPc c 0#64 ps
def apartP (ps : List Pc) : Prop := ∀ i (h : i < ps.length), (wAt (ps.take i) ps[i].1 &&& ps[i].2) = 0#64
theorem wAt_snoc {ps : List Pc} {y : Pc} {c : Int} : wAt (ps ++ [y]) c = if y.1 = c then wAt ps c ||| y.2 else wAt ps c := by
  unfold wAt winPc; rw [List.foldl_append]; rfl
theorem apartP_snoc {ps : List Pc} {y : Pc} : apartP (ps ++ [y]) ↔ apartP ps ∧ (wAt ps y.1 &&& y.2) = 0#64 := by
  constructor
  · intro h
    refine ⟨fun i hi => ?_, ?_⟩
    · have := h i (by simp; omega)
      rw [List.getElem_append_left hi, List.take_append_of_le_length (by omega)] at this
      exact this
    · have := h ps.length (by simp)
      simpa using this
  · rintro ⟨h1, h2⟩ i hi
    by_cases e : i < ps.length
    · rw [List.getElem_append_left e, List.take_append_of_le_length (by omega)]; exact h1 i e
    · have : i = ps.length := by simp at hi; omega
      subst this
      simpa using h2
theorem apartP_pre {a b : List Pc} (h : apartP (a ++ b)) : apartP a := fun i hi => by
  have := h i (by simp; omega)
  rw [List.getElem_append_left hi, List.take_append_of_le_length (by omega)] at this
  exact this

def preP (l : List Pl) (i : Nat) : List Pc := (l.take i).flatMap (·.pieces)
theorem preP_succ {l : List Pl} {i : Nat} (h : i < l.length) : preP l (i + 1) = preP l i ++ l[i].pieces := by
  unfold preP; rw [List.take_succ_eq_append_getElem h, List.flatMap_append]; simp

/-- The words of sixteen cores. -/
structure Met (m : Mem) (b : Nat) (ps : List Pc) : Prop where
  wit : ∃ W : List (BitVec 64), Bk m b (W.map u64) 16 ∧ W.length = 16 ∧ ∀ c (h : c < W.length), W[c] = wAt ps (c : Nat)
theorem Met.keep {m m' : Mem} {b : Nat} {ps : List Pc} (h : Met m b ps) (hx : Ext m m') : Met m' b ps := let ⟨W, a, l, c⟩ := h.wit; ⟨W, a.keep hx, l, c⟩
theorem Met.get {m : Mem} {b : Nat} {ps : List Pc} (h : Met m b ps) {c : Int} (h0 : 0 ≤ c) (h1 : c < 16) : ldW (m.blk b) c.toNat = some (u64 (wAt ps c)) := by
  obtain ⟨W, a, l, g⟩ := h.wit
  rw [a.at_, ldW_c, List.getElem?_map, List.getElem?_eq_getElem (by omega), Option.map_some, g _ (by omega)]
  congr 3; omega
theorem Met.ne {m : Mem} {b : Nat} {ps : List Pc} (h : Met m b ps) : (b = m.next) = False := let ⟨_, a, _, _⟩ := h.wit; a.ne
theorem load_ext {m m' : Mem} {w : Bool} {u b o : Nat} (hx : Ext m m') (hb : b < m.next) : aLoad w u m' (.pointer (some ⟨b, o, none⟩)) = aLoad w u m (.pointer (some ⟨b, o, none⟩)) := by
  simp only [aLoad, aCells, hx.same b hb]
theorem got_eq {α : Type} {o : Option α} {a : α} {Q : α → Prop} (h : o = some a) (k : Q a) : Got o Q := ⟨a, h, k⟩
theorem Met.put {m : Mem} {b : Nat} {ps : List Pc} (h : Met m b ps) {y : Pc} (h0 : 0 ≤ y.1) (h1 : y.1 < 16) :
    ∃ m', stB m b (m.blk b) y.1.toNat [u64 (wAt ps y.1 ||| y.2)] = some m' ∧ Met m' b (ps ++ [y]) ∧ ∀ m0, Ext m0 m → m0.next ≤ b → Ext m0 m' := by
  obtain ⟨W, a, l, g⟩ := h.wit
  refine ⟨m.set b (some (.cells ((W.set y.1.toNat (wAt ps y.1 ||| y.2)).map u64) (some 16))), ?_, ⟨W.set y.1.toNat (wAt ps y.1 ||| y.2), ⟨by simp [Mem.set], by simpa [Mem.set] using a.lt⟩, by simp [l], fun c hc => ?_⟩, fun m0 hx hb => hx.set hb⟩
  · rw [a.at_, stB_c, if_pos ⟨by simp; omega, rfl⟩, writeL_set (by simp; omega), List.map_set]
  · rw [List.getElem_set, wAt_snoc]
    by_cases e : y.1 = (c : Int)
    · rw [if_pos (by omega), if_pos e, e]
    · rw [if_neg (by omega), if_neg e]
      exact g c (by simpa using hc)

theorem apart1p_loop {m0 : Mem} {x : Pl} {pv qv : Value} {b i n : Nat} {pre : List Pc} (hx0 : Ext m0 m) (hq : PcV m0 x.pieces qv) (hM : Met m b pre) (hb : m0.next ≤ b) (hap : apartP pre) (hl : x.pieces.length < 1000000) (hc : ∀ y ∈ x.pieces, 0 ≤ y.1 ∧ y.1 < 16) :
    WL R [3, 9, 10, 11, 16, 17, 18] RB.plan_apart_1 [(3, pt b), (9, pv), (10, .int .i64 n), (11, .int .i64 i), (16, qv), (17, .int .i64 x.pieces.length), (18, .int .i64 0)] m fun z e m' =>
      (z = .ret ∧ e = [(2, .bool false)] ∧ ¬ apartP (pre ++ x.pieces) ∧ Ext m0 m') ∨ (z = .exit 2 ∧ e = [(3, pt b), (9, pv), (10, .int .i64 n), (11, .int .i64 i), (16, qv), (17, .int .i64 x.pieces.length), (18, .int .i64 x.pieces.length), (19, .bool false)] ∧ Met m' b (pre ++ x.pieces) ∧ apartP (pre ++ x.pieces) ∧ Ext m0 m') := by
  refine WL.of (fun r e m' => ∃ j : Nat, j ≤ x.pieces.length ∧ r = x.pieces.length - j ∧ e = [(3, pt b), (9, pv), (10, .int .i64 n), (11, .int .i64 i), (16, qv), (17, .int .i64 x.pieces.length), (18, .int .i64 j)] ∧ Met m' b (pre ++ x.pieces.take j) ∧ apartP (pre ++ x.pieces.take j) ∧ Ext m0 m') x.pieces.length
    ⟨0, by omega, by omega, by simp only [go_sem] <;> rfl, by simpa using hM, by simpa using hap, hx0⟩ ?_
  rintro _ _ m3 ⟨j, hj, rfl, rfl, hM3, hap3, hx3⟩
  have hq3 := hq.keep hx3
  simp only [RB.plan_apart_1, pt, go_sem]
  refine gT.of (fun h1' => ?_) (fun h1' => ?_) <;> (have h1 := h1'; try simp only [decide_eq_true_eq, decide_eq_false_iff_not, beq_iff_eq, bne_iff_ne, beq_eq_false_iff_ne, ne_eq, Bool.not_eq_true', Bool.not_eq_false', bne_eq_false_iff_eq, Int.not_lt, Int.not_le] at h1)
  · have hjl : j < x.pieces.length := by omega
    obtain ⟨bb, o, a1, a2, a3, a4⟩ := hq3.elem hjl
    have hy := hc _ (List.getElem_mem hjl)
    have htk : x.pieces.take (j + 1) = x.pieces.take j ++ [x.pieces[j]] := List.take_succ_eq_append_getElem hjl
    have hdr : x.pieces = x.pieces.take j ++ [x.pieces[j]] ++ x.pieces.drop (j + 1) := by rw [← htk, List.take_append_drop]
    have s1 := step1 (show j < 1000000 by omega)
    generalize hyy : x.pieces[j] = y at *
    simp only [pcV] at a2
    have g3 := hM3.get hy.1 hy.2
    have n3 := hM3.ne
    try simp only [go_sem, ruB, a1, a2, hy.1, hy.2, g3, n3]
    have hx4 : Ext m3 (m3.new (.cells [.int .i64 y.1, u64 y.2] (some 2))) := Ext.new
    have hb4 : Bk (m3.new (.cells [.int .i64 y.1, u64 y.2] (some 2))) m3.next [.int .i64 y.1, u64 y.2] 2 := Bk.new
    generalize m3.new (.cells [.int .i64 y.1, u64 y.2] (some 2)) = m4 at hx4 hb4 ⊢
    have hM4 := hM3.keep hx4
    have g := hM4.get hy.1 hy.2
    try simp only [go_sem, ruB, hb4.at_, hy.1, hy.2, g]
    refine gT.of (fun h2' => ?_) (fun h2' => ?_) <;> (have h2 := h2'; try simp only [decide_eq_true_eq, decide_eq_false_iff_not, beq_iff_eq, bne_iff_ne, beq_eq_false_iff_ne, ne_eq, Bool.not_eq_true', Bool.not_eq_false', bne_eq_false_iff_eq, Int.not_lt, Int.not_le] at h2)
    · try simp only [go_sem, ruB, h2']
      refine .inl ⟨fun h => ?_, hx3.trans hx4⟩
      rw [hdr, ← List.append_assoc, ← List.append_assoc] at h
      exact h2 (apartP_snoc.1 (apartP_pre h)).2
    · try simp only [go_sem, ruB, h2', hb4.at_, hy.1, hy.2, g]
      obtain ⟨m5, q1, q2, q3⟩ := hM4.put hy.1 hy.2
      refine got_eq q1 ?_
      try simp only [go_sem, ruB, s1]
      refine ⟨x.pieces.length - (j + 1), by omega, j + 1, by omega, rfl, rfl, ?_, ?_, q3 _ (hx3.trans hx4) hb⟩
      · rw [htk, ← List.append_assoc]; exact q2
      · rw [htk, ← List.append_assoc, apartP_snoc]; exact ⟨hap3, Decidable.not_not.1 h2⟩
  · have : j = x.pieces.length := by omega
    subst this
    rw [List.take_length] at hM3 hap3
    try simp only [go_sem, ruB, h1']
    exact .inr ⟨hM3, hap3, hx3⟩

theorem apart_spec {p : PlanD} {v : Value} (hv : PlanV m p v) (hl : p.places.length < 1000000) (hp1 : ∀ x ∈ p.places, x.pieces.length < 1000000) (hc : ∀ x ∈ p.places, ∀ y ∈ x.pieces, 0 ≤ y.1 ∧ y.1 < 16) :
    WC R F.plan_apart [v] m fun r m' => r = .bool (decide (apartP (preP p.places p.places.length))) ∧ Ext m m' := by
  refine WC.of R.plan_apart rfl ?_
  obtain ⟨pv, rfl, hp⟩ := hv
  simp only [RC.plan_apart, planV, go_sem, hp.one]
  have hx : Ext m (m.new (.cells [.int .i64 p.frame, u32 p.cores, pv] (some 3))) := Ext.new
  have hb : Bk (m.new (.cells [.int .i64 p.frame, u32 p.cores, pv] (some 3))) m.next [.int .i64 p.frame, u32 p.cores, pv] 3 := Bk.new
  generalize m.new (.cells [.int .i64 p.frame, u32 p.cores, pv] (some 3)) = m1 at hx hb ⊢
  have hp1' := hp.keep hx
  have hbn := hb.ne
  try simp only [go_sem, ruB, hb.at_, hbn, hp1'.len]
  have hx2 : Ext m1 (m1.new (.cells [u64 0#64, u64 0#64, u64 0#64, u64 0#64, u64 0#64, u64 0#64, u64 0#64, u64 0#64, u64 0#64, u64 0#64, u64 0#64, u64 0#64, u64 0#64, u64 0#64, u64 0#64, u64 0#64] (some 16))) := Ext.new
  have hb2 : Bk (m1.new (.cells [u64 0#64, u64 0#64, u64 0#64, u64 0#64, u64 0#64, u64 0#64, u64 0#64, u64 0#64, u64 0#64, u64 0#64, u64 0#64, u64 0#64, u64 0#64, u64 0#64, u64 0#64, u64 0#64] (some 16))) m1.next [u64 0#64, u64 0#64, u64 0#64, u64 0#64, u64 0#64, u64 0#64, u64 0#64, u64 0#64, u64 0#64, u64 0#64, u64 0#64, u64 0#64, u64 0#64, u64 0#64, u64 0#64, u64 0#64] 16 := Bk.new
  generalize m1.new (.cells [u64 0#64, u64 0#64, u64 0#64, u64 0#64, u64 0#64, u64 0#64, u64 0#64, u64 0#64, u64 0#64, u64 0#64, u64 0#64, u64 0#64, u64 0#64, u64 0#64, u64 0#64, u64 0#64] (some 16)) = m2 at hx2 hb2 ⊢
  have hb2' := hb.keep hx2
  have hM2 : Met m2 m1.next [] := ⟨List.replicate 16 0#64, hb2, rfl, fun c hc => by rw [List.getElem_replicate]; rfl⟩
  try simp only [go_sem, ruB, hb2'.at_, hp1'.len]
  refine WL.of (fun n e m' => ∃ i : Nat, i ≤ p.places.length ∧ n = p.places.length - i ∧ e = [(3, pt m1.next), (9, pv), (10, .int .i64 p.places.length), (11, .int .i64 i)] ∧ Met m' m1.next (preP p.places i) ∧ apartP (preP p.places i) ∧ Ext m1 m') p.places.length
    ⟨0, by omega, by omega, by simp only [go_sem] <;> rfl, by simpa [preP] using hM2, by intro k hk; simp [preP] at hk, hx2⟩ ?_
  rintro _ _ m3 ⟨i, hi, rfl, rfl, hM, hap, hx3⟩
  have hp3 := hp1'.keep hx3
  simp only [RB.plan_apart_2, pt, go_sem]
  refine gT.of (fun h1' => ?_) (fun h1' => ?_) <;> (have h1 := h1'; try simp only [decide_eq_true_eq, decide_eq_false_iff_not, beq_iff_eq, bne_iff_ne, beq_eq_false_iff_ne, ne_eq, Bool.not_eq_true', Bool.not_eq_false', bne_eq_false_iff_eq, Int.not_lt, Int.not_le] at h1)
  · have hil : i < p.places.length := by omega
    obtain ⟨b, o, qv, a1, a2, a3, a4, a5⟩ := hp1'.elem hil
    rw [← load_ext hx3 a5] at a2
    have hpre := preP_succ hil
    have hmem := List.getElem_mem hil
    have hpl := hp1 _ hmem
    have hcc := hc _ hmem
    have s1 := step1 (show i < 1000000 by omega)
    have hrest : preP p.places p.places.length = preP p.places (i + 1) ++ (p.places.drop (i + 1)).flatMap (·.pieces) := by
      unfold preP
      rw [← List.flatMap_append, List.take_length, List.take_append_drop]
    generalize p.places[i] = x at *
    simp only [plV] at a2
    try simp only [go_sem, ruB, a1, a2, a4.one]
    have hx4 : Ext m3 (m3.new (.cells [.int .i64 x.unit, .int .i64 x.share, .int .i64 x.core, qv] (some 4))) := Ext.new
    have hb4 : Bk (m3.new (.cells [.int .i64 x.unit, .int .i64 x.share, .int .i64 x.core, qv] (some 4))) m3.next [.int .i64 x.unit, .int .i64 x.share, .int .i64 x.core, qv] 4 := Bk.new
    generalize m3.new (.cells [.int .i64 x.unit, .int .i64 x.share, .int .i64 x.core, qv] (some 4)) = m4 at hx4 hb4 ⊢
    try simp only [go_sem, ruB, hb4.at_, a4.len]
    have hx34 : Ext m1 m4 := hx3.trans hx4
    refine WL.mono (apart1p_loop (m0 := m1) (x := x) (b := m1.next) (pre := preP p.places i) hx34 a4 (hM.keep hx4) (Nat.le_refl _) hap hpl hcc) ?_
    rintro _ _ m5 (⟨rfl, rfl, hno, hx5⟩ | ⟨rfl, rfl, hM5, hap5, hx5⟩)
    · try simp only [go_sem, ruB]
      exact ⟨fin_no fun h => by rw [hrest, hpre] at h; exact hno (apartP_pre h), hx.trans hx5⟩
    · simp only [pt]
      try simp only [go_sem, ruB, s1]
      exact ⟨p.places.length - (i + 1), by omega, i + 1, by omega, rfl, rfl, by rw [hpre]; exact hM5, by rw [hpre]; exact hap5, hx5⟩
  · have : i = p.places.length := by omega
    subst this
    try simp only [go_sem, ruB, h1']
    exact ⟨fin_yes hap, hx.trans hx3⟩
end Go.Am


/- PlanX3 over the table of chain (relayset.py). -/
set_option linter.unusedVariables false
set_option linter.unusedSimpArgs false
namespace Go.Am
open Classical
variable {m : Mem}

def plC (p : PlanD) (i : Nat) : Prop := ∃ h : i < p.places.length, placeP p p.places[i] ∧ ∀ h : 0 < i, (p.places[i - 1]'(by omega)).unit < p.places[i].unit
def CheckP (p : PlanD) : Prop :=
  2 ≤ p.frame ∧ p.frame ≤ 64 ∧ p.cores ≠ 0#32 ∧ p.cores >>> 16 = 0#32 ∧ (∀ i, i < p.places.length → plC p i) ∧ apartP (preP p.places p.places.length) ∧ p.places.countP isSp < (csP p 16).length ∧
  ∀ c ∈ csP p 16, 0 ≤ leftP p (c : Nat)

theorem plC_r {p : PlanD} (h : 2 ≤ p.frame) (h2 : p.frame ≤ 64) (hl : PlanL p) (ha : ∀ i, i < p.places.length → plC p i) : PlanR p := by
  refine ⟨hl.len, hl.pcs, fun x hx => ?_, by omega, h2⟩
  obtain ⟨i, hi, rfl⟩ := List.getElem_of_mem hx
  obtain ⟨_, h, -⟩ := ha i hi
  have := h.2.1; have := h.2.2.1
  omega
theorem plC_cores {p : PlanD} (ha : ∀ i, i < p.places.length → plC p i) : ∀ x ∈ p.places, ∀ y ∈ x.pieces, 0 ≤ y.1 ∧ y.1 < 16 := by
  intro x hx y hy
  obtain ⟨i, hi, rfl⟩ := List.getElem_of_mem hx
  obtain ⟨_, h, -⟩ := ha i hi
  have := h.2.2.2.2 (by intro e; rw [List.eq_nil_of_length_eq_zero e] at hy; cases hy)
  obtain ⟨j, hj, rfl⟩ := List.getElem_of_mem hy
  obtain ⟨⟨_, g, -⟩, -⟩ := this.1 j hj
  exact hasC_range g

noncomputable def chk (p : PlanD) : Value := .int .i64 (if CheckP p then 0 else 30)
theorem chk_no {p : PlanD} (h : ¬ CheckP p) : Value.int .i64 30 = chk p := by unfold chk; rw [if_neg h]
theorem chk_yes {p : PlanD} (h : CheckP p) : Value.int .i64 0 = chk p := by unfold chk; rw [if_pos h]

set_option maxHeartbeats 4000000 in
theorem Check_spec {p : PlanD} {v : Value} (hv : PlanV m p v) (hl : PlanL p) : WC R F.plan_Check [v] m fun r m' => r = chk p ∧ Ext m m' := by
  refine WC.of R.plan_Check rfl ?_
  obtain ⟨pv, rfl, hp⟩ := hv
  simp only [RC.plan_Check, planV, go_sem, hp.one]
  have hx : Ext m (m.new (.cells [.int .i64 p.frame, u32 p.cores, pv] (some 3))) := Ext.new
  have hb : Bk (m.new (.cells [.int .i64 p.frame, u32 p.cores, pv] (some 3))) m.next [.int .i64 p.frame, u32 p.cores, pv] 3 := Bk.new
  generalize m.new (.cells [.int .i64 p.frame, u32 p.cores, pv] (some 3)) = m1 at hx hb ⊢
  try simp only [go_sem, ruB, hb.at_]
  refine gT.of (fun h1' => ?_) (fun h1' => ?_) <;> (have h1 := h1'; try simp only [decide_eq_true_eq, decide_eq_false_iff_not, beq_iff_eq, bne_iff_ne, beq_eq_false_iff_ne, ne_eq, Bool.not_eq_true', Bool.not_eq_false', bne_eq_false_iff_eq, Int.not_lt, Int.not_le] at h1)
  · try simp only [go_sem, ruB, h1']
    exact ⟨chk_no fun h => by have := h.1; omega, hx⟩
  · try simp only [go_sem, ruB, h1', hb.at_]
    refine gT.of (fun h2' => ?_) (fun h2' => ?_) <;> (have h2 := h2'; try simp only [decide_eq_true_eq, decide_eq_false_iff_not, beq_iff_eq, bne_iff_ne, beq_eq_false_iff_ne, ne_eq, Bool.not_eq_true', Bool.not_eq_false', bne_eq_false_iff_eq, Int.not_lt, Int.not_le] at h2)
    · try simp only [go_sem, ruB, h2']
      exact ⟨chk_no fun h => by have := h.2.1; omega, hx⟩
    · try simp only [go_sem, ruB, h2', hb.at_]
      refine gT.of (fun h3' => ?_) (fun h3' => ?_) <;> (have h3 := h3'; try simp only [decide_eq_true_eq, decide_eq_false_iff_not, beq_iff_eq, bne_iff_ne, beq_eq_false_iff_ne, ne_eq, Bool.not_eq_true', Bool.not_eq_false', bne_eq_false_iff_eq, Int.not_lt, Int.not_le] at h3)
      · try simp only [go_sem, ruB, h3']
        exact ⟨chk_no fun h => h.2.2.1 h3, hx⟩
      · try simp only [go_sem, ruB, h3', hb.at_]
        refine gT.of (fun h4' => ?_) (fun h4' => ?_) <;> (have h4 := h4'; try simp only [decide_eq_true_eq, decide_eq_false_iff_not, beq_iff_eq, bne_iff_ne, beq_eq_false_iff_ne, ne_eq, Bool.not_eq_true', Bool.not_eq_false', bne_eq_false_iff_eq, Int.not_lt, Int.not_le] at h4)
        · try simp only [go_sem, ruB, h4']
          exact ⟨chk_no fun h => h4 h.2.2.2.1, hx⟩
        · have hc : p.cores >>> 16 = 0#32 := Decidable.not_not.1 h4
          have hpk := hp.keep hx
          try simp only [go_sem, ruB, h4', hb.at_, hpk.len]
          refine WL.of (fun n e m' => ∃ i : Nat, i ≤ p.places.length ∧ n = p.places.length - i ∧ e = [(1, pt m.next), (27, pv), (28, .int .i64 p.places.length), (29, .int .i64 i)] ∧ (∀ j, j < i → plC p j) ∧ Ext m1 m') p.places.length
            ⟨0, by omega, by omega, by simp only [go_sem] <;> rfl, fun d hd => by omega, Ext.refl _⟩ ?_
          rintro _ _ m2 ⟨i, hi, rfl, rfl, hall, hx2⟩
          have hp2 := hpk.keep hx2
          have hb2 := hb.keep hx2
          simp only [RB.plan_Check_2, pt, go_sem]
          refine gT.of (fun h5' => ?_) (fun h5' => ?_) <;> (have h5 := h5'; try simp only [decide_eq_true_eq, decide_eq_false_iff_not, beq_iff_eq, bne_iff_ne, beq_eq_false_iff_ne, ne_eq, Bool.not_eq_true', Bool.not_eq_false', bne_eq_false_iff_eq, Int.not_lt, Int.not_le] at h5)
          · have hil : i < p.places.length := by omega
            obtain ⟨b, o, qv, a1, a2, a3, a4, a5⟩ := hp2.elem hil
            have hprev : ∀ h : 0 < i, ∃ b' o', aIdxS 4 pv (.int .i64 (i - 1 : Nat)) = some (.pointer (some ⟨b', o', none⟩)) ∧ ∀ m', Ext m2 m' → aLoad false 1 m' (.pointer (some ⟨b', o', none⟩)) = some (.int .i64 (p.places[i - 1]'(by omega)).unit) := fun h => hp2.prev (by omega)
            have bad : ¬ (placeP p p.places[i] ∧ ∀ h : 0 < i, (p.places[i - 1]'(by omega)).unit < p.places[i].unit) → ¬ CheckP p := fun h h2 => h (let ⟨_, g⟩ := h2.2.2.2.2.1 i hil; g)
            have good : (placeP p p.places[i] ∧ ∀ h : 0 < i, (p.places[i - 1]'(by omega)).unit < p.places[i].unit) → ∀ j, j < i + 1 → plC p j := by
              intro h j hj
              by_cases e : j = i
              · subst e; exact ⟨hil, h⟩
              · exact hall j (by omega)
            have hpl := hl.pcs _ (List.getElem_mem hil)
            have n2 := hb2.ne
            generalize p.places[i] = x at *
            simp only [plV] at a2
            try simp only [go_sem, ruB, hb2.at_, a1, a2, n2, a4.one]
            have hx3 : Ext m2 (m2.new (.cells [.int .i64 x.unit, .int .i64 x.share, .int .i64 x.core, qv] (some 4))) := Ext.new
            have hb3 : Bk (m2.new (.cells [.int .i64 x.unit, .int .i64 x.share, .int .i64 x.core, qv] (some 4))) m2.next [.int .i64 x.unit, .int .i64 x.share, .int .i64 x.core, qv] 4 := Bk.new
            generalize m2.new (.cells [.int .i64 x.unit, .int .i64 x.share, .int .i64 x.core, qv] (some 4)) = m3 at hx3 hb3 ⊢
            have hp3 := hp2.keep hx3
            have hc3 := hb2.keep hx3
            try simp only [go_sem, ruB, hc3.at_, hb3.at_]
            refine gC.of (place_spec (p := p) (x := x) ⟨pv, rfl, hp3⟩ ⟨qv, rfl, a4.keep hx3⟩ hpl) ?_
            rintro _ m4 ⟨rfl, hx4⟩
            simp only [go_sem]
            have hb4 := hb3.keep hx4
            have hc4 := hc3.keep hx4
            have hx24 := hx3.trans hx4
            try simp only [go_sem, ruB, hc3.at_, hb3.at_, hb4.at_, hc4.at_]
            refine gT.of (fun h6' => ?_) (fun h6' => ?_) <;> (have h6 := h6'; try simp only [decide_eq_true_eq, decide_eq_false_iff_not, beq_iff_eq, bne_iff_ne, beq_eq_false_iff_ne, ne_eq, Bool.not_eq_true', Bool.not_eq_false', bne_eq_false_iff_eq, Int.not_lt, Int.not_le] at h6)
            · try simp only [go_sem, ruB, h6']
              exact ⟨chk_no (bad fun h => h6 h.1), hx.trans (hx2.trans hx24)⟩
            · have h6 : placeP p x := by simpa using h6'
              try simp only [go_sem, ruB, h6', hb4.at_, hc4.at_]
              refine gT.of (fun h7' => ?_) (fun h7' => ?_) <;> (have h7 := h7'; try simp only [decide_eq_true_eq, decide_eq_false_iff_not, beq_iff_eq, bne_iff_ne, beq_eq_false_iff_ne, ne_eq, Bool.not_eq_true', Bool.not_eq_false', bne_eq_false_iff_eq, Int.not_lt, Int.not_le] at h7)
              · obtain ⟨b', o', c1, c2⟩ := hprev (by omega)
                try simp only [go_sem, ruB, h7', hb4.at_, hc4.at_, sub1 (show 0 < i by omega) (show i < 1000000 by have := hl.len; omega), c1, c2 _ hx24]
                refine gT.of (fun h8' => ?_) (fun h8' => ?_) <;> (have h8 := h8'; try simp only [decide_eq_true_eq, decide_eq_false_iff_not, beq_iff_eq, bne_iff_ne, beq_eq_false_iff_ne, ne_eq, Bool.not_eq_true', Bool.not_eq_false', bne_eq_false_iff_eq, Int.not_lt, Int.not_le] at h8)
                · try simp only [go_sem, ruB, h8']
                  exact ⟨chk_no (bad fun h => by have := h.2 (by omega); omega), hx.trans (hx2.trans hx24)⟩
                · try simp only [go_sem, ruB, h8', step1 (show i < 1000000 by have := hl.len; omega)]
                  exact ⟨p.places.length - (i + 1), by omega, i + 1, by omega, rfl, rfl, good ⟨h6, fun h => by omega⟩, hx2.trans hx24⟩
              · try simp only [go_sem, ruB, h7', step1 (show i < 1000000 by have := hl.len; omega)]
                exact ⟨p.places.length - (i + 1), by omega, i + 1, by omega, rfl, rfl, good ⟨h6, fun h => by omega⟩, hx2.trans hx24⟩
          · have hi : i = p.places.length := by omega
            subst hi
            have hr := plC_r (by omega) (by omega) hl hall
            try simp only [go_sem, ruB, h5', hb2.at_]
            refine gC.of (apart_spec (p := p) ⟨pv, rfl, hp2⟩ hl.len hl.pcs (plC_cores hall)) ?_
            rintro _ m3 ⟨rfl, hx3⟩
            simp only [go_sem]
            have hb3 := hb2.keep hx3
            have hp3 := hp2.keep hx3
            try simp only [go_sem, ruB, hb3.at_, hb2.at_]
            refine gT.of (fun h6' => ?_) (fun h6' => ?_) <;> (have h6 := h6'; try simp only [decide_eq_true_eq, decide_eq_false_iff_not, beq_iff_eq, bne_iff_ne, beq_eq_false_iff_ne, ne_eq, Bool.not_eq_true', Bool.not_eq_false', bne_eq_false_iff_eq, Int.not_lt, Int.not_le] at h6)
            · try simp only [go_sem, ruB, h6']
              exact ⟨chk_no fun h => h6 h.2.2.2.2.2.1, hx.trans (hx2.trans hx3)⟩
            · have h6 : apartP (preP p.places p.places.length) := by simpa using h6'
              try simp only [go_sem, ruB, h6', hb3.at_]
              refine gC.of (Splits_spec (p := p) ⟨pv, rfl, hp3⟩ hl.len) ?_
              rintro _ m4 ⟨rfl, hx4⟩
              simp only [go_sem]
              have hb4 := hb3.keep hx4
              have hp4 := hp3.keep hx4
              try simp only [go_sem, ruB, hb3.at_, hb4.at_]
              refine gC.of (Cores_spec (p := p) ⟨pv, rfl, hp4⟩) ?_
              rintro w m5 ⟨ho, hx5⟩
              have hb5 := hb4.keep hx5
              have hp5 := hp4.keep hx5
              try simp only [go_sem, ruB, hb4.at_, hb5.at_, ho.sl.len]
              refine gT.of (fun h7' => ?_) (fun h7' => ?_) <;> (have h7 := h7'; try simp only [decide_eq_true_eq, decide_eq_false_iff_not, beq_iff_eq, bne_iff_ne, beq_eq_false_iff_ne, ne_eq, Bool.not_eq_true', Bool.not_eq_false', bne_eq_false_iff_eq, Int.not_lt, Int.not_le] at h7)
              · try simp only [go_sem, ruB, h7']
                exact ⟨chk_no fun h => by have := h.2.2.2.2.2.2.1; omega, hx.trans (hx2.trans (hx3.trans (hx4.trans hx5)))⟩
              · try simp only [go_sem, ruB, h7', hb5.at_]
                refine gC.of (Cores_spec (p := p) ⟨pv, rfl, hp5⟩) ?_
                rintro w2 m6 ⟨ho6, hx6⟩
                have hsl := ho6.sl
                have hlt := ho6.lt
                have hlen := csP_len (p := p) (n := 16)
                try simp only [go_sem, ruB, hsl.len]
                refine WL.of (fun n e m' => ∃ k : Nat, k ≤ (csP p 16).length ∧ n = (csP p 16).length - k ∧ e = [(1, pt m.next), (67, w2), (68, .int .i64 (csP p 16).length), (69, .int .i64 k)] ∧ (∀ c ∈ (csP p 16).take k, 0 ≤ leftP p (c : Nat)) ∧ Ext m6 m') (csP p 16).length
                  ⟨0, by omega, by omega, by simp only [go_sem] <;> rfl, by simp, Ext.refl _⟩ ?_
                rintro _ _ m7 ⟨k, hk, rfl, rfl, hld, hx7⟩
                have hb7 := (hb5.keep hx6).keep hx7
                have hp7 := (hp5.keep hx6).keep hx7
                have hsl7 := hsl.keep hlt hx7
                simp only [RB.plan_Check_1, pt, go_sem]
                refine gT.of (fun h8' => ?_) (fun h8' => ?_) <;> (have h8 := h8'; try simp only [decide_eq_true_eq, decide_eq_false_iff_not, beq_iff_eq, bne_iff_ne, beq_eq_false_iff_ne, ne_eq, Bool.not_eq_true', Bool.not_eq_false', bne_eq_false_iff_eq, Int.not_lt, Int.not_le] at h8)
                · have hkl : k < (csP p 16).length := by omega
                  obtain ⟨q, e1, e2⟩ := hsl7.get (k := .i64) (i := k) hkl
                  rw [ints_get hkl] at e2
                  have hsn : (csP p 16).take (k + 1) = (csP p 16).take k ++ [(csP p 16)[k]] := List.take_succ_eq_append_getElem hkl
                  have hmm : (csP p 16)[k] ∈ csP p 16 := List.getElem_mem hkl
                  generalize (csP p 16)[k] = c at *
                  try simp only [go_sem, ruB, hb7.at_, e1, e2]
                  refine gC.of (left_spec (p := p) (c := c) ⟨pv, rfl, hp7⟩ hr) ?_
                  rintro _ m8 ⟨rfl, hx8⟩
                  simp only [go_sem]
                  have hb8 := hb7.keep hx8
                  try simp only [go_sem, ruB, hb7.at_, hb8.at_]
                  refine gT.of (fun h9' => ?_) (fun h9' => ?_) <;> (have h9 := h9'; try simp only [decide_eq_true_eq, decide_eq_false_iff_not, beq_iff_eq, bne_iff_ne, beq_eq_false_iff_ne, ne_eq, Bool.not_eq_true', Bool.not_eq_false', bne_eq_false_iff_eq, Int.not_lt, Int.not_le] at h9)
                  · try simp only [go_sem, ruB, h9']
                    exact ⟨chk_no fun h => by have := h.2.2.2.2.2.2.2 c hmm; omega, hx.trans (hx2.trans (hx3.trans (hx4.trans (hx5.trans (hx6.trans (hx7.trans hx8))))))⟩
                  · try simp only [go_sem, ruB, h9', step1 (show k < 1000000 by omega)]
                    refine ⟨(csP p 16).length - (k + 1), by omega, k + 1, by omega, rfl, rfl, ?_, hx7.trans hx8⟩
                    intro c' hc'
                    rw [hsn] at hc'
                    rcases List.mem_append.1 hc' with h | h
                    · exact hld c' h
                    · rw [List.mem_singleton.1 h]; omega
                · try simp only [go_sem, ruB, h8']
                  rw [List.take_of_length_le (by omega)] at hld
                  exact ⟨chk_yes ⟨by omega, by omega, h3, hc, hall, h6, by omega, hld⟩, hx.trans (hx2.trans (hx3.trans (hx4.trans (hx5.trans (hx6.trans hx7)))))⟩
end Go.Am


/- PlanX4 over the table of chain (relayset.py). -/
set_option linter.unusedVariables false
set_option linter.unusedSimpArgs false
namespace Go.Am
open Classical
variable {m : Mem}

theorem sc_u64 {x y : BitVec 64} : scalEq .int (u64 x) (u64 y) = some (decide (x = y)) := by
  unfold u64
  rw [sc_int]
  congr 1
  rw [Bool.eq_iff_iff, beq_iff_eq, decide_eq_true_eq]
  constructor
  · intro h; apply BitVec.eq_of_toNat_eq; omega
  · intro h; rw [h]
attribute [go_sem] sc_u64

theorem refSamePlace_spec {x y : Pl} {v w : Value} (hv : PlV m x v) (hw : PlV m y w) (hl : x.pieces.length < 1000000) (hk : y.pieces.length < 1000000) :
    WC R F.ref16_SamePlace [v, w] m fun r m' => r = .bool (decide (x = y)) ∧ Ext m m' := by
  refine WC.of R.ref16_SamePlace rfl ?_
  obtain ⟨pv, rfl, hp⟩ := hv
  obtain ⟨qv, rfl, hq⟩ := hw
  have hex : x = y ↔ x.unit = y.unit ∧ x.share = y.share ∧ x.core = y.core ∧ x.pieces = y.pieces := by
    cases x; cases y; simp
  simp only [RC.ref16_SamePlace, plV, go_sem, hp.one, hq.one]
  have hx : Ext m (m.new (.cells [.int .i64 x.unit, .int .i64 x.share, .int .i64 x.core, pv] (some 4))) := Ext.new
  have hb : Bk (m.new (.cells [.int .i64 x.unit, .int .i64 x.share, .int .i64 x.core, pv] (some 4))) m.next [.int .i64 x.unit, .int .i64 x.share, .int .i64 x.core, pv] 4 := Bk.new
  generalize m.new (.cells [.int .i64 x.unit, .int .i64 x.share, .int .i64 x.core, pv] (some 4)) = m1 at hx hb ⊢
  have hx2 : Ext m1 (m1.new (.cells [.int .i64 y.unit, .int .i64 y.share, .int .i64 y.core, qv] (some 4))) := Ext.new
  have hb2 : Bk (m1.new (.cells [.int .i64 y.unit, .int .i64 y.share, .int .i64 y.core, qv] (some 4))) m1.next [.int .i64 y.unit, .int .i64 y.share, .int .i64 y.core, qv] 4 := Bk.new
  generalize m1.new (.cells [.int .i64 y.unit, .int .i64 y.share, .int .i64 y.core, qv] (some 4)) = m2 at hx2 hb2 ⊢
  have hb := hb.keep hx2
  have hp := (hp.keep hx).keep hx2
  have hq := (hq.keep hx).keep hx2
  have hX := hx.trans hx2
  try simp only [go_sem, ruB, hb.at_, hb2.at_]
  refine gT.of (fun h1' => ?_) (fun h1' => ?_) <;> (have h1 := h1'; try simp only [decide_eq_true_eq, decide_eq_false_iff_not, beq_iff_eq, bne_iff_ne, beq_eq_false_iff_ne, ne_eq, Bool.not_eq_true', Bool.not_eq_false', bne_eq_false_iff_eq, Int.not_lt, Int.not_le] at h1)
  · try simp only [go_sem, ruB, h1']
    exact ⟨fin_no fun h => h1 (hex.1 h).1, hX⟩
  · try simp only [go_sem, ruB, h1', hb.at_, hb2.at_]
    refine gT.of (fun h2' => ?_) (fun h2' => ?_) <;> (have h2 := h2'; try simp only [decide_eq_true_eq, decide_eq_false_iff_not, beq_iff_eq, bne_iff_ne, beq_eq_false_iff_ne, ne_eq, Bool.not_eq_true', Bool.not_eq_false', bne_eq_false_iff_eq, Int.not_lt, Int.not_le] at h2)
    · try simp only [go_sem, ruB, h2']
      exact ⟨fin_no fun h => h2 (hex.1 h).2.1, hX⟩
    · try simp only [go_sem, ruB, h2', hb.at_, hb2.at_]
      refine gT.of (fun h3' => ?_) (fun h3' => ?_) <;> (have h3 := h3'; try simp only [decide_eq_true_eq, decide_eq_false_iff_not, beq_iff_eq, bne_iff_ne, beq_eq_false_iff_ne, ne_eq, Bool.not_eq_true', Bool.not_eq_false', bne_eq_false_iff_eq, Int.not_lt, Int.not_le] at h3)
      · try simp only [go_sem, ruB, h3']
        exact ⟨fin_no fun h => h3 (hex.1 h).2.2.1, hX⟩
      · try simp only [go_sem, ruB, h3', hb.at_, hb2.at_, hp.len, hq.len]
        refine gT.of (fun h4' => ?_) (fun h4' => ?_) <;> (have h4 := h4'; try simp only [decide_eq_true_eq, decide_eq_false_iff_not, beq_iff_eq, bne_iff_ne, beq_eq_false_iff_ne, ne_eq, Bool.not_eq_true', Bool.not_eq_false', bne_eq_false_iff_eq, Int.not_lt, Int.not_le] at h4)
        · try simp only [go_sem, ruB, h4']
          exact ⟨fin_no fun h => h4 (by rw [(hex.1 h).2.2.2]), hX⟩
        · have hlk : x.pieces.length = y.pieces.length := by have := h4; omega
          try simp only [go_sem, ruB, h4']
          refine WL.of (fun n e m' => ∃ i : Nat, i ≤ x.pieces.length ∧ n = x.pieces.length - i ∧ e = [(2, pt m.next), (3, pt m1.next), (5, .int .i64 i)] ∧ (∀ j (h1 : j < x.pieces.length) (h2 : j < y.pieces.length), j < i → x.pieces[j] = y.pieces[j]) ∧ m' = m2) x.pieces.length
            ⟨0, by omega, by omega, by simp only [go_sem] <;> rfl, fun _ _ _ h => by omega, rfl⟩ ?_
          rintro _ _ _ ⟨i, hi, rfl, rfl, hj, hm⟩
          replace hm := hm.symm
          subst hm
          simp only [RB.ref16_SamePlace_1, pt, go_sem, ruB, hb.at_, hp.len]
          refine gT.of (fun h5' => ?_) (fun h5' => ?_) <;> (have h5 := h5'; try simp only [decide_eq_true_eq, decide_eq_false_iff_not, beq_iff_eq, bne_iff_ne, beq_eq_false_iff_ne, ne_eq, Bool.not_eq_true', Bool.not_eq_false', bne_eq_false_iff_eq, Int.not_lt, Int.not_le] at h5)
          · have hil : i < x.pieces.length := by omega
            have hik : i < y.pieces.length := by omega
            obtain ⟨b, o, a1, a2, a3, a4⟩ := hp.elem hil
            obtain ⟨b', o', c1, c2, c3, c4⟩ := hq.elem hik
            simp only [pcV] at a2 c2
            try simp only [go_sem, ruB, h5', a1, a2, c1, c2, hb.at_, hb2.at_]
            refine gT.of (fun h6 => ?_) (fun h6 => ?_)
            · have : x ≠ y := by
                rintro rfl
                simp at h6
              try simp only [go_sem, ruB, h6]
              exact ⟨fin_no this, hX⟩
            · have h7 : x.pieces[i] = y.pieces[i] := by
                apply Prod.ext
                · simp at h6; exact h6.1
                · simp at h6; exact h6.2
              try simp only [go_sem, ruB, h6, step1 (show i < 1000000 by omega)]
              refine ⟨x.pieces.length - (i + 1), by omega, i + 1, by omega, rfl, rfl, ?_⟩
              intro j g1 g2 g3
              by_cases e : j = i
              · subst e; exact h7
              · exact hj j g1 g2 (by omega)
          · have : x.pieces = y.pieces := List.ext_getElem hlk fun j g1 g2 => hj j g1 g2 (by omega)
            try simp only [go_sem, ruB, h5']
            exact ⟨fin_yes (hex.2 ⟨h1, h2, h3, this⟩), hX⟩
end Go.Am


/- What putting behind a slice touches: its own block alone. -/
set_option linter.unusedVariables false
namespace Go.Am

/-- The block of a slice. -/
def vb : Value → List Nat
  | .slice (some a) _ _ => [a.block]
  | _ => []

theorem SlOff.vb_iff {v : Value} {fp : List Nat} : SlOff fp v ↔ ∀ b ∈ vb v, b ∉ fp := by
  unfold SlOff vb
  split <;> simp
theorem SlLt.vb_iff {m : Mem} {v : Value} : SlLt m v ↔ ∀ b ∈ vb v, b < m.next := by
  unfold SlLt vb
  split <;> simp

theorem Upd.new_of {m m' : Mem} {fp : List Nat} {o : AObj} (h : Upd m m' fp) : Upd m (m'.new o) fp :=
  ⟨Nat.le_trans h.next (by simp [Mem.new]), fun b hb hn => by
    have := h.next
    rw [← h.same b hb hn]
    simp only [Mem.new]
    rw [if_neg (by omega)]⟩

theorem aWrite_upd {m m' : Mem} {b o : Nat} {xs : List Value} (h : aWrite m b o xs = some m') : Upd m m' [b] ∧ m'.next = m.next := by
  unfold aWrite at h
  split at h
  · split at h
    · cases h; exact ⟨Upd.set (by simp), rfl⟩
    · cases h
  · cases h

/-- A function value is called. -/
def gV (R : Nat → Option FEnt) (fv : Value) (vs : List Value) (m : Mem) (Q : Value → Mem → Prop) (_ : Ph Q := ph) : Prop := ∃ f a b, fv = .func (.func f) a b ∧ WC R f (a.toList ++ vs ++ b.toList) m Q
theorem a_callv {R : Nat → Option FEnt} {at_ : Option Nat} {e : Env} {m : Mem} {Q : Value → Mem → Prop} {x : X} {xs : List X} : gpA R at_ e m (.callv x xs) Q = Got (x.ev e) fun fv => Got (evs e xs) fun vs => gV R fv vs m Q := by
  refine propext ⟨?_, ?_⟩
  · rintro ⟨f, a, b, vs, h1, h2, h3⟩; exact ⟨_, h1, _, h2, f, a, b, rfl, h3⟩
  · rintro ⟨_, h1, vs, h2, f, a, b, rfl, h3⟩; exact ⟨f, a, b, vs, h1, h2, h3⟩
theorem gV_func {R : Nat → Option FEnt} {m : Mem} {Q : Value → Mem → Prop} {f : Nat} {vs : List Value} : gV R (.func (.func f) #[] #[]) vs m Q = gC R f vs m Q := by
  refine propext ⟨?_, fun h => ⟨f, #[], #[], rfl, by have h : WC R f vs m Q := h; simpa using h⟩⟩
  rintro ⟨_, _, _, h, k⟩
  cases h
  show WC R f vs m Q
  simpa using k
attribute [go_sem] a_callv gV_func

theorem gV.of {R : Nat → Option FEnt} {fv : Value} {vs : List Value} {m : Mem} {Q Q' : Value → Mem → Prop} (h : gV R fv vs m Q') (k : ∀ v m', Q' v m' → Q v m') : gV R fv vs m Q := by
  obtain ⟨f, a, b, rfl, h2⟩ := h
  exact ⟨f, a, b, rfl, h2.mono k⟩
theorem Own.updq {m0 m m' : Mem} {u n : Nat} {cs : List Value} {v : Value} {fp : List Nat} (h : Own m0 m u n cs v) (hx : Upd m m' fp) (ho : ∀ b ∈ vb v, b ∉ fp) : Own m0 m' u n cs v := by
  cases h with
  | nil h hc => exact .nil h hc
  | @«at» b c all hb hb2 hn hm hl hcs h1 => exact .at hb (Nat.lt_of_lt_of_le hb2 hx.next) hn (by rw [hx.same b hb2 (ho b (by simp [vb]))]; exact hm) hl hcs h1
end Go.Am


/- PlanX5 over the table of chain (relayset.py). -/
set_option linter.unusedVariables false
set_option linter.unusedSimpArgs false
namespace Go.Am
open Classical
variable {m : Mem}

end Go.Am


/- PlanM3 over the table of chain (relayset.py). -/
set_option linter.unusedVariables false
set_option linter.unusedSimpArgs false
namespace Go.Am
open Classical

theorem orW_bit {t : Nat} : ∀ {l : List Pc}, (orW l).getLsbD t = l.any fun y => y.2.getLsbD t := by
  have : ∀ (l : List Pc) (a : BitVec 64), (l.foldl (fun a y => a ||| y.2) a).getLsbD t = (a.getLsbD t || l.any fun y => y.2.getLsbD t) := by
    intro l
    induction l with
    | nil => intro a; simp
    | cons y l ih => intro a; rw [List.foldl_cons, ih, BitVec.getLsbD_or, List.any_cons, Bool.or_assoc]
  intro l
  unfold orW; rw [this]; simp

theorem cntA_eq {x : Pl} {t : Nat} (ht : t < 64) : cntA x t = x.pieces.countP fun y => y.2.getLsbD t := by
  unfold cntA
  exact List.countP_congr fun y _ => by rw [atB_all ht]

theorem any_count {α : Type} {f : α → Bool} {l : List α} : (l.any f = true) ↔ 0 < l.countP f := by
  rw [List.countP_pos_iff, List.any_eq_true]

theorem and_zero {a b : BitVec 64} : (a &&& b) = 0#64 ↔ ∀ t, t < 64 → ¬ (a.getLsbD t = true ∧ b.getLsbD t = true) := by
  constructor
  · intro h t _ ⟨h1, h2⟩
    have := congrArg (fun z => z.getLsbD t) h
    simp [h1, h2] at this
  · intro h
    refine word_ext fun t ht => ?_
    have := h t ht
    rw [BitVec.getLsbD_and]
    simp only [BitVec.getLsbD_zero]
    cases e1 : a.getLsbD t <;> cases e2 : b.getLsbD t <;> simp_all

/-- At most one at each tick: each one meets nobody ahead of it. -/
theorem once_iff {l : List Pc} {t : Nat} : (l.countP fun y => y.2.getLsbD t) ≤ 1 ↔ ∀ i (h : i < l.length), ¬ (l[i].2.getLsbD t = true ∧ (orW (l.take i)).getLsbD t = true) := by
  constructor
  · intro h i hi ⟨h1, h2⟩
    rw [orW_bit, any_count] at h2
    have e := countP_take (f := fun (y : Pc) => y.2.getLsbD t) hi
    rw [if_pos h1] at e
    have : (l.take (i + 1)).countP (fun y => y.2.getLsbD t) ≤ l.countP (fun y => y.2.getLsbD t) := (List.take_sublist _ _).countP_le
    omega
  · intro h
    have : ∀ n, n ≤ l.length → (l.take n).countP (fun y => y.2.getLsbD t) ≤ 1 := by
      intro n
      induction n with
      | zero => intro _; simp
      | succ n ih =>
        intro hn
        have e := countP_take (f := fun (y : Pc) => y.2.getLsbD t) (show n < l.length by omega)
        have := ih (by omega)
        rw [e]
        split
        · rename_i hb
          have := h n (by omega)
          rw [orW_bit, any_count] at this
          have : ¬ 0 < (l.take n).countP (fun y => y.2.getLsbD t) := fun g => this ⟨hb, g⟩
          omega
        · omega
    have := this l.length (Nat.le_refl _)
    rwa [List.take_length] at this

theorem pop_cnt {x : Pl} (h : ∀ t, t < 64 → cntA x t ≤ 1) : (pop (orW x.pieces) : Int) = sumA x 64 := by
  rw [pop_tks, tks_S, sumA_S]
  refine S_congr fun t ht => ?_
  have h1 := h t ht
  rw [cntA_eq ht] at *
  split
  · rename_i e; rw [orW_bit, any_count] at e; omega
  · rename_i e; rw [orW_bit, any_count] at e; omega

theorem pcs_iff {p : PlanD} {x : Pl} (h2 : 2 ≤ p.frame) (h64 : p.frame ≤ 64) (hne : x.pieces.length ≠ 0) :
    pcsP p x ↔ ((∀ i, i < x.pieces.length → pcOk p x.pieces i) ∧ (∀ t, t < 64 → cntA x t ≤ 1 ∧ (0 < cntA x t → (t : Int) < p.frame)) ∧ 2 ≤ x.pieces.length ∧ x.core = 0 ∧ (sumA x 64 : Int) = x.share) := by
  have hfr : (fr p.frame).toNat = p.frame.toNat := by unfold fr; omega
  have hin : (∀ i, i < x.pieces.length → pcIn p x.pieces i) ↔ ∀ t, t < 64 → cntA x t ≤ 1 ∧ (0 < cntA x t → (t : Int) < p.frame) := by
    constructor
    · intro h t ht
      rw [cntA_eq ht]
      refine ⟨once_iff.2 fun i hi => ?_, fun hpos => ?_⟩
      · obtain ⟨_, _, g⟩ := h i hi
        exact and_zero.1 g t ht
      · rw [← any_count, List.any_eq_true] at hpos
        obtain ⟨y, hy, hb⟩ := hpos
        obtain ⟨i, hi, rfl⟩ := List.getElem_of_mem hy
        obtain ⟨_, g, _⟩ := h i hi
        have := and_zero.1 g t ht
        rw [hfr, BitVec.getLsbD_not, allB_bit] at this
        simp [hb, ht] at this
        omega
    · intro h i hi
      refine ⟨hi, and_zero.2 fun t ht ⟨h1, h3⟩ => ?_, and_zero.2 fun t ht => ?_⟩
      · rw [hfr, BitVec.getLsbD_not, allB_bit] at h3
        have := (h t ht).2 (by rw [cntA_eq ht, ← any_count, List.any_eq_true]; exact ⟨_, List.getElem_mem hi, h1⟩)
        simp [ht] at h3
        omega
      · have := (h t ht).1
        rw [cntA_eq ht] at this
        exact once_iff.1 this i hi
  unfold pcsP
  constructor
  · rintro ⟨a, b, c, d⟩
    have q := hin.1 fun i hi => (a i hi).2
    exact ⟨fun i hi => (a i hi).1, q, by omega, c, by rw [← pop_cnt fun t ht => (q t ht).1]; exact d⟩
  · rintro ⟨a, q, b, c, d⟩
    exact ⟨fun i hi => ⟨a i hi, hin.2 q i hi⟩, by omega, c, by rw [pop_cnt fun t ht => (q t ht).1]; exact d⟩

theorem place_iff {p : PlanD} {x : Pl} (h2 : 2 ≤ p.frame) (h64 : p.frame ≤ 64) : placeP p x ↔ refPlaceP p x := by
  unfold placeP refPlaceP
  constructor
  · rintro ⟨a, b, c, d, e⟩; exact ⟨a, b, c, d, fun h => (pcs_iff h2 h64 h).1 (e h)⟩
  · rintro ⟨a, b, c, d, e⟩; exact ⟨a, b, c, d, fun h => (pcs_iff h2 h64 h).2 (e h)⟩

theorem flat_cnt {l : List Pl} {c t : Int} : cntL l c t = (l.flatMap (·.pieces)).countP (atB c t) := by
  induction l with
  | nil => rfl
  | cons x l ih => rw [cntL_cons, ih, List.flatMap_cons, List.countP_append]

theorem wAt_bit {ps : List Pc} {c t : Nat} (ht : t < 64) : (wAt ps (c : Nat)).getLsbD t = true ↔ 0 < ps.countP (atB (c : Nat) (t : Nat)) := by
  unfold wAt
  rw [winPc_bit]
  simp only [BitVec.getLsbD_zero, Bool.false_or]
  rw [any_count]
  have : ps.countP (fun y => decide (y.1 = (c : Int)) && y.2.getLsbD t) = ps.countP (atB (c : Nat) (t : Nat)) := List.countP_congr fun y _ => by rw [atB_eq ht]
  rw [this]

theorem apart_iff {ps : List Pc} (hc : ∀ y ∈ ps, 0 ≤ y.1 ∧ y.1 < 16) : apartP ps ↔ ∀ c, c < 16 → ∀ t, t < 64 → ps.countP (atB (c : Nat) (t : Nat)) ≤ 1 := by
  constructor
  · intro h c hc16 t ht
    have : ∀ n, n ≤ ps.length → (ps.take n).countP (atB (c : Nat) (t : Nat)) ≤ 1 := by
      intro n
      induction n with
      | zero => intro _; simp
      | succ n ih =>
        intro hn
        have e := countP_take (f := atB (c : Nat) (t : Nat)) (show n < ps.length by omega)
        have := ih (by omega)
        rw [e]
        split
        · rename_i hb
          have g := and_zero.1 (h n (by omega)) t ht
          rw [atB_eq ht] at hb
          simp only [Bool.and_eq_true, decide_eq_true_eq] at hb
          have hn0 : ¬ 0 < (ps.take n).countP (atB (c : Nat) (t : Nat)) := by
            intro hpos
            refine g ⟨?_, hb.2⟩
            rw [hb.1]
            exact (wAt_bit ht).2 hpos
          omega
        · omega
    have := this ps.length (Nat.le_refl _)
    rwa [List.take_length] at this
  · intro h i hi
    refine and_zero.2 fun t ht ⟨h1, h2⟩ => ?_
    obtain ⟨h0, h16⟩ := hc _ (List.getElem_mem hi)
    obtain ⟨c, hcc⟩ := Int.eq_ofNat_of_zero_le h0
    rw [hcc] at h1 h16
    have hpos := (wAt_bit ht).1 h1
    have e := countP_take (f := atB (c : Nat) (t : Nat)) hi
    rw [if_pos (by rw [atB_eq ht]; simp [hcc, h2])] at e
    have : (ps.take (i + 1)).countP (atB (c : Nat) (t : Nat)) ≤ ps.countP (atB (c : Nat) (t : Nat)) := (List.take_sublist _ _).countP_le
    have := h c (by omega) t ht
    omega

/-- Both call the same plans right. -/
theorem check_iff {p : PlanD} : CheckP p ↔ RightP p := by
  unfold CheckP RightP
  have hcores : p.cores >>> 16 = 0#32 ↔ p.cores.toNat ≤ 65535 := by
    rw [← BitVec.toNat_inj, BitVec.toNat_ushiftRight, Nat.shiftRight_eq_div_pow]
    have := p.cores.isLt
    simp; omega
  constructor
  · rintro ⟨a, b, c, d, e, f, g, h⟩
    refine ⟨a, b, c, hcores.1 d, fun i hi => ?_, ?_, g, fun c hc => ?_⟩
    · obtain ⟨q, r, s⟩ := e i hi
      exact ⟨q, (place_iff a b).1 r, s⟩
    · intro c hc t ht
      rw [flat_cnt]
      have hf : preP p.places p.places.length = p.places.flatMap (·.pieces) := by unfold preP; rw [List.take_length]
      rw [hf] at f
      exact (apart_iff (by
        intro y hy
        obtain ⟨x, hx, hy⟩ := List.mem_flatMap.1 hy
        exact plC_cores e x hx y hy)).1 f c hc t ht
    · have := h c hc
      rw [leftP_eq] at this; omega
  · rintro ⟨a, b, c, d, e, f, g, h⟩
    have e' : ∀ i, i < p.places.length → plC p i := fun i hi => by
      obtain ⟨q, r, s⟩ := e i hi
      exact ⟨q, (place_iff a b).2 r, s⟩
    refine ⟨a, b, c, hcores.2 d, e', ?_, g, fun c hc => ?_⟩
    · have hf : preP p.places p.places.length = p.places.flatMap (·.pieces) := by unfold preP; rw [List.take_length]
      rw [hf]
      refine (apart_iff (by
        intro y hy
        obtain ⟨x, hx, hy⟩ := List.mem_flatMap.1 hy
        exact plC_cores e' x hx y hy)).2 fun c hc t ht => ?_
      rw [← flat_cnt]; exact f c hc t ht
    · have := h c hc
      rw [leftP_eq]; omega
end Go.Am


/- PlanY1 over the table of chain (relayset.py). -/
set_option linter.unusedVariables false
set_option linter.unusedSimpArgs false
namespace Go.Am
open Classical
variable {m : Mem}

def cmpI (a b : Int) : Int := if a < b then -1 else if b < a then 1 else 0

theorem isNaN_spec {a : Int} : WC R F.cmp_isNaN_int [.int .i64 a] m fun r m' => r = .bool false ∧ m' = m := by
  refine WC.of R.cmp_isNaN_int rfl ?_
  simp only [RC.cmp_isNaN_int, go_sem]

theorem Compare_spec {a b : Int} : WC R F.cmp_Compare_int [.int .i64 a, .int .i64 b] m fun r m' => r = .int .i64 (cmpI a b) ∧ m' = m := by
  refine WC.of R.cmp_Compare_int rfl ?_
  simp only [RC.cmp_Compare_int, go_sem]
  refine gC.of isNaN_spec ?_
  rintro _ m_ ⟨rfl, hm_⟩
  replace hm_ := hm_.symm
  subst hm_
  simp only [go_sem]
  refine gC.of isNaN_spec ?_
  rintro _ m_ ⟨rfl, hm_⟩
  replace hm_ := hm_.symm
  subst hm_
  simp only [go_sem]
  unfold cmpI
  refine gT.of (fun h1' => ?_) (fun h1' => ?_) <;> (have h1 := h1'; try simp only [decide_eq_true_eq, decide_eq_false_iff_not, beq_iff_eq, bne_iff_ne, beq_eq_false_iff_ne, ne_eq, Bool.not_eq_true', Bool.not_eq_false', bne_eq_false_iff_eq, Int.not_lt, Int.not_le] at h1)
  · try simp only [go_sem, ruB, h1']
    rw [if_pos h1]
  · try simp only [go_sem, ruB, h1']
    refine gT.of (fun h2' => ?_) (fun h2' => ?_) <;> (have h2 := h2'; try simp only [decide_eq_true_eq, decide_eq_false_iff_not, beq_iff_eq, bne_iff_ne, beq_eq_false_iff_ne, ne_eq, Bool.not_eq_true', Bool.not_eq_false', bne_eq_false_iff_eq, Int.not_lt, Int.not_le] at h2)
    · try simp only [go_sem, ruB, h2']
      rw [if_neg (by omega), if_pos h2]
    · try simp only [go_sem, ruB, h2']
      rw [if_neg (by omega), if_neg (by omega)]

theorem find1_spec {x : Pl} {v : Value} {u : Int} (hv : PlV m x v) : WC R F.plan_find_1 [v, .int .i64 u] m fun r m' => r = .int .i64 (cmpI x.unit u) ∧ Ext m m' := by
  refine WC.of R.plan_find_1 rfl ?_
  obtain ⟨pv, rfl, hp⟩ := hv
  simp only [RC.plan_find_1, plV, go_sem, hp.one]
  have hx : Ext m (m.new (.cells [.int .i64 x.unit, .int .i64 x.share, .int .i64 x.core, pv] (some 4))) := Ext.new
  have hb : Bk (m.new (.cells [.int .i64 x.unit, .int .i64 x.share, .int .i64 x.core, pv] (some 4))) m.next [.int .i64 x.unit, .int .i64 x.share, .int .i64 x.core, pv] 4 := Bk.new
  generalize m.new (.cells [.int .i64 x.unit, .int .i64 x.share, .int .i64 x.core, pv] (some 4)) = m1 at hx hb ⊢
  try simp only [go_sem, ruB, hb.at_]
  refine gC.of Compare_spec ?_
  rintro _ m_ ⟨rfl, hm_⟩
  replace hm_ := hm_.symm
  subst hm_
  simp only [go_sem]
  exact hx
end Go.Am


/- PlanY2 over the table of chain (relayset.py). -/
set_option linter.unusedVariables false
set_option linter.unusedSimpArgs false
namespace Go.Am
open Classical
variable {m : Mem}

def Asc (l : List Pl) : Prop := ∀ i j (hi : i < j) (hj : j < l.length), (l[i]'(by omega)).unit < l[j].unit
/-- Where a unit is, or would be. -/
def atU (l : List Pl) (u : Int) (k : Nat) : Prop := k ≤ l.length ∧ (∀ t (h : t < l.length), t < k → l[t].unit < u) ∧ ∀ t (h : t < l.length), k ≤ t → u ≤ l[t].unit
def isAt (l : List Pl) (u : Int) (k : Nat) : Prop := ∃ h : k < l.length, l[k].unit = u

theorem half_eq {i j : Nat} (h : i + j < 2000000) : IntKind.wrap .i64 (((BitVec.ofInt 64 (IntKind.wrap .i64 ((i : Int) + j)) >>> (1#64).toNat).toNat : Nat) : Int) = ((i + j) / 2 : Nat) := by
  have e : IntKind.wrap .i64 ((i : Int) + j) = ((i + j : Nat) : Int) := by rw [wrap_i64 (by omega) (by omega)]; omega
  rw [show (1#64).toNat = 1 from rfl, e, BitVec.ofInt_natCast, BitVec.toNat_ushiftRight, BitVec.toNat_ofNat, Nat.mod_eq_of_lt (by omega), Nat.shiftRight_eq_div_pow, wrap_i64 (by omega) (by omega)]

theorem Binary_spec {l : List Pl} {v : Value} {u : Int} (hs : PlsV m l v) (hl : l.length < 1000000) (ha : Asc l) :
    WC R F.slices_BinarySearchFunc_api_Place_api_Place_int [v, .int .i64 u, .func (.func F.plan_find_1) #[] #[]] m fun r m' => ∃ k, atU l u k ∧ r = .tuple #[.int .i64 k, .bool (decide (isAt l u k))] ∧ Ext m m' := by
  refine WC.of R.slices_BinarySearchFunc_api_Place_api_Place_int rfl ?_
  simp only [RC.slices_BinarySearchFunc_api_Place_api_Place_int, go_sem, hs.len]
  refine WL.of (fun n e m' => ∃ i j : Nat, i ≤ j ∧ j ≤ l.length ∧ n = j - i ∧ e = [(0, v), (1, .int .i64 u), (2, .func (.func F.plan_find_1) #[] #[]), (8, .int .i64 l.length), (9, .int .i64 i), (10, .int .i64 j)] ∧ (∀ t (h : t < l.length), t < i → l[t].unit < u) ∧ (∀ t (h : t < l.length), j ≤ t → u ≤ l[t].unit) ∧ Ext m m') l.length
    ⟨0, l.length, by omega, by omega, by omega, by simp only [go_sem] <;> rfl, fun t h h2 => by omega, fun t h h2 => by omega, Ext.refl _⟩ ?_
  rintro _ _ m1 ⟨i, j, hij, hj, rfl, rfl, hlo, hhi, hx⟩
  have hs1 := hs.keep hx
  simp only [RB.slices_BinarySearchFunc_api_Place_api_Place_int_1, go_sem]
  refine gT.of (fun h1' => ?_) (fun h1' => ?_) <;> (have h1 := h1'; try simp only [decide_eq_true_eq, decide_eq_false_iff_not, beq_iff_eq, bne_iff_ne, beq_eq_false_iff_ne, ne_eq, Bool.not_eq_true', Bool.not_eq_false', bne_eq_false_iff_eq, Int.not_lt, Int.not_le] at h1)
  · have hij2 : i < j := by omega
    have hh := half_eq (i := i) (j := j) (by omega)
    have hkl : (i + j) / 2 < l.length := by omega
    obtain ⟨b, o, qv, a1, a2, a3, a4, a5⟩ := hs1.elem hkl
    have hlow : l[(i + j) / 2].unit < u → ∀ t (h : t < l.length), t < (i + j) / 2 + 1 → l[t].unit < u := by
      intro g t h ht
      by_cases e : t = (i + j) / 2
      · subst e; exact g
      · have := ha t ((i + j) / 2) (by omega) hkl; omega
    have hhigh : ¬ l[(i + j) / 2].unit < u → ∀ t (h : t < l.length), (i + j) / 2 ≤ t → u ≤ l[t].unit := by
      intro g t h ht
      by_cases e : t = (i + j) / 2
      · subst e; omega
      · have := ha ((i + j) / 2) t (by omega) h; omega
    have hk1 : i ≤ (i + j) / 2 ∧ (i + j) / 2 < j := by omega
    generalize (i + j) / 2 = k at *
    have s1 := step1 (show k < 1000000 by omega)
    try simp only [go_sem, ruB, h1', hh, a1, a2]
    refine gC.of (find1_spec (x := l[k]) (u := u) ⟨qv, rfl, a4⟩) ?_
    rintro _ m2 ⟨rfl, hx2⟩
    simp only [go_sem]
    refine gT.of (fun h2' => ?_) (fun h2' => ?_) <;> (have h2 := h2'; try simp only [decide_eq_true_eq, decide_eq_false_iff_not, beq_iff_eq, bne_iff_ne, beq_eq_false_iff_ne, ne_eq, Bool.not_eq_true', Bool.not_eq_false', bne_eq_false_iff_eq, Int.not_lt, Int.not_le] at h2)
    · have h3 : l[k].unit < u := by unfold cmpI at h2; split at h2 <;> (try split at h2) <;> omega
      try simp only [go_sem, ruB, h2', s1]
      exact ⟨j - (k + 1), by omega, k + 1, j, by omega, by omega, rfl, rfl, hlow h3, hhi, hx.trans hx2⟩
    · have h3 : ¬ l[k].unit < u := by unfold cmpI at h2; split at h2 <;> (try split at h2) <;> omega
      try simp only [go_sem, ruB, h2']
      exact ⟨k - i, by omega, i, k, by omega, by omega, rfl, rfl, hlo, hhigh h3, hx.trans hx2⟩
  · have hij2 : i = j := by omega
    subst hij2
    have hat : atU l u i := ⟨hj, hlo, hhi⟩
    try simp only [go_sem, ruB, h1']
    refine gT.of (fun h2' => ?_) (fun h2' => ?_) <;> (have h2 := h2'; try simp only [decide_eq_true_eq, decide_eq_false_iff_not, beq_iff_eq, bne_iff_ne, beq_eq_false_iff_ne, ne_eq, Bool.not_eq_true', Bool.not_eq_false', bne_eq_false_iff_eq, Int.not_lt, Int.not_le] at h2)
    · have hil : i < l.length := by omega
      obtain ⟨b, o, qv, a1, a2, a3, a4, a5⟩ := hs1.elem hil
      try simp only [go_sem, ruB, h2', a1, a2]
      refine gC.of (find1_spec (x := l[i]) (u := u) ⟨qv, rfl, a4⟩) ?_
      rintro _ m2 ⟨rfl, hx2⟩
      simp only [go_sem]
      try simp only [go_sem, ruB, h2']
      have hge := hhi i hil (Nat.le_refl _)
      have key : (cmpI l[i].unit u == 0) = decide (isAt l u i) := by
        rw [Bool.eq_iff_iff, beq_iff_eq, decide_eq_true_eq]
        unfold cmpI
        constructor
        · intro h; refine ⟨hil, ?_⟩; split at h <;> (try split at h) <;> omega
        · rintro ⟨_, h⟩; rw [if_neg (by omega), if_neg (by omega)]
      exact ⟨i, hat, by rw [key], hx.trans hx2⟩
    · try simp only [go_sem, ruB, h2']
      have key : decide (isAt l u i) = false := decide_eq_false fun ⟨h, _⟩ => by omega
      exact ⟨i, hat, by rw [key], hx⟩

theorem find_spec {p : PlanD} {v : Value} {u : Int} (hv : PlanV m p v) (hl : p.places.length < 1000000) (ha : Asc p.places) :
    WC R F.plan_find [v, .int .i64 u] m fun r m' => ∃ k, atU p.places u k ∧ r = .tuple #[.int .i64 k, .bool (decide (isAt p.places u k))] ∧ Ext m m' := by
  refine WC.of R.plan_find rfl ?_
  obtain ⟨pv, rfl, hp⟩ := hv
  simp only [RC.plan_find, planV, go_sem, hp.one]
  have hx : Ext m (m.new (.cells [.int .i64 p.frame, u32 p.cores, pv] (some 3))) := Ext.new
  have hb : Bk (m.new (.cells [.int .i64 p.frame, u32 p.cores, pv] (some 3))) m.next [.int .i64 p.frame, u32 p.cores, pv] 3 := Bk.new
  generalize m.new (.cells [.int .i64 p.frame, u32 p.cores, pv] (some 3)) = m1 at hx hb ⊢
  try simp only [go_sem, ruB, hb.at_]
  refine gC.of (Binary_spec (hp.keep hx) hl ha) ?_
  rintro _ m2 ⟨k, hk, rfl, hx2⟩
  try simp only [go_sem, ruB, aExt0, aExt1]
  exact ⟨k, hk, rfl, hx.trans hx2⟩

/-- A copy of pieces. -/
theorem Clone_spec {l : List Pc} {v : Value} (hs : PcV m l v) (hl : l.length < 1000000) : WC R F.slices_Clone_api_Piece_api_Piece [v] m fun r m' => Own m m' 2 l.length (l.flatMap pcV) r ∧ Ext m m' := by
  refine WC.of R.slices_Clone_api_Piece_api_Piece rfl ?_
  have hone : oneCells (l.flatMap pcV) = true := by
    unfold oneCells
    rw [List.all_eq_true]
    intro x hx
    obtain ⟨y, _, hy⟩ := List.mem_flatMap.1 hx
    simp only [pcV, List.mem_cons, List.not_mem_nil, or_false] at hy
    rcases hy with rfl | rfl <;> rfl
  obtain ⟨h1, h2⟩ := hs
  have hs0 : Sl m 2 l.length (l.flatMap pcV) v := h1
  cases h1 with
  | nil h hc =>
    simp only [RC.slices_Clone_api_Piece_api_Piece, go_sem, Option.isNone_none]
    exact ⟨.nil h hc, Ext.refl _⟩
  | @«at» b o c hc h =>
    simp only [RC.slices_Clone_api_Piece_api_Piece, go_sem]
    obtain ⟨v', m', e1, e2, e3⟩ := app_copy (by_ := 16) (hs0.keep h2 Ext.new) hone (by omega) (by omega)
    rw [e1, Got.some]
    try simp only [go_sem, ruB]
    exact ⟨e2, e3⟩

def find0 : Pl := ⟨0, 0, 0, []⟩
noncomputable def findP (l : List Pl) (u : Int) : Pl := if h : ∃ i, ∃ h : i < l.length, l[i].unit = u then l[h.choose]'(h.choose_spec.choose) else find0
def hasU (l : List Pl) (u : Int) : Prop := ∃ i, ∃ h : i < l.length, l[i].unit = u

theorem Asc.inj {l : List Pl} (ha : Asc l) {i j : Nat} (hi : i < l.length) (hj : j < l.length) (h : l[i].unit = l[j].unit) : i = j := by
  rcases Nat.lt_trichotomy i j with g | g | g
  · have := ha i j g hj; omega
  · exact g
  · have := ha j i g hi; omega
theorem findP_at {l : List Pl} {u : Int} (ha : Asc l) {i : Nat} (hi : i < l.length) (h : l[i].unit = u) : findP l u = l[i] := by
  have hex : ∃ i, ∃ h : i < l.length, l[i].unit = u := ⟨i, hi, h⟩
  unfold findP
  rw [dif_pos hex]
  have e : hex.choose = i := ha.inj hex.choose_spec.choose hi (by rw [hex.choose_spec.choose_spec, h])
  simp only [e]
theorem findP_not {l : List Pl} {u : Int} (h : ¬ hasU l u) : findP l u = find0 := by unfold findP; exact dif_neg h

theorem Find_spec {p : PlanD} {v : Value} {u : Int} (hv : PlanV m p v) (hl : PlanL p) (ha : Asc p.places) :
    WC R F.plan_Find [v, .int .i64 u] m fun r m' => ∃ w, r = .tuple #[w, .bool (decide (hasU p.places u))] ∧ PlV m' (findP p.places u) w ∧ Ext m m' := by
  refine WC.of R.plan_Find rfl ?_
  obtain ⟨pv, rfl, hp⟩ := hv
  simp only [RC.plan_Find, planV, go_sem, hp.one]
  have hx : Ext m (m.new (.cells [.int .i64 p.frame, u32 p.cores, pv] (some 3))) := Ext.new
  have hb : Bk (m.new (.cells [.int .i64 p.frame, u32 p.cores, pv] (some 3))) m.next [.int .i64 p.frame, u32 p.cores, pv] 3 := Bk.new
  generalize m.new (.cells [.int .i64 p.frame, u32 p.cores, pv] (some 3)) = m1 at hx hb ⊢
  have hbn := hb.ne
  try simp only [go_sem, ruB, hb.at_, hbn]
  have hx2 : Ext m1 (m1.new (.cells [.int .i64 0, .int .i64 0, .int .i64 0, .slice none 0 0] (some 4))) := Ext.new
  have hb2 : Bk (m1.new (.cells [.int .i64 0, .int .i64 0, .int .i64 0, .slice none 0 0] (some 4))) m1.next [.int .i64 0, .int .i64 0, .int .i64 0, .slice none 0 0] 4 := Bk.new
  have hn2 : (m1.new (.cells [.int .i64 0, .int .i64 0, .int .i64 0, .slice none 0 0] (some 4))).next = m1.next + 1 := rfl
  generalize m1.new (.cells [.int .i64 0, .int .i64 0, .int .i64 0, .slice none 0 0] (some 4)) = m2 at hx2 hb2 hn2 ⊢
  have hp2 := (hp.keep hx).keep hx2
  have hb' := hb.keep hx2
  try simp only [go_sem, ruB, hb'.at_]
  refine gC.of (find_spec (p := p) ⟨pv, rfl, hp2⟩ hl.len ha) ?_
  rintro _ m3 ⟨k, ⟨hk1, hk2, hk3⟩, rfl, hx3⟩
  have hp3 := hp2.keep hx3
  have hb3 := hb'.keep hx3
  have hr3 := hb2.keep hx3
  try simp only [go_sem, ruB, aExt0, aExt1]
  have hiff : isAt p.places u k ↔ hasU p.places u := by
    constructor
    · rintro ⟨h, e⟩; exact ⟨k, h, e⟩
    · rintro ⟨i, h, e⟩
      have : i = k := by
        rcases Nat.lt_trichotomy i k with g | g | g
        · have := hk2 i h g; omega
        · exact g
        · have h1 := hk3 k (by omega) (Nat.le_refl _)
          have := ha k i g h
          omega
      subst this; exact ⟨h, e⟩
  refine gT.of (fun h1' => ?_) (fun h1' => ?_) <;> (have h1 := h1'; try simp only [decide_eq_true_eq, decide_eq_false_iff_not, beq_iff_eq, bne_iff_ne, beq_eq_false_iff_ne, ne_eq, Bool.not_eq_true', Bool.not_eq_false', bne_eq_false_iff_eq, Int.not_lt, Int.not_le] at h1)
  · have hno : ¬ isAt p.places u k := by simpa using h1'
    have hnu : ¬ hasU p.places u := fun h => hno (hiff.2 h)
    have hX : Ext m1 m3 := hx2.trans hx3
    try simp only [go_sem, ruB, h1', hr3.at_]
    refine ⟨_, by rw [decide_eq_false hnu], ?_, hx.trans (hX.set (Nat.le_refl _))⟩
    rw [findP_not hnu]
    exact ⟨.slice none 0 0, rfl, .nil rfl rfl, trivial⟩
  · have hyes : isAt p.places u k := by simpa using h1'
    obtain ⟨hkl, hku⟩ := hyes
    try simp only [go_sem, ruB, h1', hb3.at_]
    obtain ⟨b, o, qv, a1, a2, a3, a4, a5⟩ := hp3.elem hkl
    have hfx : findP p.places u = p.places[k] := findP_at ha hkl hku
    have hhas : hasU p.places u := ⟨k, hkl, hku⟩
    have hpl := hl.pcs _ (List.getElem_mem hkl)
    generalize p.places[k] = x at *
    simp only [plV] at a2
    try simp only [go_sem, ruB, a1, a2, a4.one]
    have hx4 : Ext m3 (m3.new (.cells [.int .i64 x.unit, .int .i64 x.share, .int .i64 x.core, qv] (some 4))) := Ext.new
    have hb4 : Bk (m3.new (.cells [.int .i64 x.unit, .int .i64 x.share, .int .i64 x.core, qv] (some 4))) m3.next [.int .i64 x.unit, .int .i64 x.share, .int .i64 x.core, qv] 4 := Bk.new
    generalize m3.new (.cells [.int .i64 x.unit, .int .i64 x.share, .int .i64 x.core, qv] (some 4)) = m4 at hx4 hb4 ⊢
    try simp only [go_sem, ruB, hb4.at_]
    refine gC.of (Clone_spec (a4.keep hx4) hpl) ?_
    rintro w m5 ⟨ho, hx5⟩
    have hb5 := hb4.keep hx5
    have hr5 := (hr3.keep hx4).keep hx5
    have hne : m1.next ≠ m3.next := by have := hr3.lt; omega
    have hso : ∀ {m'}, Upd m5 m' [m1.next, m3.next] → PcV m' x.pieces w := by
      intro m' h
      have hoff : SlOff [m1.next, m3.next] w := ho.off (by
        intro z hz
        have := hr3.lt; have := hx4.next; have := hb4.lt
        simp at hz; omega)
      exact ⟨ho.sl.upd ho.lt hoff h, ho.lt.upd h⟩
    have hw : ∃ a n c, w = .slice a n c := by cases ho <;> exact ⟨_, _, _, rfl⟩
    have hw1 := ho.sl.one
    obtain ⟨wa, wn, wc, rfl⟩ := hw
    have hne' : (m1.next = m3.next) = False := eq_false hne
    try simp only [go_sem, ruB, hb5.at_, hw1, hne', hr5.at_]
    have hle : m1.next ≤ m3.next := by have := hr3.lt; omega
    refine ⟨_, by rw [decide_eq_true hhas], ?_, hx.trans (((((hx2.trans hx3).trans hx4).trans hx5).set hle).set (Nat.le_refl _))⟩
    rw [hfx]
    exact ⟨.slice wa wn wc, rfl, hso ((Upd.set (fp := [m1.next, m3.next]) (by simp)).trans (Upd.set (fp := [m1.next, m3.next]) (by simp)) (fun _ h => h) (fun _ h => .inl h))⟩

theorem refFind_spec {p : PlanD} {v : Value} {u : Int} (hv : PlanV m p v) (hl : PlanL p) (ha : Asc p.places) :
    WC R F.ref16_Find [v, .int .i64 u] m fun r m' => ∃ w, r = .tuple #[w, .bool (decide (hasU p.places u))] ∧ PlV m' (findP p.places u) w ∧ Ext m m' := by
  refine WC.of R.ref16_Find rfl ?_
  obtain ⟨pv, rfl, hp⟩ := hv
  have hlen := hl.len
  simp only [RC.ref16_Find, planV, go_sem, hp.one]
  have hx : Ext m (m.new (.cells [.int .i64 p.frame, u32 p.cores, pv] (some 3))) := Ext.new
  have hb : Bk (m.new (.cells [.int .i64 p.frame, u32 p.cores, pv] (some 3))) m.next [.int .i64 p.frame, u32 p.cores, pv] 3 := Bk.new
  generalize m.new (.cells [.int .i64 p.frame, u32 p.cores, pv] (some 3)) = m1 at hx hb ⊢
  have hbn := hb.ne
  try simp only [go_sem, hbn]
  have hx2 : Ext m1 (m1.new (.cells [.int .i64 0, .int .i64 0, .int .i64 0, .slice none 0 0] (some 4))) := Ext.new
  have hb2 : Bk (m1.new (.cells [.int .i64 0, .int .i64 0, .int .i64 0, .slice none 0 0] (some 4))) m1.next [.int .i64 0, .int .i64 0, .int .i64 0, .slice none 0 0] 4 := Bk.new
  generalize m1.new (.cells [.int .i64 0, .int .i64 0, .int .i64 0, .slice none 0 0] (some 4)) = m2 at hx2 hb2 ⊢
  have hp2 := (hp.keep hx).keep hx2
  have hb' := hb.keep hx2
  refine WL.of (fun n e m' => ∃ i : Nat, i ≤ p.places.length ∧ n = p.places.length - i ∧ e = [(1, .int .i64 u), (2, pt m.next), (4, pt m1.next), (6, .int .i64 i)] ∧ (∀ t (h : t < p.places.length), t < i → p.places[t].unit ≠ u) ∧ m' = m2) p.places.length
    ⟨0, by omega, by omega, by simp only [go_sem] <;> rfl, fun t h h2 => by omega, rfl⟩ ?_
  rintro _ _ _ ⟨i, hi, rfl, rfl, hno, hm⟩
  replace hm := hm.symm
  subst hm
  simp only [RB.ref16_Find_1, pt, go_sem, ruB, hb'.at_, hp2.len]
  refine gT.of (fun h1' => ?_) (fun h1' => ?_) <;> (have h1 := h1'; try simp only [decide_eq_true_eq, decide_eq_false_iff_not, beq_iff_eq, bne_iff_ne, beq_eq_false_iff_ne, ne_eq, Bool.not_eq_true', Bool.not_eq_false', bne_eq_false_iff_eq, Int.not_lt, Int.not_le] at h1)
  · have hil : i < p.places.length := by omega
    obtain ⟨b, o, qv, a1, a2, a3, a4, a5⟩ := (hp.keep hx).elem hil
    have a30 := a3 0 (by omega)
    rw [← load_ext hx2 a5] at a2 a30
    have hfx : p.places[i].unit = u → findP p.places u = p.places[i] := fun h => findP_at ha hil h
    have hhas : p.places[i].unit = u → hasU p.places u := fun h => ⟨i, hil, h⟩
    have hno2 : p.places[i].unit ≠ u → ∀ t (h : t < p.places.length), t < i + 1 → p.places[t].unit ≠ u := by
      intro g t h ht
      by_cases e : t = i
      · subst e; exact g
      · exact hno t h (by omega)
    generalize p.places[i] = x at *
    simp only [plV, Nat.add_zero, List.getElem?_cons_zero] at a2 a30
    have q1 := a4.one
    try simp only [go_sem, ruB, h1', a1, a30, hb'.at_]
    refine gT.of (fun h2' => ?_) (fun h2' => ?_) <;> (have h2 := h2'; try simp only [decide_eq_true_eq, decide_eq_false_iff_not, beq_iff_eq, bne_iff_ne, beq_eq_false_iff_ne, ne_eq, Bool.not_eq_true', Bool.not_eq_false', bne_eq_false_iff_eq, Int.not_lt, Int.not_le] at h2)
    · have hfx := hfx h2
      try simp only [go_sem, ruB, h2', a1, a2, hb'.at_, hb2.at_, q1]
      refine ⟨_, by rw [decide_eq_true (hhas h2)], ?_, hx.trans (hx2.set (Nat.le_refl _))⟩
      rw [hfx]
      exact ⟨qv, rfl, a4.keep (hx2.set (Nat.le_refl _))⟩
    · try simp only [go_sem, ruB, h2', step1 (show i < 1000000 by omega)]
      exact ⟨p.places.length - (i + 1), by omega, i + 1, by omega, rfl, rfl, hno2 h2⟩
  · have hnu : ¬ hasU p.places u := by
      rintro ⟨t, h, e⟩
      exact hno t h (by omega) e
    try simp only [go_sem, ruB, h1', hb2.at_]
    refine ⟨_, by rw [decide_eq_false hnu], ?_, hx.trans (hx2.set (Nat.le_refl _))⟩
    rw [findP_not hnu]
    exact ⟨.slice none 0 0, rfl, .nil rfl rfl, trivial⟩
end Go.Am


/- PlanL1 over the table of chain (relayset.py). -/
set_option linter.unusedVariables false
set_option linter.unusedSimpArgs false
namespace Go.Am
open Classical
variable {m : Mem}

theorem light_l {p : PlanD} (h : lightP p = true) : PlanL p := by
  simp only [lightP, Bool.and_eq_true, decide_eq_true_eq, List.all_eq_true] at h
  refine ⟨by omega, fun x hx => ?_⟩
  have := h.1 x (by rw [List.take_of_length_le (by omega)]; exact hx)
  omega
end Go.Am


/- PlanL3 over the table of chain (relayset.py). -/
set_option linter.unusedVariables false
set_option linter.unusedSimpArgs false
namespace Go.Am
open Classical
variable {m : Mem}

theorem RightP.asc {p : PlanD} (h : RightP p) : Asc p.places := by
  intro i j hij hj
  induction j with
  | zero => omega
  | succ j ih =>
    obtain ⟨_, _, g⟩ := h.2.2.2.2.1 (j + 1) hj
    have g := g (by omega)
    simp only [Nat.add_sub_cancel] at g
    by_cases e : i = j
    · subst e; exact g
    · have := ih (by omega) (by omega); omega

end Go.Am


/- Rows of spans, with no program in sight: what is in one; that a right row is told by what is in it; how many numbers there are. -/
set_option linter.unusedVariables false
set_option linter.unusedSimpArgs false
namespace Go.Am

abbrev Sp := Int × Int
instance : Inhabited Sp := ⟨(0, 0)⟩
def spV (s : Sp) : List Value := [.int .i64 s.1, .int .i64 s.2]
theorem spV_len (s : Sp) : (spV s).length = 2 := rfl
def InS (l : List Sp) (x : Int) : Prop := ∃ s ∈ l, s.1 ≤ x ∧ x < s.2
def hasS (l : List Sp) (x : Int) : Bool := l.any fun s => decide (s.1 ≤ x) && decide (x < s.2)
theorem hasS_iff {l : List Sp} {x : Int} : hasS l x = true ↔ InS l x := by
  simp only [hasS, InS, List.any_eq_true, Bool.and_eq_true, decide_eq_true_eq]
theorem InS.nil {x : Int} : ¬ InS [] x := by rintro ⟨s, h, _⟩; simp at h
theorem InS.cons {s : Sp} {l : List Sp} {x : Int} : InS (s :: l) x ↔ (s.1 ≤ x ∧ x < s.2) ∨ InS l x := by
  unfold InS; simp
theorem InS.append {a b : List Sp} {x : Int} : InS (a ++ b) x ↔ InS a x ∨ InS b x := by
  unfold InS
  constructor
  · rintro ⟨s, h, h1⟩
    rcases List.mem_append.1 h with h | h
    · exact .inl ⟨s, h, h1⟩
    · exact .inr ⟨s, h, h1⟩
  · rintro (⟨s, h, h1⟩ | ⟨s, h, h1⟩)
    · exact ⟨s, List.mem_append.2 (.inl h), h1⟩
    · exact ⟨s, List.mem_append.2 (.inr h), h1⟩
theorem InS.single {s : Sp} {x : Int} : InS [s] x ↔ s.1 ≤ x ∧ x < s.2 := by
  unfold InS; simp
theorem InS.snoc {a : List Sp} {s : Sp} {x : Int} : InS (a ++ [s]) x ↔ InS a x ∨ (s.1 ≤ x ∧ x < s.2) := by
  rw [InS.append, InS.single]

/-- A row that is right: none is empty, and there is a number between any two. -/
def Rt (l : List Sp) : Prop := (∀ s ∈ l, s.1 < s.2) ∧ l.Pairwise fun s t => s.2 < t.1
theorem Rt.nil : Rt [] := ⟨by simp, .nil⟩
theorem Rt.cons {s : Sp} {l : List Sp} : Rt (s :: l) ↔ s.1 < s.2 ∧ (∀ t ∈ l, s.2 < t.1) ∧ Rt l := by
  unfold Rt
  rw [List.pairwise_cons]
  constructor
  · rintro ⟨h1, h2, h3⟩
    exact ⟨h1 s (by simp), h2, fun t ht => h1 t (by simp [ht]), h3⟩
  · rintro ⟨h1, h2, h3, h4⟩
    refine ⟨fun t ht => ?_, h2, h4⟩
    rcases List.mem_cons.1 ht with rfl | h
    · exact h1
    · exact h3 t h
theorem Rt.snoc {s : Sp} {l : List Sp} : Rt (l ++ [s]) ↔ Rt l ∧ s.1 < s.2 ∧ ∀ t ∈ l, t.2 < s.1 := by
  unfold Rt
  rw [List.pairwise_append]
  constructor
  · rintro ⟨h1, h2, -, h3⟩
    exact ⟨⟨fun t ht => h1 t (by simp [ht]), h2⟩, h1 s (by simp), fun t ht => h3 t ht s (by simp)⟩
  · rintro ⟨⟨h1, h2⟩, h3, h4⟩
    refine ⟨fun t ht => ?_, h2, List.pairwise_singleton _ _, fun t ht u hu => ?_⟩
    · rcases List.mem_append.1 ht with h | h
      · exact h1 t h
      · rw [List.mem_singleton.1 h]; exact h3
    · rw [List.mem_singleton.1 hu]; exact h4 t ht

/-- A right row is told by what is in it. -/
theorem Rt.eq : ∀ {a b : List Sp}, Rt a → Rt b → (∀ x, InS a x ↔ InS b x) → a = b
  | [], [], _, _, _ => rfl
  | [], t :: b, _, hb, h => by
    have := (h t.1).2 (InS.cons.2 (.inl ⟨Int.le_refl _, (Rt.cons.1 hb).1⟩))
    exact absurd this InS.nil
  | s :: a, [], ha, _, h => by
    have := (h s.1).1 (InS.cons.2 (.inl ⟨Int.le_refl _, (Rt.cons.1 ha).1⟩))
    exact absurd this InS.nil
  | s :: a, t :: b, ha, hb, h => by
    obtain ⟨a1, a2, a3⟩ := Rt.cons.1 ha
    obtain ⟨b1, b2, b3⟩ := Rt.cons.1 hb
    have ga : ∀ x, InS a x → s.2 < x := by rintro x ⟨u, hu, h1, _⟩; have := a2 u hu; omega
    have gb : ∀ x, InS b x → t.2 < x := by rintro x ⟨u, hu, h1, _⟩; have := b2 u hu; omega
    have k : ∀ x, ((s.1 ≤ x ∧ x < s.2) ∨ InS a x) ↔ ((t.1 ≤ x ∧ x < t.2) ∨ InS b x) := fun x => by rw [← InS.cons, ← InS.cons]; exact h x
    have e1 : s.1 = t.1 := by
      have h1 : t.1 ≤ s.1 := by
        rcases (k s.1).1 (.inl ⟨Int.le_refl _, a1⟩) with h | h
        · exact h.1
        · have := gb _ h; omega
      have h2 : s.1 ≤ t.1 := by
        rcases (k t.1).2 (.inl ⟨Int.le_refl _, b1⟩) with h | h
        · exact h.1
        · have := ga _ h; omega
      omega
    have e2 : s.2 = t.2 := by
      have h1 : ¬ s.2 < t.2 := fun hlt => by
        rcases (k s.2).2 (.inl ⟨by omega, hlt⟩) with h | h
        · omega
        · have := ga _ h; omega
      have h2 : ¬ t.2 < s.2 := fun hlt => by
        rcases (k t.2).1 (.inl ⟨by omega, hlt⟩) with h | h
        · omega
        · have := gb _ h; omega
      omega
    have e : s = t := Prod.ext e1 e2
    subst e
    congr 1
    refine Rt.eq a3 b3 fun x => ?_
    have kx := k x
    constructor
    · intro hx
      have := ga x hx
      rcases kx.1 (.inr hx) with h | h
      · omega
      · exact h
    · intro hx
      have := gb x hx
      rcases kx.2 (.inr hx) with h | h
      · omega
      · exact h

theorem Rt.none {a : List Sp} (h : Rt a) (hn : ∀ x, ¬ InS a x) : a = [] :=
  Rt.eq h Rt.nil fun x => ⟨fun hx => absurd hx (hn x), fun hx => absurd hx InS.nil⟩

/-! ### Steps -/
theorem Rt.put {r : List Sp} {s : Sp} (h : Rt r) (h1 : s.1 < s.2) (h2 : ∀ t ∈ r, t.2 < s.1) : Rt (r ++ [s]) := Rt.snoc.2 ⟨h, h1, h2⟩
/-- The last one goes on. -/
theorem Rt.more {r : List Sp} {t : Sp} {e : Int} (h : Rt (r ++ [t])) (h1 : t.2 ≤ e) : Rt (r ++ [(t.1, e)]) := by
  obtain ⟨h2, h3, h4⟩ := Rt.snoc.1 h
  exact Rt.snoc.2 ⟨h2, by show t.1 < e; omega, h4⟩
theorem Rt.last {r : List Sp} {t : Sp} (h : Rt (r ++ [t])) {u : Sp} (hu : u ∈ r ++ [t]) : u.2 ≤ t.2 := by
  obtain ⟨h2, h3, h4⟩ := Rt.snoc.1 h
  rcases List.mem_append.1 hu with h | h
  · have := h4 u h; omega
  · rw [List.mem_singleton.1 h]; omega

/-! ### How many -/
def sumS (l : List Sp) : Int := (l.map fun s => s.2 - s.1).foldr (· + ·) 0
theorem sumS_cons {s : Sp} {l : List Sp} : sumS (s :: l) = (s.2 - s.1) + sumS l := rfl

def cnt (p : Int → Bool) (lo : Int) (n : Nat) : Int := ((List.range n).countP fun (i : Nat) => p (lo + i))
theorem cnt_succ {p : Int → Bool} {lo : Int} {n : Nat} : cnt p lo (n + 1) = cnt p lo n + (if p (lo + n) then 1 else 0) := by
  unfold cnt
  rw [List.range_succ, List.countP_append]
  simp only [List.countP_cons, List.countP_nil]
  split <;> simp
theorem cnt_or {p q : Int → Bool} {lo : Int} (h : ∀ x, ¬ (p x = true ∧ q x = true)) : ∀ {n : Nat}, cnt (fun x => p x || q x) lo n = cnt p lo n + cnt q lo n
  | 0 => rfl
  | n + 1 => by
    rw [cnt_succ, cnt_succ, cnt_succ, cnt_or h]
    have := h (lo + n)
    cases hp : p (lo + n) <;> cases hq : q (lo + n) <;> simp [hp, hq] at this ⊢ <;> omega
theorem cnt_congr {p q : Int → Bool} {lo : Int} {n : Nat} (h : ∀ x, p x = q x) : cnt p lo n = cnt q lo n := by
  have : p = q := funext h
  rw [this]
theorem cnt_none {lo : Int} : ∀ {n : Nat}, cnt (fun _ => false) lo n = 0
  | 0 => rfl
  | n + 1 => by rw [cnt_succ, cnt_none]; rfl
theorem cnt_span {a b lo : Int} (h1 : lo ≤ a) (h2 : a ≤ b) : ∀ {n : Nat}, b ≤ lo + n → cnt (fun x => decide (a ≤ x) && decide (x < b)) lo n = b - a := by
  have key : ∀ n : Nat, cnt (fun x => decide (a ≤ x) && decide (x < b)) lo n = (if lo + n ≤ a then 0 else if lo + n ≤ b then lo + n - a else b - a) := by
    intro n
    induction n with
    | zero =>
      show (0 : Int) = _
      rw [if_pos (by omega)]
    | succ n ih =>
      rw [cnt_succ, ih]
      by_cases c1 : a ≤ lo + n
      · by_cases c2 : lo + n < b
        · simp only [c1, c2, decide_true, Bool.and_self, if_true]
          rw [if_neg (show ¬ lo + ((n + 1 : Nat) : Int) ≤ a by omega), if_pos (show lo + ((n + 1 : Nat) : Int) ≤ b by omega)]
          by_cases c3 : lo + (n : Int) ≤ a
          · rw [if_pos c3]; omega
          · rw [if_neg c3, if_pos (by omega)]; omega
        · simp only [c1, c2, decide_true, decide_false, Bool.and_false, Bool.false_eq_true, if_false]
          rw [if_neg (show ¬ lo + ((n + 1 : Nat) : Int) ≤ a by omega), if_neg (show ¬ lo + ((n + 1 : Nat) : Int) ≤ b by omega)]
          by_cases c3 : lo + (n : Int) ≤ a
          · rw [if_pos c3]; omega
          · rw [if_neg c3]
            by_cases c4 : lo + (n : Int) ≤ b
            · rw [if_pos c4]; omega
            · rw [if_neg c4]; omega
      · simp only [c1, decide_false, Bool.false_and, Bool.false_eq_true, if_false]
        rw [if_pos (show lo + (n : Int) ≤ a by omega), if_pos (show lo + ((n + 1 : Nat) : Int) ≤ a by omega)]
        omega
  intro n h
  rw [key]
  by_cases c : lo + (n : Int) ≤ a
  · rw [if_pos c]; omega
  · rw [if_neg c]
    by_cases c2 : lo + (n : Int) ≤ b
    · rw [if_pos c2]; omega
    · rw [if_neg c2]

theorem Rt.cnt {lo : Int} {n : Nat} : ∀ {l : List Sp}, Rt l → (∀ s ∈ l, lo ≤ s.1 ∧ s.2 ≤ lo + n) → cnt (hasS l) lo n = sumS l
  | [], _, _ => by
    rw [show sumS [] = 0 from rfl, ← cnt_none (lo := lo) (n := n)]
    exact cnt_congr fun x => rfl
  | s :: l, h, hb => by
    obtain ⟨h1, h2, h3⟩ := Rt.cons.1 h
    have hs := hb s (by simp)
    rw [sumS_cons, ← Rt.cnt h3 (fun t ht => hb t (by simp [ht])), ← cnt_span hs.1 (by omega) hs.2, ← cnt_or]
    · exact cnt_congr fun x => by unfold hasS; rw [List.any_cons]
    · rintro x ⟨h4, h5⟩
      simp only [Bool.and_eq_true, decide_eq_true_eq] at h4
      obtain ⟨t, ht, h6, h7⟩ := hasS_iff.1 h5
      have := h2 t ht
      omega

theorem bounds : ∀ (l : List Sp), ∃ lo : Int, ∃ n : Nat, ∀ s ∈ l, lo ≤ s.1 ∧ s.2 ≤ lo + n
  | [] => ⟨0, 0, by simp⟩
  | s :: l => by
    obtain ⟨lo, n, h⟩ := bounds l
    refine ⟨min lo s.1, (max (lo + n) s.2 - min lo s.1).toNat, fun t ht => ?_⟩
    rcases List.mem_cons.1 ht with rfl | ht
    · omega
    · have := h t ht; omega

/-- Two rows with nothing in common: as many as both. -/
theorem Rt.sum {a b c : List Sp} (ha : Rt a) (hb : Rt b) (hc : Rt c) (h : ∀ x, InS c x ↔ InS a x ∨ InS b x) (hd : ∀ x, ¬ (InS a x ∧ InS b x)) : sumS a + sumS b = sumS c := by
  obtain ⟨lo, n, hx⟩ := bounds (a ++ (b ++ c))
  rw [← ha.cnt (lo := lo) (n := n) (fun s hs => hx s (by simp [hs])), ← hb.cnt (lo := lo) (n := n) (fun s hs => hx s (by simp [hs])), ← hc.cnt (lo := lo) (n := n) (fun s hs => hx s (by simp [hs])), ← cnt_or]
  · refine (cnt_congr fun x => ?_).symm
    rw [Bool.eq_iff_iff, Bool.or_eq_true, hasS_iff, hasS_iff, hasS_iff]; exact h x
  · rintro x ⟨h1, h2⟩
    exact hd x ⟨hasS_iff.1 h1, hasS_iff.1 h2⟩

end Go.Am


/- OrderD over the table of chain (relayset.py). -/
set_option linter.unusedVariables false
set_option linter.unusedSimpArgs false
namespace Go.Am
abbrev inR (n : Int) : Prop := -9223372036854775808 ≤ n ∧ n ≤ 9223372036854775807

theorem wrap_hi {x : Int} (h1 : 9223372036854775808 ≤ x) (h2 : x ≤ 18446744073709551614) : IntKind.wrap .i64 x = x - 18446744073709551616 := by
  have e : IntKind.wrap .i64 x = IntKind.wrap .i64 (x - 18446744073709551616) := by
    unfold IntKind.wrap
    simp [IntKind.bits, IntKind.signed]
  rw [e, wrap_i64 (by omega) (by omega)]
theorem wrap_lo {x : Int} (h1 : x ≤ -9223372036854775809) (h2 : -18446744073709551616 ≤ x) : IntKind.wrap .i64 x = x + 18446744073709551616 := by
  have e : IntKind.wrap .i64 x = IntKind.wrap .i64 (x + 18446744073709551616) := by
    unfold IntKind.wrap
    simp [IntKind.bits, IntKind.signed]
  rw [e, wrap_i64 (by omega) (by omega)]

/-- All shares together; none: it runs over. -/
def totO (n : Int) : List Sp → Option Int
  | [] => some n
  | w :: r => if inR (n + w.2) then totO (n + w.2) r else none

/-- What is wrong with the first one that is not right. -/
noncomputable def chkF (f : Int) (pre : List Sp) : List Sp → Int
  | [] => 0
  | w :: r => open Classical in if ¬ isU w.1 then 20 else if w.2 < 1 ∨ f < w.2 then 21 else if ∃ p ∈ pre, p.1 = w.1 then 11 else chkF f (pre ++ [w]) r
end Go.Am


/- Cuts of slices. -/
set_option linter.unusedVariables false
set_option linter.unusedSimpArgs false
namespace Go.Am

/-- A slice that may be cut. -/
def Cut (u : Nat) (m : Mem) (v : Value) : Prop := ∀ b o n c, v = .slice (some ⟨b, o, none⟩) n c → unitOk u m b = true
theorem Cutable.cut {u : Nat} {m : Mem} {v : Value} (h : Cutable m v) : Cut u m v := fun b o n c e => by subst e; exact h.unit
theorem Own.cut {m0 m : Mem} {u n : Nat} {cs : List Value} {v : Value} (h : Own m0 m u n cs v) : Cut u m v := by
  intro b o n' c e
  cases h with
  | nil => cases e
  | «at» hb hb2 hn hm hl hcs h1 => cases e; exact unitOk_own hm
theorem Cut.keep {u : Nat} {m m' : Mem} {v : Value} (h : Cut u m v) (hb : SlLt m v) (hx : Ext m m') : Cut u m' v := by
  intro b o n c e
  have := h b o n c e
  subst e
  unfold unitOk at this ⊢
  rw [hx.same b hb]; exact this

theorem aCells_split {m : Mem} {b o n k : Nat} {cs : List Value} (h : aCells m b o n = some cs) (hk : k ≤ n) : aCells m b o k = some (cs.take k) ∧ aCells m b (o + k) (n - k) = some (cs.drop k) := by
  unfold aCells at h ⊢
  split at h
  · rename_i c w hm
    split at h
    · rename_i hle
      cases h
      constructor
      · rw [if_pos (by omega), List.take_take, Nat.min_eq_left hk]
      · rw [if_pos (by omega), ← List.drop_drop, List.drop_take]
    · cases h
  · cases h

theorem Sl.to {m : Mem} {u n : Nat} {cs : List Value} {v : Value} (h : Sl m u n cs v) (hc : Cut u m v) {k : IntKind} {i : Nat} (hi : i ≤ n) :
    ∃ v', aSub u m v none (some (.int k i)) none = some v' ∧ Sl m u i (cs.take (i * u)) v' ∧ (SlLt m v → SlLt m v') ∧ Cut u m v' := by
  cases h with
  | nil h hcs =>
    subst hcs
    have : i = 0 := by omega
    subst this
    exact ⟨.slice none 0 0, rfl, .nil rfl (by simp), id, fun _ _ _ _ e => by cases e⟩
  | @«at» b o c hnc h =>
    have hu := hc b o n c rfl
    refine ⟨.slice (some ⟨b, o, none⟩) i c, sub_to hu (by omega), .at (by omega) (aCells_split h (Nat.mul_le_mul_right _ hi)).1, id, fun _ _ _ _ e => by cases e; exact hu⟩

theorem Sl.from {m : Mem} {u n : Nat} {cs : List Value} {v : Value} (h : Sl m u n cs v) (hc : Cut u m v) {k : IntKind} {i : Nat} (hi : i ≤ n) :
    ∃ v', aSub u m v (some (.int k i)) none none = some v' ∧ Sl m u (n - i) (cs.drop (i * u)) v' ∧ (SlLt m v → SlLt m v') ∧ Cut u m v' := by
  cases h with
  | nil h hcs =>
    subst hcs
    have : i = 0 := by omega
    subst this
    exact ⟨.slice none 0 0, rfl, .nil (by omega) (by simp), id, fun _ _ _ _ e => by cases e⟩
  | @«at» b o c hnc h =>
    have hu := hc b o n c rfl
    refine ⟨.slice (some ⟨b, o + i * u, none⟩) (n - i) (c - i), sub_from hu hi hnc, .at (by omega) ?_, id, fun _ _ _ _ e => by cases e; exact hu⟩
    rw [Nat.sub_mul]
    exact (aCells_split h (Nat.mul_le_mul_right _ hi)).2

end Go.Am


/- One's own slice whose first block is older than what else is there: only that block, and newer ones, are touched. -/
set_option linter.unusedVariables false
set_option linter.unusedSimpArgs false
namespace Go.Am

theorem app_updA {at_ : Option Nat} {u by_ M : Nat} {m m' : Mem} {v v' x : Value} (h : aApp at_ u by_ m v x = some (v', m')) (ha : ∀ k, at_ = some k → M ≤ k) (hM : M ≤ m.next) :
    m.next ≤ m'.next ∧ (∀ b, b < M → b ∉ vb v → m'.blk b = m.blk b) ∧ (vb v' = vb v ∨ ∃ k, vb v' = [k] ∧ M ≤ k) := by
  have hpl : ∀ (m1 : Mem) (o : AObj), m1.next = m.next → m.next ≤ (place at_ m1 o).2.next ∧ (∀ b, b < M → (place at_ m1 o).2.blk b = m1.blk b) ∧ M ≤ (place at_ m1 o).1 := by
    intro m1 o h1
    unfold place
    split
    · refine ⟨by show m.next ≤ m1.next + 1; omega, fun b hb => ?_, by show M ≤ m1.next; omega⟩
      show (if b = m1.next then _ else _) = _
      rw [if_neg (by omega)]
    · rename_i k
      have := ha k rfl
      refine ⟨by show m.next ≤ m1.next; omega, fun b hb => ?_, this⟩
      show (if b = k then _ else _) = _
      rw [if_neg (by omega)]
  unfold aApp at h
  rw [Option.bind_eq_some_iff] at h
  obtain ⟨n, hn, h⟩ := h
  rw [Option.bind_eq_some_iff] at h
  obtain ⟨xs, hxs, h⟩ := h
  split at h
  · split at h
    · cases h; exact ⟨Nat.le_refl _, fun _ _ _ => rfl, .inl rfl⟩
    · split at h
      · obtain ⟨p1, p2, p3⟩ := hpl m (.cells xs (some u)) rfl
        generalize place at_ m (.cells xs (some u)) = P at h p1 p2 p3
        obtain ⟨b, m1⟩ := P
        cases h
        exact ⟨p1, fun b hb _ => p2 b hb, .inr ⟨_, rfl, p3⟩⟩
      · cases h
  · rename_i b o l c
    split at h
    · split at h
      · cases h; exact ⟨Nat.le_refl _, fun _ _ _ => rfl, .inl rfl⟩
      · cases h
    · split at h
      · rw [Option.map_eq_some_iff] at h
        obtain ⟨m1, h1, h2⟩ := h
        cases h2
        obtain ⟨a1, a2⟩ := aWrite_upd h1
        refine ⟨by omega, fun x hx hn => ?_, .inl rfl⟩
        exact a1.same x (by omega) hn
      · split at h
        · rename_i cs own hb
          split at h
          · have hs : ∀ c : Bool, (if c = true then m.set b none else m).next = m.next ∧ ∀ x, x ≠ b → (if c = true then m.set b none else m).blk x = m.blk x := by
              intro c
              cases c
              · exact ⟨rfl, fun _ _ => rfl⟩
              · refine ⟨rfl, fun x hx => ?_⟩
                show (if x = b then _ else _) = _
                rw [if_neg hx]
            simp only [] at h
            generalize hm1 : (if own.isSome = true ∧ o + c * u = cs.length then m.set b none else m) = m1 at h
            have hs1 : m1.next = m.next ∧ ∀ x, x ≠ b → m1.blk x = m.blk x := by
              rw [← hm1]
              split
              · exact hs true
              · exact hs false
            obtain ⟨p1, p2, p3⟩ := hpl m1 (.cells (List.take (l * u) (List.drop o cs) ++ xs) (some u)) hs1.1
            generalize place at_ m1 (.cells (List.take (l * u) (List.drop o cs) ++ xs) (some u)) = P at h p1 p2 p3
            obtain ⟨b', m2⟩ := P
            cases h
            refine ⟨p1, fun x hx hn => ?_, .inr ⟨_, rfl, p3⟩⟩
            rw [p2 x hx, hs1.2 x (by intro e; apply hn; simp [vb, e])]
          · cases h
        · cases h
  · cases h

theorem Own.ge {m0 m : Mem} {u n : Nat} {cs : List Value} {v : Value} (h : Own m0 m u n cs v) : ∀ b ∈ vb v, m0.next ≤ b := by
  cases h with
  | nil => intro b hb; simp [vb] at hb
  | «at» hb hb2 hn hm hl hcs h1 => intro b' hb'; simp [vb] at hb'; subst hb'; exact hb

structure OwnQ (m0 mb m : Mem) (q u n : Nat) (cs : List Value) (v : Value) : Prop where
  own : Own m0 m u n cs v
  upd : Upd mb m [q]
  at_ : ∀ b ∈ vb v, b = q ∨ mb.next ≤ b
  ext : Ext m0 m

variable {m0 mb m m' : Mem} {q u n : Nat} {cs : List Value} {v : Value}
theorem OwnQ.keep (h : OwnQ m0 mb m q u n cs v) (hx : Ext m m') : OwnQ m0 mb m' q u n cs v :=
  ⟨h.own.keep hx, h.upd.trans hx.upd (fun _ h => h) (fun _ h => .inl h), h.at_, h.ext.trans hx⟩

theorem OwnQ.app {by_ : Nat} {es : List Value} (h : OwnQ m0 mb m q u n cs v) (hu : 0 < u) (he : es.length = u) (h1 : oneCells es = true) (hby : (n + 1) * by_ ≤ 2 ^ 47) (hn : n + 1 < 2 ^ 62) :
    ∃ v' m', aApp none u by_ (m.new (.cells es (some u))) v (.slice (some ⟨m.next, 0, none⟩) 1 1) = some (v', m') ∧ OwnQ m0 mb m' q u (n + 1) (cs ++ es) v' := by
  obtain ⟨v', m', e1, e2, e3⟩ := h.own.app (by_ := by_) h.ext hu he h1 hby hn
  have hx : Ext m (m.new (.cells es (some u))) := Ext.new
  obtain ⟨a1, a2, a3⟩ := app_updA (M := (m.new (.cells es (some u))).next) e1 (fun k hk => by cases hk) (Nat.le_refl _)
  refine ⟨v', m', e1, e2, ?_, fun b hb => ?_, e3⟩
  · have hk := h.keep hx
    refine ⟨Nat.le_trans hk.upd.next a1, fun b hb hn => ?_⟩
    have hb2 := hk.upd.next
    rw [a2 b (by omega) (fun hm => by exact (h.at_ b hm).elim (fun e => hn (by simp [e])) (fun e => by omega)), hk.upd.same b hb hn]
  · have := h.upd.next
    have := hx.next
    rcases a3 with e | ⟨k, e, hk⟩
    · rw [e] at hb; exact h.at_ b hb
    · rw [e] at hb; simp at hb; subst hb; exact .inr (by omega)

theorem OwnQ.put {w : Value} {k : IntKind} {i o : Nat} (h : OwnQ m0 mb m q u n cs v) (hi : i < n) (ho : o < u) (hw : w.cells = #[w]) (hone : w.oneCell' = true) :
    ∃ b m', aIdxS u v (.int k i) = some (.pointer (some ⟨b, i * u, none⟩)) ∧ aStore 1 m (.pointer (some ⟨b, i * u + o, none⟩)) w = some m' ∧ OwnQ m0 mb m' q u n (cs.set (i * u + o) w) v := by
  obtain ⟨b, m', e1, e2, e3, e4⟩ := h.own.put (k := k) h.ext hi ho hw hone
  refine ⟨b, m', e1, e2, e3, ?_, h.at_, e4⟩
  have hbv : b ∈ vb v := by
    cases h.own with
    | nil h hc => omega
    | @«at» b2 c all hb hb2 hn hm hl hcs h1 =>
      simp only [aIdxS] at e1
      split at e1
      · have e1 := Option.some.inj e1
        simp only [Value.pointer.injEq, Option.some.injEq, Addr.mk.injEq] at e1
        rw [← e1.1]; simp [vb]
      · cases e1
  have hw' : aWrite m b (i * u + o) w.cells.toList = some m' := by
    simp only [aStore] at e2
    split at e2
    · exact e2
    · cases e2
  obtain ⟨a1, a2⟩ := aWrite_upd hw'
  refine ⟨by have := h.upd.next; omega, fun x hx hn => ?_⟩
  have := h.upd.next
  rw [a1.same x (by omega) (by simp; intro e; subst e; exact (h.at_ x hbv).elim (fun e => hn (by simp [e])) (fun e => by omega)), h.upd.same x hx hn]
end Go.Am


/- OrderW over the table of chain (relayset.py). -/
set_option linter.unusedVariables false
set_option linter.unusedSimpArgs false
namespace Go.Am
variable {m : Mem}

theorem fixAdd {a b : Int} (ha : inR a) (hb : inR b) : WC R F.fixq_Add [.int .i64 a, .int .i64 b] m fun v m' => ((inR (a + b) ∧ v = .tuple #[.int .i64 (a + b), .int .i64 0]) ∨ (¬ inR (a + b) ∧ v = .tuple #[.int .i64 0, .int .i64 5])) ∧ m' = m := by
  refine WC.of R.fixq_Add rfl ?_
  have hw : (inR (a + b) ∧ IntKind.wrap .i64 (a + b) = a + b) ∨ (9223372036854775808 ≤ a + b ∧ IntKind.wrap .i64 (a + b) = a + b - 18446744073709551616) ∨ (a + b ≤ -9223372036854775809 ∧ IntKind.wrap .i64 (a + b) = a + b + 18446744073709551616) := by
    unfold inR at ha hb
    by_cases h1 : a + b ≤ 9223372036854775807
    · by_cases h2 : -9223372036854775808 ≤ a + b
      · exact .inl ⟨⟨h2, h1⟩, wrap_i64 h2 h1⟩
      · exact .inr (.inr ⟨by omega, wrap_lo (by omega) (by omega)⟩)
    · exact .inr (.inl ⟨by omega, wrap_hi (by omega) (by omega)⟩)
  generalize hc : IntKind.wrap .i64 (a + b) = c at hw
  unfold inR at *
  simp only [RC.fixq_Add, go_sem]
  have t1 : (true == false) = false := rfl
  have t2 : (false == true) = false := rfl
  have t3 : (true == true) = true := rfl
  have t4 : (false == false) = true := rfl
  by_cases h1 : 0 ≤ a <;> by_cases h2 : 0 ≤ b <;> by_cases h3 : 0 ≤ c <;> simp only [go_sem, hc, h1, h2, h3, decide_true, decide_false, t1, t2, t3, t4]
  all_goals rcases hw with ⟨hr, e⟩ | ⟨hr, e⟩ | ⟨hr, e⟩
  all_goals first
    | (exfalso; omega)
    | (refine .inl ⟨by omega, ?_⟩; rw [e])
    | (refine .inr ⟨by omega, ?_⟩; first | rfl | trivial)
    | (omega)
    | trace_state

theorem refAdd {a b : Int} (ha : inR a) (hb : inR b) : WC R F.ref02_Add [.int .i64 a, .int .i64 b] m fun v m' => ((inR (a + b) ∧ v = .tuple #[.int .i64 (a + b), .bool true]) ∨ (¬ inR (a + b) ∧ v = .tuple #[.int .i64 0, .bool false])) ∧ m' = m := by
  refine WC.of R.ref02_Add rfl ?_
  unfold inR at *
  simp only [RC.ref02_Add, go_sem]
  by_cases h1 : 0 < b
  · have e1 : decide (0 < b) = true := decide_eq_true h1
    have w : IntKind.wrap .i64 (9223372036854775807 - b) = 9223372036854775807 - b := wrap_i64 (by omega) (by omega)
    have e0 : decide (b < 0) = false := decide_eq_false (by omega)
    simp only [go_sem, e1, w]
    by_cases h2 : 9223372036854775807 - b < a
    · have e2 : decide (9223372036854775807 - b < a) = true := decide_eq_true h2
      simp only [go_sem, e2]
      exact .inr (by omega)
    · have e2 : decide (9223372036854775807 - b < a) = false := decide_eq_false h2
      simp only [go_sem, e2, e0]
      rw [wrap_i64 (by omega) (by omega)]
      exact .inl (by simp; omega)
  · have e1 : decide (0 < b) = false := decide_eq_false h1
    simp only [go_sem, e1]
    by_cases h3 : b < 0
    · have w : IntKind.wrap .i64 (-9223372036854775808 - b) = -9223372036854775808 - b := wrap_i64 (by omega) (by omega)
      have e0 : decide (b < 0) = true := decide_eq_true h3
      simp only [go_sem, e0, w]
      by_cases h2 : a < -9223372036854775808 - b
      · have e2 : decide (a < -9223372036854775808 - b) = true := decide_eq_true h2
        simp only [go_sem, e2]
        exact .inr (by omega)
      · have e2 : decide (a < -9223372036854775808 - b) = false := decide_eq_false h2
        simp only [go_sem, e2]
        rw [wrap_i64 (by omega) (by omega)]
        exact .inl (by simp; omega)
    · have e0 : decide (b < 0) = false := decide_eq_false h3
      simp only [go_sem, e0]
      rw [wrap_i64 (by omega) (by omega)]
      exact .inl (by simp; omega)

theorem totO_drop {l : List Sp} {i : Nat} (hi : i < l.length) {n : Int} : totO n (l.drop i) = if inR (n + l[i].2) then totO (n + l[i].2) (l.drop (i + 1)) else none := by
  rw [List.drop_eq_getElem_cons hi]; rfl

theorem orTotal {l : List Sp} {v : Value} (hs : Sl m 2 l.length (l.flatMap spV) v) (hb : SlLt m v) (hl : l.length < 100000) (hr : ∀ w ∈ l, inR w.2) :
    WC R F.order_Total [v] m fun r m' => ((∃ n, totO 0 l = some n ∧ r = .tuple #[.int .i64 n, .int .i64 0]) ∨ (totO 0 l = none ∧ r = .tuple #[.int .i64 0, .int .i64 5])) ∧ Ext m m' := by
  refine WC.of R.order_Total rfl ?_
  simp only [RC.order_Total, go_sem, hs.len]
  refine WL.of (fun k e m' => ∃ (i : Nat) (n : Int), i ≤ l.length ∧ k = l.length - i ∧ e = [(4, .int .i64 n), (9, v), (10, .int .i64 l.length), (11, .int .i64 i)] ∧ inR n ∧ totO 0 l = totO n (l.drop i) ∧ Ext m m') l.length
    ⟨0, 0, by omega, by omega, by simp only [go_sem] <;> rfl, by unfold inR; omega, rfl, Ext.refl _⟩ ?_
  rintro _ _ m1 ⟨i, n, hi, rfl, rfl, hn, ht, hx⟩
  simp only [RB.order_Total_1, go_sem]
  refine gT.of (fun g1' => ?_) (fun g1' => ?_) <;> (have g1 := g1'; try simp only [decide_eq_true_eq, decide_eq_false_iff_not, beq_iff_eq, bne_iff_ne, beq_eq_false_iff_ne, ne_eq, Bool.not_eq_true', Bool.not_eq_false', bne_eq_false_iff_eq, Int.not_lt, Int.not_le] at g1)
  · have hil : i < l.length := by omega
    have s1 := step1 (show i < 1000000 by omega)
    obtain ⟨p, o, a1, a2, -, -⟩ := (hs.keep hb hx).elem spV_len (k := .i64) hil
    have hri := hr _ (List.getElem_mem hil)
    rw [totO_drop hil] at ht
    simp only [go_sem, g1', a1, a2]
    generalize l[i] = w at hri ht ⊢
    have hst : aStore 2 (m1.new (.cells [(.int .i64 0), (.int .i64 0)] (some 2))) (.pointer (some ⟨m1.next, 0, none⟩)) (.agg (spV w).toArray) = some (m1.new (.cells [.int .i64 w.1, .int .i64 w.2] (some 2))) := by
      simp only [spV]
      simp only [go_sem, ruB]
    simp only [go_sem, hst]
    have hxx : Ext m1 (m1.new (.cells [.int .i64 w.1, .int .i64 w.2] (some 2))) := Ext.new
    have hbx : Bk (m1.new (.cells [.int .i64 w.1, .int .i64 w.2] (some 2))) m1.next [.int .i64 w.1, .int .i64 w.2] 2 := Bk.new
    generalize m1.new (.cells [.int .i64 w.1, .int .i64 w.2] (some 2)) = m2 at hbx hxx ⊢
    have c2 : aLoad false 1 m2 (.pointer (some ⟨m1.next, 1, none⟩)) = some (.int .i64 w.2) := by simp only [go_sem, ruB, hbx.at_]
    simp only [go_sem, c2]
    refine gC.of (fixAdd hn hri) ?_
    rintro _ _ ⟨⟨h1, rfl⟩ | ⟨h1, rfl⟩, hm⟩ <;> subst hm
    · rw [if_pos h1] at ht
      have e0 : ((0 : Int) != 0) = false := rfl
      simp only [go_sem, aExt0, aExt1, e0, s1]
      exact ⟨l.length - (i + 1), by omega, i + 1, n + w.2, by omega, rfl, rfl, h1, ht, hx.trans hxx⟩
    · rw [if_neg h1] at ht
      have e0 : ((5 : Int) != 0) = true := rfl
      simp only [go_sem, aExt0, aExt1, e0]
      exact ⟨.inr ht, hx.trans hxx⟩
  · have : i = l.length := by omega
    subst this
    rw [List.drop_length] at ht
    simp only [go_sem, g1']
    exact ⟨.inl ⟨n, ht, rfl⟩, hx⟩

theorem refTotal {l : List Sp} {v : Value} (hs : Sl m 2 l.length (l.flatMap spV) v) (hl : l.length < 100000) (hr : ∀ w ∈ l, inR w.2) :
    WC R F.ref08_Total [v] m fun r m' => ((∃ n, totO 0 l = some n ∧ r = .tuple #[.int .i64 n, .bool true]) ∨ (totO 0 l = none ∧ r = .tuple #[.int .i64 0, .bool false])) ∧ m' = m := by
  refine WC.of R.ref08_Total rfl ?_
  simp only [RC.ref08_Total, go_sem]
  refine WL.of (fun k e m' => ∃ (i : Nat) (n : Int), i ≤ l.length ∧ k = l.length - i ∧ m' = m ∧ e = [(0, v), (4, .int .i64 n), (5, .int .i64 i)] ∧ inR n ∧ totO 0 l = totO n (l.drop i)) l.length
    ⟨0, 0, by omega, by omega, rfl, by simp only [go_sem] <;> rfl, by unfold inR; omega, rfl⟩ ?_
  rintro _ _ _ ⟨i, n, hi, rfl, rfl, rfl, hn, ht⟩
  simp only [RB.ref08_Total_1, go_sem, hs.len]
  refine gT.of (fun g1' => ?_) (fun g1' => ?_) <;> (have g1 := g1'; try simp only [decide_eq_true_eq, decide_eq_false_iff_not, beq_iff_eq, bne_iff_ne, beq_eq_false_iff_ne, ne_eq, Bool.not_eq_true', Bool.not_eq_false', bne_eq_false_iff_eq, Int.not_lt, Int.not_le] at g1)
  · have hil : i < l.length := by omega
    have s1 := step1 (show i < 1000000 by omega)
    obtain ⟨p, o, a1, -, a3, -⟩ := hs.elem spV_len (k := .i64) hil
    have c2 : aLoad false 1 _ (.pointer (some ⟨p, o + 1, none⟩)) = some (.int .i64 l[i].2) := a3 1 (by omega)
    have hri := hr _ (List.getElem_mem hil)
    rw [totO_drop hil] at ht
    simp only [go_sem, g1', a1, c2]
    refine gC.of (refAdd hn hri) ?_
    rintro _ _ ⟨⟨h1, rfl⟩ | ⟨h1, rfl⟩, hm⟩ <;> subst hm
    · rw [if_pos h1] at ht
      simp only [go_sem, aExt0, aExt1, s1]
      exact ⟨l.length - (i + 1), by omega, i + 1, n + l[i].2, by omega, rfl, rfl, h1, ht⟩
    · rw [if_neg h1] at ht
      simp only [go_sem, aExt0, aExt1]
      exact .inr ht
  · have : i = l.length := by omega
    subst this
    rw [List.drop_length] at ht
    simp only [go_sem, g1']
    exact .inl ⟨n, ht, rfl⟩
end Go.Am


/- Maps whose keys are whole numbers. -/
set_option linter.unusedVariables false
namespace Go.Am
variable {α : Type}

def mpL (e : α → Value) (L : List (Int × α)) : List (Value × Value) := L.map fun p => (.int .i64 p.1, e p.2)
def lkp : List (Int × α) → Int → Option α
  | [], _ => none
  | (k, a) :: r, x => if k = x then some a else lkp r x
def updL : List (Int × α) → Int → α → List (Int × α)
  | [], x, a => [(x, a)]
  | (k, b) :: r, x, a => if k = x then (x, a) :: r else (k, b) :: updL r x a
def delL : List (Int × α) → Int → List (Int × α)
  | [], _ => []
  | (k, b) :: r, x => if k = x then r else (k, b) :: delL r x

theorem lkp_upd {L : List (Int × α)} {x y : Int} {a : α} : lkp (updL L x a) y = if y = x then some a else lkp L y := by
  induction L with
  | nil => simp only [updL, lkp]; by_cases h : x = y <;> simp [h]; intro e; exact absurd e.symm h
  | cons p r ih =>
    obtain ⟨k, b⟩ := p
    simp only [updL]
    by_cases h : k = x
    · subst h
      simp only [if_true, lkp]
      by_cases g : k = y
      · subst g; simp
      · rw [if_neg g, if_neg (fun e => g e.symm), if_neg g]
    · simp only [h, if_false, lkp]
      by_cases g : k = y
      · subst g; rw [if_pos rfl, if_neg h, if_pos rfl]
      · rw [if_neg g, ih, if_neg g]

theorem findK_mp {e : α → Value} {x : Int} : ∀ (L : List (Int × α)) (i : Nat), (lkp L x = none → findK .int (.int .i64 x) (mpL e L) i = some none ∧ ∀ a, mpL e L ++ [(.int .i64 x, e a)] = mpL e (updL L x a)) ∧
    ∀ a, lkp L x = some a → ∃ j, findK .int (.int .i64 x) (mpL e L) i = some (some (i + j, e a)) ∧ (∀ b, (mpL e L).set j (.int .i64 x, e b) = mpL e (updL L x b)) ∧ (mpL e L).eraseIdx j = mpL e (delL L x)
  | [], i => ⟨fun _ => ⟨rfl, fun a => rfl⟩, fun a h => by simp [lkp] at h⟩
  | (k, b) :: r, i => by
    by_cases h : k = x
    · subst h
      refine ⟨fun h => by simp [lkp] at h, fun a ha => ?_⟩
      simp only [lkp, if_true, Option.some.injEq] at ha
      subst ha
      refine ⟨0, ?_, fun b => ?_, ?_⟩
      · simp [mpL, findK, keyEq]
      · simp [mpL, updL]
      · simp [mpL, delL]
    · have hk : keyEq .int (.int .i64 x) (.int .i64 k) = some false := by simp [keyEq]; exact fun e => h e.symm
      have hf : findK .int (.int .i64 x) (mpL e ((k, b) :: r)) i = findK .int (.int .i64 x) (mpL e r) (i + 1) := by
        show (match keyEq .int (.int .i64 x) (.int .i64 k) with | some true => _ | some false => _ | none => _) = _
        rw [hk]; rfl
      obtain ⟨h1, h2⟩ := findK_mp (e := e) r (i + 1)
      refine ⟨fun hn => ?_, fun a ha => ?_⟩
      · simp only [lkp, h, if_false] at hn
        obtain ⟨g1, g2⟩ := h1 hn
        refine ⟨by rw [hf, g1], fun a => ?_⟩
        simp only [updL, h, if_false]
        show (.int .i64 k, e b) :: (mpL e r ++ _) = _
        rw [g2]; rfl
      · simp only [lkp, h, if_false] at ha
        obtain ⟨j, g1, g2, g3⟩ := h2 a ha
        refine ⟨j + 1, by rw [hf, g1]; congr 3; omega, fun c => ?_, ?_⟩
        · simp only [updL, h, if_false]
          show (.int .i64 k, e b) :: ((mpL e r).set j _) = _
          rw [g2]; rfl
        · simp only [delL, h, if_false]
          show (.int .i64 k, e b) :: ((mpL e r).eraseIdx j) = _
          rw [g3]; rfl

/-- A map that is there. -/
structure Mp (m : Mem) (r : Nat) (e : α → Value) (L : List (Int × α)) : Prop where
  at_ : m.blk r = some (.map (mpL e L))
  lt : r < m.next
theorem Mp.new {m : Mem} {e : α → Value} : Mp (m.new (.map [])) m.next e [] := ⟨by simp [Mem.new, mpL], by simp [Mem.new]⟩
theorem Mp.keep {m m' : Mem} {r : Nat} {e : α → Value} {L : List (Int × α)} (h : Mp m r e L) (hx : Ext m m') : Mp m' r e L := ⟨by rw [hx.same _ h.lt]; exact h.at_, Nat.lt_of_lt_of_le h.lt hx.next⟩
theorem Mp.upd {m m' : Mem} {r : Nat} {e : α → Value} {L : List (Int × α)} {fp : List Nat} (h : Mp m r e L) (hx : Upd m m' fp) (hn : r ∉ fp) : Mp m' r e L := ⟨by rw [hx.same _ h.lt hn]; exact h.at_, Nat.lt_of_lt_of_le h.lt hx.next⟩
theorem Mp.other {m : Mem} {r b : Nat} {e : α → Value} {L : List (Int × α)} {o : Option AObj} (h : Mp m r e L) (hn : r ≠ b) : Mp (m.set b o) r e L := ⟨by simp [Mem.set, hn]; exact h.at_, h.lt⟩
theorem Mp.self {m : Mem} {r : Nat} {e : α → Value} {L L' : List (Int × α)} (h : Mp m r e L) : Mp (m.set r (some (.map (mpL e L')))) r e L' := ⟨by simp [Mem.set], h.lt⟩

theorem Mp.look {m : Mem} {r : Nat} {e : α → Value} {L : List (Int × α)} (h : Mp m r e L) {x : Int} {z : α} : aLook .int (e z) false m (.map (some r)) (.int .i64 x) = some (e ((lkp L x).getD z)) := by
  simp only [aLook, h.at_, Option.bind_some]
  obtain ⟨h1, h2⟩ := findK_mp (e := e) (x := x) L 0
  cases hl : lkp L x with
  | none => rw [(h1 hl).1]; rfl
  | some a =>
    obtain ⟨j, g, -⟩ := h2 a hl
    rw [g]; rfl
theorem Mp.look_ok {m : Mem} {r : Nat} {e : α → Value} {L : List (Int × α)} (h : Mp m r e L) {x : Int} {z : α} : aLook .int (e z) true m (.map (some r)) (.int .i64 x) = some (.tuple #[e ((lkp L x).getD z), .bool (lkp L x).isSome]) := by
  simp only [aLook, h.at_, Option.bind_some]
  obtain ⟨h1, h2⟩ := findK_mp (e := e) (x := x) L 0
  cases hl : lkp L x with
  | none => rw [(h1 hl).1]; rfl
  | some a =>
    obtain ⟨j, g, -⟩ := h2 a hl
    rw [g]; rfl
theorem Mp.put {m : Mem} {r : Nat} {e : α → Value} {L : List (Int × α)} (h : Mp m r e L) {x : Int} {a : α} : aUpd .int m (.map (some r)) (.int .i64 x) (e a) = some (m.set r (some (.map (mpL e (updL L x a))))) := by
  simp only [aUpd, h.at_]
  obtain ⟨h1, h2⟩ := findK_mp (e := e) (x := x) L 0
  cases hl : lkp L x with
  | none => rw [(h1 hl).1]; simp only [Option.map_some]; rw [(h1 hl).2]
  | some b =>
    obtain ⟨j, g, g2, -⟩ := h2 b hl
    rw [g]; simp only [Option.map_some, Nat.zero_add]; rw [g2]
theorem Mp.del {m : Mem} {r : Nat} {e : α → Value} {L : List (Int × α)} (h : Mp m r e L) {x : Int} : ∃ L', L' = (if (lkp L x).isSome then delL L x else L) ∧ ∃ m', aDel .int m (.map (some r)) (.int .i64 x) = some m' ∧ Mp m' r e L' ∧ Upd m m' [r] := by
  refine ⟨_, rfl, ?_⟩
  simp only [aDel, h.at_]
  obtain ⟨h1, h2⟩ := findK_mp (e := e) (x := x) L 0
  cases hl : lkp L x with
  | none => rw [(h1 hl).1]; exact ⟨m, rfl, h, Upd.refl _ _⟩
  | some b =>
    obtain ⟨j, g, -, g3⟩ := h2 b hl
    rw [g]; simp only [Option.map_some, Nat.zero_add]
    rw [g3]
    exact ⟨_, rfl, h.self, Upd.set (by simp)⟩

end Go.Am


/- OrderW2 over the table of chain (relayset.py). -/
set_option linter.unusedVariables false
set_option linter.unusedSimpArgs false
namespace Go.Am
open Classical
variable {m : Mem}

theorem chkF_drop {f : Int} {l : List Sp} {i : Nat} (hi : i < l.length) : chkF f (l.take i) (l.drop i) = if ¬ isU l[i].1 then 20 else if l[i].2 < 1 ∨ f < l[i].2 then 21 else if ∃ p ∈ l.take i, p.1 = l[i].1 then 11 else chkF f (l.take (i + 1)) (l.drop (i + 1)) := by
  rw [List.drop_eq_getElem_cons hi, List.take_succ_eq_append_getElem hi]
  rfl

noncomputable def chkA (f : Int) (l : List Sp) : Int := if f < 2 ∨ 64 < f then 1 else chkF f [] l

theorem refCheck1_loop {l : List Sp} {v : Value} {f : Int} {i : Nat} (hs : Sl m 2 l.length (l.flatMap spV) v) (hl : l.length < 100000) (hil : i < l.length) :
    WL R [0, 1, 5, 6] RB.ref08_Check_1 [(0, .int .i64 f), (1, v), (5, .int .i64 i), (6, .int .i64 0)] m fun x e' m' =>
      m' = m ∧ ((x = .exit 2 ∧ (∃ rest, e' = (0, .int .i64 f) :: (1, v) :: (5, .int .i64 i) :: rest) ∧ ¬ ∃ p ∈ l.take i, p.1 = l[i].1) ∨ (x = .ret ∧ Env.get e' 4 = some (.int .i64 11) ∧ ∃ p ∈ l.take i, p.1 = l[i].1)) := by
  refine WL.of (fun n e m' => ∃ k : Nat, k ≤ i ∧ n = i - k ∧ m' = m ∧ e = [(0, .int .i64 f), (1, v), (5, .int .i64 i), (6, .int .i64 k)] ∧ ¬ ∃ p ∈ l.take k, p.1 = l[i].1) i
    ⟨0, by omega, by omega, rfl, by simp only [go_sem] <;> rfl, by simp⟩ ?_
  rintro _ _ _ ⟨k, hk, rfl, rfl, rfl, hno⟩
  simp only [RB.ref08_Check_1, go_sem]
  refine gT.of (fun g1' => ?_) (fun g1' => ?_) <;> (have g1 := g1'; try simp only [decide_eq_true_eq, decide_eq_false_iff_not, beq_iff_eq, bne_iff_ne, beq_eq_false_iff_ne, ne_eq, Bool.not_eq_true', Bool.not_eq_false', bne_eq_false_iff_eq, Int.not_lt, Int.not_le] at g1)
  · have hki : k < i := by omega
    have hkl : k < l.length := by omega
    have s1 := step1 (show k < 1000000 by omega)
    obtain ⟨p, o, a1, -, a3, -⟩ := hs.elem spV_len (k := .i64) hil
    have c1 : aLoad false 1 _ (.pointer (some ⟨p, o + 0, none⟩)) = some (.int .i64 l[i].1) := a3 0 (by omega)
    obtain ⟨p', o', b1, -, b3, -⟩ := hs.elem spV_len (k := .i64) hkl
    have d1 : aLoad false 1 _ (.pointer (some ⟨p', o' + 0, none⟩)) = some (.int .i64 l[k].1) := b3 0 (by omega)
    simp only [go_sem, g1', a1, b1, c1, d1]
    refine gT.of (fun g2' => ?_) (fun g2' => ?_) <;> (have g2 := g2'; try simp only [decide_eq_true_eq, decide_eq_false_iff_not, beq_iff_eq, bne_iff_ne, beq_eq_false_iff_ne, ne_eq, Bool.not_eq_true', Bool.not_eq_false', bne_eq_false_iff_eq, Int.not_lt, Int.not_le] at g2)
    · simp only [go_sem, g2']
      refine .inr ?_
      exact ⟨l[k], List.mem_take_iff_getElem.2 ⟨k, by omega, rfl⟩, g2⟩
    · simp only [go_sem, g2', s1]
      refine ⟨i - (k + 1), by omega, k + 1, by omega, rfl, rfl, ?_⟩
      rw [List.take_succ_eq_append_getElem hkl]
      rintro ⟨p, hp, e⟩
      rcases List.mem_append.1 hp with h | h
      · exact hno ⟨p, h, e⟩
      · rw [List.mem_singleton.1 h] at e; exact g2 e
  · have : k = i := by omega
    subst this
    simp only [go_sem, g1']
    exact .inl ⟨⟨_, rfl⟩, hno⟩

theorem refCheck {l : List Sp} {v : Value} {f : Int} (hs : Sl m 2 l.length (l.flatMap spV) v) (hl : l.length < 100000) :
    WC R F.ref08_Check [.int .i64 f, v] m fun r m' => r = .int .i64 (chkA f l) ∧ m' = m := by
  refine WC.of R.ref08_Check rfl ?_
  simp only [RC.ref08_Check, go_sem]
  by_cases h1 : f < 2
  · have e1 : decide (f < 2) = true := decide_eq_true h1
    simp only [go_sem, e1]
    rw [chkA, if_pos (.inl h1)]
  · have e1 : decide (f < 2) = false := decide_eq_false h1
    simp only [go_sem, e1]
    by_cases h2 : 64 < f
    · have e2 : decide (64 < f) = true := decide_eq_true h2
      simp only [go_sem, e2]
      rw [chkA, if_pos (.inr h2)]
    · have e2 : decide (64 < f) = false := decide_eq_false h2
      have hA : chkA f l = chkF f [] l := by rw [chkA, if_neg (by omega)]
      simp only [go_sem, e2]
      rw [hA]
      refine WL.of (fun n e m' => ∃ i : Nat, i ≤ l.length ∧ n = l.length - i ∧ m' = m ∧ e = [(0, .int .i64 f), (1, v), (5, .int .i64 i)] ∧ chkF f [] l = chkF f (l.take i) (l.drop i)) l.length
        ⟨0, by omega, by omega, rfl, by simp only [go_sem] <;> rfl, rfl⟩ ?_
      rintro _ _ _ ⟨i, hi, rfl, rfl, rfl, hc⟩
      simp only [RB.ref08_Check_2, go_sem, hs.len]
      refine gT.of (fun g1' => ?_) (fun g1' => ?_) <;> (have g1 := g1'; try simp only [decide_eq_true_eq, decide_eq_false_iff_not, beq_iff_eq, bne_iff_ne, beq_eq_false_iff_ne, ne_eq, Bool.not_eq_true', Bool.not_eq_false', bne_eq_false_iff_eq, Int.not_lt, Int.not_le] at g1)
      · have hil : i < l.length := by omega
        have s1 := step1 (show i < 1000000 by omega)
        obtain ⟨p, o, a1, -, a3, -⟩ := hs.elem spV_len (k := .i64) hil
        have c1 : aLoad false 1 _ (.pointer (some ⟨p, o + 0, none⟩)) = some (.int .i64 l[i].1) := a3 0 (by omega)
        have c2 : aLoad false 1 _ (.pointer (some ⟨p, o + 1, none⟩)) = some (.int .i64 l[i].2) := a3 1 (by omega)
        rw [chkF_drop hil] at hc
        simp only [go_sem, g1', a1, c1]
        refine gC.of Is_spec ?_
        rintro _ _ ⟨⟨rfl, hu⟩ | ⟨rfl, hu⟩, hm⟩ <;> subst hm
        · rw [if_neg (by simpa using hu)] at hc
          simp only [go_sem, a1, c2]
          by_cases h3 : l[i].2 < 1
          · have e3 : decide (l[i].2 < 1) = true := decide_eq_true h3
            rw [if_pos (.inl h3)] at hc
            simp only [go_sem, e3]
            rw [hc]
          · have e3 : decide (l[i].2 < 1) = false := decide_eq_false h3
            simp only [go_sem, e3, a1, c2]
            by_cases h4 : f < l[i].2
            · have e4 : decide (f < l[i].2) = true := decide_eq_true h4
              rw [if_pos (.inr h4)] at hc
              simp only [go_sem, e4]
              rw [hc]
            · have e4 : decide (f < l[i].2) = false := decide_eq_false h4
              rw [if_neg (by omega)] at hc
              simp only [go_sem, e4]
              refine WL.mono (refCheck1_loop (f := f) hs hl hil) ?_
              rintro x e' m' ⟨rfl, ⟨rfl, ⟨rest, rfl⟩, hno⟩ | ⟨rfl, h4, hyes⟩⟩
              · rw [if_neg hno] at hc
                simp only [go_sem, s1]
                exact ⟨l.length - (i + 1), by omega, i + 1, by omega, rfl, rfl, hc⟩
              · rw [if_pos hyes] at hc
                simp only [go_sem, h4]
                rw [hc]
        · rw [if_pos hu] at hc
          simp only [go_sem]
          rw [hc]
      · have : i = l.length := by omega
        subst this
        rw [List.drop_length] at hc
        simp only [go_sem, g1']
        rw [hc]; rfl

theorem st0 {M : Mem} : aStore 0 (M.new (.cells [] (some 0))) (.pointer (some ⟨M.next, 0, none⟩)) (.agg #[]) = some (M.new (.cells [] (some 0))) := by
  have e : (#[] : Array Value) = [].toArray := rfl
  rw [e]
  simp only [go_sem, ruB]
def vU (_ : Unit) : Value := .agg #[]

set_option maxHeartbeats 2000000 in
theorem orCheck {l : List Sp} {v : Value} {f : Int} (hs : Sl m 2 l.length (l.flatMap spV) v) (hb : SlLt m v) (hl : l.length < 100000) :
    WC R F.order_Check [.int .i64 f, v] m fun r m' => r = .int .i64 (chkA f l) ∧ Ext m m' := by
  refine WC.of R.order_Check rfl ?_
  simp only [RC.order_Check, go_sem]
  by_cases h1 : f < 2
  · have e1 : decide (f < 2) = true := decide_eq_true h1
    simp only [go_sem, e1]
    rw [chkA, if_pos (.inl h1)]
    exact ⟨rfl, Ext.refl _⟩
  · have e1 : decide (f < 2) = false := decide_eq_false h1
    simp only [go_sem, e1]
    by_cases h2 : 64 < f
    · have e2 : decide (64 < f) = true := decide_eq_true h2
      simp only [go_sem, e2]
      rw [chkA, if_pos (.inr h2)]
      exact ⟨rfl, Ext.refl _⟩
    · have e2 : decide (64 < f) = false := decide_eq_false h2
      have hA : chkA f l = chkF f [] l := by rw [chkA, if_neg (by omega)]
      simp only [go_sem, e2, hs.len]
      rw [hA]
      have hx1 : Ext m (m.new (.map [])) := Ext.new
      have hM1 : Mp (m.new (.map [])) m.next vU [] := Mp.new
      have hn1 : (m.new (.map [])).next = m.next + 1 := rfl
      generalize m.new (.map []) = m1 at hx1 hM1 hn1 ⊢
      refine WL.of (fun n e m' => ∃ (i : Nat) (L : List (Int × Unit)), i ≤ l.length ∧ n = l.length - i ∧ e = [(0, .int .i64 f), (5, .map (some m.next)), (20, v), (21, .int .i64 l.length), (22, .int .i64 i)] ∧ chkF f [] l = chkF f (l.take i) (l.drop i) ∧
          Mp m' m.next vU L ∧ (∀ u, (lkp L u).isSome = decide (∃ p ∈ l.take i, p.1 = u)) ∧ Ext m m') l.length
        ⟨0, [], by omega, by omega, by simp only [go_sem] <;> rfl, rfl, hM1, fun u => by simp [lkp], hx1⟩ ?_
      rintro _ _ m2 ⟨i, L, hi, rfl, rfl, hc, hM, hL, hx⟩
      simp only [RB.order_Check_1, go_sem]
      refine gT.of (fun g1' => ?_) (fun g1' => ?_) <;> (have g1 := g1'; try simp only [decide_eq_true_eq, decide_eq_false_iff_not, beq_iff_eq, bne_iff_ne, beq_eq_false_iff_ne, ne_eq, Bool.not_eq_true', Bool.not_eq_false', bne_eq_false_iff_eq, Int.not_lt, Int.not_le] at g1)
      · have hil : i < l.length := by omega
        have s1 := step1 (show i < 1000000 by omega)
        obtain ⟨p, o, a1, a2, -, -⟩ := (hs.keep hb hx).elem spV_len (k := .i64) hil
        rw [chkF_drop hil] at hc
        have htk : l.take (i + 1) = l.take i ++ [l[i]] := List.take_succ_eq_append_getElem hil
        simp only [go_sem, g1', a1, a2]
        generalize l[i] = w at hc htk ⊢
        have hst : aStore 2 (m2.new (.cells [(.int .i64 0), (.int .i64 0)] (some 2))) (.pointer (some ⟨m2.next, 0, none⟩)) (.agg (spV w).toArray) = some (m2.new (.cells [.int .i64 w.1, .int .i64 w.2] (some 2))) := by
          simp only [spV]
          simp only [go_sem, ruB]
        simp only [go_sem, hst]
        have hxx : Ext m2 (m2.new (.cells [.int .i64 w.1, .int .i64 w.2] (some 2))) := Ext.new
        have hbx : Bk (m2.new (.cells [.int .i64 w.1, .int .i64 w.2] (some 2))) m2.next [.int .i64 w.1, .int .i64 w.2] 2 := Bk.new
        have hqm : m2.next ≠ m.next := by have := hM.lt; omega
        have hM3 := hM.keep hxx
        generalize m2.new (.cells [.int .i64 w.1, .int .i64 w.2] (some 2)) = m3 at hbx hxx hM3 ⊢
        have c1 : aLoad false 1 m3 (.pointer (some ⟨m2.next, 0, none⟩)) = some (.int .i64 w.1) := by simp only [go_sem, ruB, hbx.at_]
        have c2 : aLoad false 1 m3 (.pointer (some ⟨m2.next, 1, none⟩)) = some (.int .i64 w.2) := by simp only [go_sem, ruB, hbx.at_]
        have hx3 := hx.trans hxx
        simp only [go_sem, c1]
        refine gC.of Kind_spec ?_
        rintro _ _ ⟨⟨hu, rfl⟩ | ⟨hu, rfl⟩, hm⟩ <;> subst hm
        · rw [if_neg (by simpa using hu)] at hc
          simp only [go_sem, aExt0, aExt1, aExt2, c2]
          by_cases h3 : w.2 < 1
          · have e3 : decide (w.2 < 1) = true := decide_eq_true h3
            rw [if_pos (.inl h3)] at hc
            simp only [go_sem, e3]
            rw [hc]; exact ⟨rfl, hx3⟩
          · have e3 : decide (w.2 < 1) = false := decide_eq_false h3
            simp only [go_sem, e3, c2]
            by_cases h4 : f < w.2
            · have e4 : decide (f < w.2) = true := decide_eq_true h4
              rw [if_pos (.inr h4)] at hc
              simp only [go_sem, e4]
              rw [hc]; exact ⟨rfl, hx3⟩
            · have e4 : decide (f < w.2) = false := decide_eq_false h4
              rw [if_neg (by omega)] at hc
              have lk := hM3.look_ok (x := w.1) (z := ())
              simp only [vU] at lk
              simp only [go_sem, e4, c1, lk, aExt0, aExt1, st0]
              have hx4 := hx3.trans (Ext.new (m := _) (o := .cells [] (some 0)))
              have hM4 := hM3.keep (Ext.new (m := _) (o := .cells [] (some 0)))
              have hb4 := hbx.keep (Ext.new (m := _) (o := .cells [] (some 0)))
              generalize Mem.new _ (.cells [] (some 0)) = m4 at hx4 hM4 hb4 ⊢
              have hLu := hL w.1
              cases hlk : lkp L w.1 with
              | some _ =>
                rw [hlk] at hLu
                have hyes : ∃ p ∈ l.take i, p.1 = w.1 := of_decide_eq_true hLu.symm
                rw [if_pos hyes] at hc
                simp only [go_sem, Option.isSome_some]
                rw [hc]; exact ⟨rfl, hx4⟩
              | none =>
                rw [hlk] at hLu
                have hno : ¬ ∃ p ∈ l.take i, p.1 = w.1 := of_decide_eq_false hLu.symm
                rw [if_neg hno] at hc
                have c1' : aLoad false 1 m4 (.pointer (some ⟨m2.next, 0, none⟩)) = some (.int .i64 w.1) := by simp only [go_sem, ruB, hb4.at_]
                have pt := hM4.put (x := w.1) (a := ())
                simp only [vU] at pt
                simp only [go_sem, Option.isSome_none, c1', pt, s1]
                refine ⟨l.length - (i + 1), by omega, i + 1, updL L w.1 (), by omega, rfl, rfl, hc, hM4.self, fun u => ?_, hx4.set (Nat.le_refl _)⟩
                rw [lkp_upd, htk]
                by_cases e : u = w.1
                · subst e
                  simp
                · rw [if_neg e, hL]
                  rw [decide_eq_decide]
                  constructor
                  · rintro ⟨p, hp, h⟩; exact ⟨p, by simp [hp], h⟩
                  · rintro ⟨p, hp, h⟩
                    rcases List.mem_append.1 hp with h' | h'
                    · exact ⟨p, h', h⟩
                    · rw [List.mem_singleton.1 h'] at h; exact absurd h.symm e
        · rw [if_pos hu] at hc
          simp only [go_sem, aExt0, aExt1, aExt2]
          rw [hc]; exact ⟨rfl, hx3⟩
      · have : i = l.length := by omega
        subst this
        rw [List.drop_length] at hc
        simp only [go_sem, g1']
        rw [hc]; exact ⟨rfl, hx⟩
end Go.Am


/- Chains: rooms, and why not. -/
set_option linter.unusedVariables false
set_option linter.unusedSimpArgs false
namespace Go.Am
open Classical
variable {m : Mem}

def rmP (p : PlanD) : List Int := (List.range 16).map fun (c : Nat) => roomP p c
theorem rmP_len {p : PlanD} : (rmP p).length = 16 := by simp [rmP]
theorem RightP.rm {p : PlanD} (h : RightP p) : rL p = rmP p := by
  unfold rL rmP
  exact List.map_congr_left fun c _ => (h.room).symm
def rmT (p : PlanD) (k : Nat) : List Int := (List.range 16).map fun (c : Nat) => if c ∈ (csP p 16).take k then roomP p c else 0
theorem rmT_all {p : PlanD} : rmT p (csP p 16).length = rmP p := by
  unfold rmT rmP
  refine List.map_congr_left fun c hc => ?_
  rw [List.take_length]
  by_cases g : c ∈ csP p 16
  · rw [if_pos g]
  · rw [if_neg g]
    have : ¬ hasC p c = true := fun k => g (csP_mem.2 ⟨by simpa using hc, k⟩)
    unfold roomP; rw [if_neg this]
theorem rmT_get {p : PlanD} {k j : Nat} (h : j < 16) : (rmT p k)[j]'(by simpa [rmT] using h) = if j ∈ (csP p 16).take k then roomP p j else 0 := by unfold rmT; simp
theorem rmT_succ {p : PlanD} {k : Nat} (h : k < (csP p 16).length) : (rmT p k).set (csP p 16)[k] (roomP p ((csP p 16)[k] : Nat)) = rmT p (k + 1) := by
  refine List.ext_getElem (by simp [rmT]) fun j h1 h2 => ?_
  have h3 : j < 16 := by simpa [rmT] using h2
  have hd : (csP p 16).take (k + 1) = (csP p 16).take k ++ [(csP p 16)[k]] := List.take_succ_eq_append_getElem h
  rw [List.getElem_set, rmT_get h3, rmT_get h3, hd]
  by_cases e : (csP p 16)[k] = j
  · rw [if_pos e, if_pos (by rw [List.mem_append]; right; simp [e]), e]
  · rw [if_neg e]
    have : j ∈ (csP p 16).take k ++ [(csP p 16)[k]] ↔ j ∈ (csP p 16).take k := by
      rw [List.mem_append, List.mem_singleton]
      exact ⟨fun h => h.elim id fun h => absurd h.symm e, .inl⟩
    by_cases k2 : j ∈ (csP p 16).take k
    · rw [if_pos k2, if_pos (this.2 k2)]
    · rw [if_neg k2, if_neg (fun x => k2 (this.1 x))]
theorem intsZ_setC {l : List Int} {i : Nat} {x : Int} : (intsZ l).set i (.int .i64 x) = intsZ (l.set i x) := by unfold intsZ; rw [List.map_set]
theorem zeros16 : zeros [.int .i64 0] 16 = intsZ ((List.range 16).map fun _ => 0) := rfl
theorem Own.putU {m0 m : Mem} {u n : Nat} {cs : List Value} {v w : Value} (h : Own m0 m u n cs v) (hx : Ext m0 m) {k : IntKind} {i o : Nat} (hi : i < n) (ho : o < u) (hw : w.cells = #[w]) (hone : w.oneCell' = true) :
    ∃ b m', aIdxS u v (.int k i) = some (.pointer (some ⟨b, i * u, none⟩)) ∧ aStore 1 m (.pointer (some ⟨b, i * u + o, none⟩)) w = some m' ∧ Own m0 m' u n (cs.set (i * u + o) w) v ∧ Ext m0 m' ∧ Upd m m' (vb v) := by
  obtain ⟨b, m', e1, e2, e3, e4⟩ := h.put (k := k) hx hi ho hw hone
  refine ⟨b, m', e1, e2, e3, e4, ?_⟩
  have hbv : b ∈ vb v := by
    cases h with
    | nil h hc => omega
    | @«at» b2 c all hb hb2 hn hm hl hcs h1 =>
      simp only [aIdxS] at e1
      split at e1
      · have e1 := Option.some.inj e1
        simp only [Value.pointer.injEq, Option.some.injEq, Addr.mk.injEq] at e1
        rw [← e1.1]; simp [vb]
      · cases e1
  have hw' : aWrite m b (i * u + o) w.cells.toList = some m' := by
    simp only [aStore] at e2
    split at e2
    · exact e2
    · cases e2
  exact (aWrite_upd hw').1.trans (Upd.refl _ _) (fun x hx => by simp at hx; subst hx; exact hbv) (fun x hx => .inl hx)
set_option maxHeartbeats 2000000 in
theorem Rooms_spec {p : PlanD} {v : Value} (hv : PlanV m p v) (hl : PlanL p) : WC R F.chain_Rooms [v] m fun r m' => Ext m m' ∧ ((RightP p ∧ Own m m' 1 16 (intsZ (rmP p)) r) ∨ (¬ RightP p ∧ r = .slice none 0 0)) := by
  refine WC.of R.chain_Rooms rfl ?_
  obtain ⟨pv, rfl, hp⟩ := hv
  have hpc := hp.cells
  simp only [RC.chain_Rooms, planV, go_sem, hp.one]
  have hx1 : Ext m (m.new (.cells [.int .i64 p.frame, u32 p.cores, pv] (some 3))) := Ext.new
  have hb1 : Bk (m.new (.cells [.int .i64 p.frame, u32 p.cores, pv] (some 3))) m.next [.int .i64 p.frame, u32 p.cores, pv] 3 := Bk.new
  generalize m.new (.cells [.int .i64 p.frame, u32 p.cores, pv] (some 3)) = m1 at hx1 hb1 ⊢
  try simp only [go_sem, ruB, hb1.at_, hp.one]
  refine gC.of (Check_spec (p := p) ⟨pv, rfl, hp.keep hx1⟩ hl) ?_
  rintro _ m2 ⟨rfl, hx2⟩
  have hx12 := hx1.trans hx2
  have hb2 := hb1.keep hx2
  by_cases g : CheckP p
  rotate_left
  · have e : chk p = .int .i64 30 := by unfold chk; rw [if_neg g]
    rw [e]
    have e2 : ((30 : Int) != 0) = true := rfl
    try simp only [go_sem, ruB, e2]
    exact ⟨hx12, .inr fun h => g (check_iff.2 h)⟩
  have hR := check_iff.1 g
  have hPR := hR.pr hl
  have e : chk p = .int .i64 0 := by unfold chk; rw [if_pos g]
  rw [e]
  have e2 : ((0 : Int) != 0) = false := rfl
  have e16 : (16 : Int) = ((16 : Nat) : Int) := rfl
  try simp only [go_sem, ruB, e2]
  rw [e16]
  refine Got.of (make_eq (n := 16) (by omega) (by omega) rfl rfl) ?_
  rw [zeros16]
  have hx3 : Ext m2 (m2.new (.cells (intsZ ((List.range 16).map fun _ => 0)) (some 1))) := Ext.new
  have hO3 : Own m2 (m2.new (.cells (intsZ ((List.range 16).map fun _ => 0)) (some 1))) 1 16 (intsZ (rmT p 0)) (.slice (some ⟨m2.next, 0, none⟩) 16 16) := by
    refine .at (all := intsZ ((List.range 16).map fun _ => 0)) (Nat.le_refl _) (by simp [Mem.new]) (Nat.le_refl _) (by simp [Mem.new]) (by simp [intsZ]) ?_ rfl
    rw [List.take_of_length_le (by simp [intsZ])]
    rfl
  generalize m2.new (.cells (intsZ ((List.range 16).map fun _ => 0)) (some 1)) = m3 at hx3 hO3 ⊢
  generalize (Value.slice (some ⟨m2.next, 0, none⟩) 16 16) = bv at hO3 ⊢
  have hb3 := hb2.keep hx3
  have hp3 := (hp.keep hx12).keep hx3
  try simp only [go_sem, ruB, hb3.at_, hp.one]
  refine gC.of (Cores_spec (p := p) ⟨pv, rfl, hp3⟩) ?_
  rintro cv m4 ⟨hc4, hx4⟩
  have hO4 := hO3.keep hx4
  have hb4 := hb3.keep hx4
  have hx24 := hx3.trans hx4
  have hcl := csP_len (p := p) (n := 16)
  try simp only [go_sem, ruB, hc4.sl.len]
  refine WL.mono (WL.of (Q := fun y e m' => y = .exit 0 ∧ (∃ c rs, e = (1, c) :: (3, bv) :: rs) ∧ Own m2 m' 1 16 (intsZ (rmP p)) bv ∧ Ext m2 m')
    (fun n e m' => ∃ k : Nat, k ≤ (csP p 16).length ∧ n = (csP p 16).length - k ∧ e = [(1, .pointer (some ⟨m.next, 0, none⟩)), (3, bv), (11, cv), (12, .int .i64 ((csP p 16).length : Nat)), (13, .int .i64 (k : Nat))] ∧ Own m2 m' 1 16 (intsZ (rmT p k)) bv ∧ Own m3 m' 1 (csP p 16).length (ints (csP p 16)) cv ∧ Ext m2 m' ∧ (∀ x ∈ vb cv, x ∉ vb bv)) (csP p 16).length
    ⟨0, by omega, by omega, by simp only [go_sem] <;> rfl, hO4, hc4, hx24, fun x hx hm => by have := hc4.ge x hx; have := SlLt.vb_iff.1 hO3.lt x hm; omega⟩ ?_) ?_
  rotate_left
  · rintro _ _ m5 ⟨rfl, ⟨c, rs, rfl⟩, ho, hx⟩
    try simp only [go_sem, ruB]
    exact ⟨hx12.trans hx, .inl ⟨hR, ho.weak hx12⟩⟩
  rintro _ _ m5 ⟨k, hk, rfl, rfl, ho, hc, hx, hd⟩
  have hb5 := hb2.keep hx
  have hp5 := (hp.keep hx12).keep hx
  simp only [RB.chain_Rooms_1, go_sem]
  have s1 := step1 (show k < 1000000 by omega)
  by_cases g : k < (csP p 16).length
  rotate_left
  · have e1 : decide (((k : Nat) : Int) < (((csP p 16).length : Nat) : Int)) = false := decide_eq_false (by omega)
    have hk2 : k = (csP p 16).length := by omega
    subst hk2
    rw [rmT_all] at ho
    try simp only [go_sem, ruB, e1]
    exact ⟨⟨_, _, rfl⟩, ho, hx⟩
  have e1 : decide (((k : Nat) : Int) < (((csP p 16).length : Nat) : Int)) = true := decide_eq_true (by omega)
  obtain ⟨pp, a1, a2⟩ := hc.sl.get (k := .i64) (i := k) g
  rw [ints_get g] at a2
  try simp only [go_sem, ruB, e1, a1, a2, hb5.at_, hp.one]
  refine gC.of (Room_spec (p := p) ⟨pv, rfl, hp5⟩ hPR) ?_
  rintro _ m6 ⟨rfl, hx6⟩
  have ho6 := ho.keep hx6
  have hc6 := hc.keep hx6
  have hck := csP_mem.1 (List.getElem_mem g)
  have hx26 := hx.trans hx6
  obtain ⟨sb, m7, q1, q2, q3, q4, q5⟩ := ho6.putU (w := .int .i64 (roomP p ((csP p 16)[k] : Nat))) hx26 (k := .i64) (i := (csP p 16)[k]) (o := 0) hck.1 (by omega) rfl rfl
  simp only [Nat.mul_one, Nat.add_zero] at q1 q2 q3
  have hc7 := hc6.updq q5 hd
  rw [intsZ_setC, rmT_succ g] at q3
  try simp only [go_sem, ruB, q1, q2, s1]
  exact ⟨(csP p 16).length - (k + 1), by omega, k + 1, by omega, rfl, rfl, q3, hc7, q4, hd⟩
end Go.Am
