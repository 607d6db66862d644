/- Parts of the proofs of the statements of this seat: ChainX2, ChainRd, WChainGoes, ChainX3, WChainFull. No conditions. -/
import Derived.Test.YteekebicnoaolaaChainGoesPart7
import Derived.Test.YteekebicnoaolaaChainGoesPart6
set_option linter.unusedVariables false
set_option linter.unusedSimpArgs false

/- ChainGoes. -/
set_option linter.unusedVariables false
set_option linter.unusedSimpArgs false
namespace Go.Am
open Classical
variable {m : Mem}

theorem refFindO_spec {M0 : Mem} {p : PlanD} {v : Value} {u : Int} (hv : PlanV M0 p v) (hM : Ext M0 m) (hl : PlanL p) (ha : Asc p.places) :
    WC R F.ref16_Find [v, .int .i64 u] m fun r m' => ∃ qv, r = .tuple #[.agg (plV (findP p.places u) qv).toArray, .bool (decide (hasU p.places u))] ∧ PcV M0 (findP p.places u).pieces qv ∧ Ext m m' := by
  refine WC.of R.ref16_Find rfl ?_
  obtain ⟨pv, rfl, hp⟩ := hv
  have hlen := hl.len
  simp only [RC.ref16_Find, planV, go_sem, hp.one]
  have hx : Ext m (m.new (.cells [.int .i64 p.frame, u32 p.cores, pv] (some 3))) := Ext.new
  have hb : Bk (m.new (.cells [.int .i64 p.frame, u32 p.cores, pv] (some 3))) m.next [.int .i64 p.frame, u32 p.cores, pv] 3 := Bk.new
  generalize m.new (.cells [.int .i64 p.frame, u32 p.cores, pv] (some 3)) = m1 at hx hb ⊢
  have hbn := hb.ne
  try simp only [go_sem, hbn]
  have hx2 : Ext m1 (m1.new (.cells [.int .i64 0, .int .i64 0, .int .i64 0, .slice none 0 0] (some 4))) := Ext.new
  have hb2 : Bk (m1.new (.cells [.int .i64 0, .int .i64 0, .int .i64 0, .slice none 0 0] (some 4))) m1.next [.int .i64 0, .int .i64 0, .int .i64 0, .slice none 0 0] 4 := Bk.new
  generalize m1.new (.cells [.int .i64 0, .int .i64 0, .int .i64 0, .slice none 0 0] (some 4)) = m2 at hx2 hb2 ⊢
  have hp2 := ((hp.keep hM).keep hx).keep hx2
  have hb' := hb.keep hx2
  refine WL.of (fun n e m' => ∃ i : Nat, i ≤ p.places.length ∧ n = p.places.length - i ∧ e = [(1, .int .i64 u), (2, pt m.next), (4, pt m1.next), (6, .int .i64 i)] ∧ (∀ t (h : t < p.places.length), t < i → p.places[t].unit ≠ u) ∧ m' = m2) p.places.length
    ⟨0, by omega, by omega, by simp only [go_sem] <;> rfl, fun t h h2 => by omega, rfl⟩ ?_
  rintro _ _ _ ⟨i, hi, rfl, rfl, hno, hm⟩
  replace hm := hm.symm
  subst hm
  simp only [RB.ref16_Find_1, pt, go_sem, ruB, hb'.at_, hp2.len]
  refine gT.of (fun h1' => ?_) (fun h1' => ?_) <;> (have h1 := h1'; try simp only [decide_eq_true_eq, decide_eq_false_iff_not, beq_iff_eq, bne_iff_ne, beq_eq_false_iff_ne, ne_eq, Bool.not_eq_true', Bool.not_eq_false', bne_eq_false_iff_eq, Int.not_lt, Int.not_le] at h1)
  · have hil : i < p.places.length := by omega
    obtain ⟨b, o, qv, a1, a2, a3, a4, a5⟩ := hp.elem hil
    have a30 := a3 0 (by omega)
    rw [← load_ext ((hM.trans hx).trans hx2) a5] at a2 a30
    have hfx : p.places[i].unit = u → findP p.places u = p.places[i] := fun h => findP_at ha hil h
    have hhas : p.places[i].unit = u → hasU p.places u := fun h => ⟨i, hil, h⟩
    have hno2 : p.places[i].unit ≠ u → ∀ t (h : t < p.places.length), t < i + 1 → p.places[t].unit ≠ u := by
      intro g t h ht
      by_cases e : t = i
      · subst e; exact g
      · exact hno t h (by omega)
    generalize p.places[i] = x at *
    simp only [plV, Nat.add_zero, List.getElem?_cons_zero] at a2 a30
    have q1 := a4.one
    try simp only [go_sem, ruB, h1', a1, a30, hb'.at_]
    refine gT.of (fun h2' => ?_) (fun h2' => ?_) <;> (have h2 := h2'; try simp only [decide_eq_true_eq, decide_eq_false_iff_not, beq_iff_eq, bne_iff_ne, beq_eq_false_iff_ne, ne_eq, Bool.not_eq_true', Bool.not_eq_false', bne_eq_false_iff_eq, Int.not_lt, Int.not_le] at h2)
    · have hfx := hfx h2
      try simp only [go_sem, ruB, h2', a1, a2, hb'.at_, hb2.at_, q1]
      refine ⟨qv, by rw [decide_eq_true (hhas h2), hfx]; rfl, ?_, hx.trans (hx2.set (Nat.le_refl _))⟩
      rw [hfx]
      exact a4
    · try simp only [go_sem, ruB, h2', step1 (show i < 1000000 by omega)]
      exact ⟨p.places.length - (i + 1), by omega, i + 1, by omega, rfl, rfl, hno2 h2⟩
  · have hnu : ¬ hasU p.places u := by
      rintro ⟨t, h, e⟩
      exact hno t h (by omega) e
    try simp only [go_sem, ruB, h1', hb2.at_]
    refine ⟨.slice none 0 0, by rw [decide_eq_false hnu, findP_not hnu]; rfl, ?_, hx.trans (hx2.set (Nat.le_refl _))⟩
    rw [findP_not hnu]
    exact ⟨.nil rfl rfl, trivial⟩

theorem set_set {M : Mem} {k : Nat} {a b : Option AObj} : (M.set k a).set k b = M.set k b := by
  unfold Mem.set; congr 1; funext q; simp only []; split <;> rfl
set_option maxHeartbeats 4000000 in
theorem Goes2_loop {l : List Wt} {lv : Value} {b2 b5 : Nat} {q : PlanD} {qv : Value} (hs : Sl m 2 l.length (l.flatMap spV) lv) (hlt : SlLt m lv) (hb : Bk m b5 [.int .i64 q.frame, u32 q.cores, qv] 3) (hq : PlsV m q.places qv) (hA : Asc q.places) (hL : PlanL q) (hl : l.length ≤ 60)
    (hf : ∀ j (h : j < l.length), hasU q.places l[j].1 ∧ (findP q.places l[j].1).share = l[j].2) :
    WL R [1, 2, 5, 7] RB.law19_ChainGoes_2 [(1, lv), (2, pt b2), (5, pt b5), (7, .int .i64 0)] m fun y e m' => y = .exit 0 ∧ (∃ rs, e = (1, lv) :: (2, pt b2) :: (5, pt b5) :: rs) ∧ Ext m m' := by
  refine WL.of (fun z e m' => ∃ i : Nat, i ≤ l.length ∧ z = l.length - i ∧ e = [(1, lv), (2, pt b2), (5, pt b5), (7, .int .i64 (i : Nat))] ∧ Ext m m') l.length
    ⟨0, by omega, by omega, by simp only [pt, go_sem] <;> rfl, Ext.refl m⟩ ?_
  rintro _ _ m1 ⟨i, hi, rfl, rfl, hx⟩
  have hs1 := hs.keep hlt hx
  simp only [RB.law19_ChainGoes_2, pt, go_sem, hs1.len]
  have s1 := step1 (show i < 1000000 by omega)
  by_cases g : i < l.length
  rotate_left
  · have e1 : decide (((i : Nat) : Int) < ((l.length : Nat) : Int)) = false := decide_eq_false (by omega)
    try simp only [go_sem, ruB, e1]
    exact ⟨⟨_, rfl⟩, hx⟩
  have e1 : decide (((i : Nat) : Int) < ((l.length : Nat) : Int)) = true := decide_eq_true (by omega)
  obtain ⟨h1, h2⟩ := hf i g
  have hb1 := hb.keep hx
  have hq1 := hq.keep hx
  obtain ⟨wb, wo, c1, -, c3, c4⟩ := hs1.elem spV_len (k := .i64) g
  have c30 := c3 0 (by omega)
  have c31 := c3 1 (by omega)
  simp only [spV, List.getElem?_cons_zero, List.getElem?_cons_succ, Nat.add_zero] at c30 c31
  have c4 := c4 (hlt.keep hx)
  try simp only [go_sem, ruB, e1, c1, c30, hb1.at_, hq1.one]
  refine gC.of (refFindO_spec (p := q) (u := l[i].1) (M0 := m1) ⟨qv, rfl, hq1⟩ (Ext.bump (n := 13)) hL hA) ?_
  rintro _ m2 ⟨fv, rfl, hfv, hx2'⟩
  have hx2 : Ext m1 m2 := (Ext.bump (n := 13)).trans hx2'
  have n2 := hx2'.next
  simp only [Mem.bump_next] at n2
  have d1 : decide (hasU q.places l[i].1) = true := decide_eq_true h1
  have fo := hfv.one
  have c31' := (load_ext hx2 c4).trans c31
  simp only [plV]
  try simp only [go_sem, ruB, aExt0, aExt1, d1, fo, set_set]
  have hx3 : Ext m1 (m2.set (m1.next + 10) (some (.cells [.int .i64 (findP q.places l[i].1).unit, .int .i64 (findP q.places l[i].1).share, .int .i64 (findP q.places l[i].1).core, fv] (some 4)))) := hx2.set (by omega)
  have hb3 : Bk (m2.set (m1.next + 10) (some (.cells [.int .i64 (findP q.places l[i].1).unit, .int .i64 (findP q.places l[i].1).share, .int .i64 (findP q.places l[i].1).core, fv] (some 4)))) (m1.next + 10) [.int .i64 (findP q.places l[i].1).unit, .int .i64 (findP q.places l[i].1).share, .int .i64 (findP q.places l[i].1).core, fv] 4 := ⟨by simp [Mem.set], by show m1.next + 10 < m2.next; omega⟩
  generalize m2.set (m1.next + 10) (some (.cells [.int .i64 (findP q.places l[i].1).unit, .int .i64 (findP q.places l[i].1).share, .int .i64 (findP q.places l[i].1).core, fv] (some 4))) = m3 at hx3 hb3 ⊢
  have c31'' := (load_ext hx3 c4).trans c31
  have e2 : (((findP q.places l[i].1).share) != l[i].2) = false := by rw [bne_eq_false_iff_eq]; exact h2
  try simp only [go_sem, ruB, c1, c31'', hb3.at_, e2, s1]
  exact ⟨l.length - (i + 1), by omega, i + 1, by omega, rfl, rfl, hx.trans hx3⟩
set_option maxHeartbeats 4000000 in
theorem Goes1_loop {p q : PlanD} {b2 b5 : Nat} {pv qv : Value} (hb : Bk m b5 [.int .i64 q.frame, u32 q.cores, qv] 3) (hq : PlsV m q.places qv) (hb2 : Bk m b2 [.int .i64 p.frame, u32 p.cores, pv] 3) (hp : PlsV m p.places pv) (hA : Asc q.places) (hL : PlanL q) (hLp : PlanL p)
    (hf : ∀ j (h : j < p.places.length), hasU q.places p.places[j].unit ∧ findP q.places p.places[j].unit = p.places[j]) :
    WL R [2, 5, 10] RB.law19_ChainGoes_1 [(2, pt b2), (5, pt b5), (10, .int .i64 0)] m fun y e m' => y = .exit 2 ∧ (∃ rs, e = (2, pt b2) :: (5, pt b5) :: rs) ∧ Ext m m' := by
  have hlp := hLp.len
  refine WL.of (fun z e m' => ∃ i : Nat, i ≤ p.places.length ∧ z = p.places.length - i ∧ e = [(2, pt b2), (5, pt b5), (10, .int .i64 (i : Nat))] ∧ Ext m m') p.places.length
    ⟨0, by omega, by omega, by simp only [pt, go_sem] <;> rfl, Ext.refl m⟩ ?_
  rintro _ _ m1 ⟨i, hi, rfl, rfl, hx⟩
  have hb1 := hb.keep hx
  have hq1 := hq.keep hx
  have hb21 := hb2.keep hx
  have hp1 := hp.keep hx
  simp only [RB.law19_ChainGoes_1, pt, go_sem, ruB, hb21.at_, hp1.len]
  have s1 := step1 (show i < 1000000 by omega)
  by_cases g : i < p.places.length
  rotate_left
  · have e1 : decide (((i : Nat) : Int) < ((p.places.length : Nat) : Int)) = false := decide_eq_false (by omega)
    try simp only [go_sem, ruB, e1]
    exact ⟨⟨_, rfl⟩, hx⟩
  have e1 : decide (((i : Nat) : Int) < ((p.places.length : Nat) : Int)) = true := decide_eq_true (by omega)
  obtain ⟨h1, h2⟩ := hf i g
  have hpcs := hLp.pcs _ (List.getElem_mem g)
  obtain ⟨wb, wo, xv, c1, c2, c3, cp, c4⟩ := hp1.elem g
  have c30 := c3 0 (by omega)
  simp only [plV, List.getElem?_cons_zero, Nat.add_zero] at c30
  try simp only [go_sem, ruB, e1, c1, c30, hb1.at_, hb21.at_, hq1.one]
  refine gC.of (refFindO_spec (p := q) (u := p.places[i].unit) (M0 := m1) ⟨qv, rfl, hq1⟩ (Ext.bump (n := 14)) hL hA) ?_
  rw [h2]
  rintro _ m2 ⟨fv, rfl, hfv, hx2'⟩
  have hx2 : Ext m1 m2 := (Ext.bump (n := 14)).trans hx2'
  have n2 := hx2'.next
  simp only [Mem.bump_next] at n2
  have d1 : decide (hasU q.places p.places[i].unit) = true := decide_eq_true h1
  have fo := hfv.one
  simp only [plV] at c2 ⊢
  try simp only [go_sem, ruB, aExt0, aExt1, d1, fo, set_set]
  have hx3 : Ext m1 (m2.set (m1.next + 11) (some (.cells [.int .i64 p.places[i].unit, .int .i64 p.places[i].share, .int .i64 p.places[i].core, fv] (some 4)))) := hx2.set (by omega)
  have hb3 : Bk (m2.set (m1.next + 11) (some (.cells [.int .i64 p.places[i].unit, .int .i64 p.places[i].share, .int .i64 p.places[i].core, fv] (some 4)))) (m1.next + 11) [.int .i64 p.places[i].unit, .int .i64 p.places[i].share, .int .i64 p.places[i].core, fv] 4 := ⟨by simp [Mem.set], by show m1.next + 11 < m2.next; omega⟩
  generalize m2.set (m1.next + 11) (some (.cells [.int .i64 p.places[i].unit, .int .i64 p.places[i].share, .int .i64 p.places[i].core, fv] (some 4))) = m3 at hx3 hb3 ⊢
  have c2' := (load_ext hx3 c4).trans c2
  have hb23 := hb21.keep hx3
  have hb22 := hb21.keep hx2
  have ne3 : (b2 = m1.next + 11) = False := eq_false (by have := hb21.lt; omega)
  have hfv3 := hfv.keep hx3
  have hcp3 := cp.keep hx3
  try simp only [go_sem, ruB, c1, c2', hb3.at_, hb23.at_, hb22.at_, ne3, fo, cp.one]
  refine gC.of (refSamePlace_spec (x := p.places[i]) (y := p.places[i]) ⟨fv, rfl, hfv3⟩ ⟨xv, rfl, hcp3⟩ hpcs hpcs) ?_
  rintro _ m4 ⟨rfl, hx4⟩
  have d2 : (!decide (p.places[i] = p.places[i])) = false := by simp
  try simp only [go_sem, ruB, d2, s1]
  exact ⟨p.places.length - (i + 1), by omega, i + 1, by omega, rfl, rfl, hx.trans (hx3.trans hx4)⟩
/-! the law -/
set_option maxHeartbeats 8000000 in
theorem ChainGoes_spec {p : PlanD} {l : List Wt} {v lv : Value} (hv : PlanV m p v) (hs : Sl m 2 l.length (l.flatMap spV) lv) (hb : SlLt m lv) (hc : Cut 2 m lv) : WC R F.law19_ChainGoes [v, lv] m fun r m' => r = .bool true := by
  refine WC.of R.law19_ChainGoes rfl ?_
  obtain ⟨pv, rfl, hp⟩ := hv
  have l60 : (l.take 60).length ≤ 60 := by rw [List.length_take]; omega
  simp only [RC.law19_ChainGoes, planV, go_sem, hp.one]
  have hx1 : Ext m (m.new (.cells [.int .i64 p.frame, u32 p.cores, pv] (some 3))) := Ext.new
  have hb1 : Bk (m.new (.cells [.int .i64 p.frame, u32 p.cores, pv] (some 3))) m.next [.int .i64 p.frame, u32 p.cores, pv] 3 := Bk.new
  generalize m.new (.cells [.int .i64 p.frame, u32 p.cores, pv] (some 3)) = m1 at hx1 hb1 ⊢
  have hs1 := hs.keep hb hx1
  obtain ⟨v', a1, a2, a3⟩ := cut60 hs1 (hb.keep hx1) (hc.keep hb hx1)
  try simp only [go_sem, ruB, hs1.len, a1, hb1.at_, hp.one]
  generalize l.take 60 = l' at *
  refine gC.of (Light_spec (p := p) ⟨pv, rfl, hp.keep hx1⟩) ?_
  rintro _ m2 ⟨rfl, hx2⟩
  by_cases hL : lightP p = true
  rotate_left
  · have e : lightP p = false := by simpa using hL
    try simp only [go_sem, ruB, e]
    refine gC.of (ok_spec R.law19_awake) ?_
    rintro _ m_ ⟨rfl, hm_⟩
    replace hm_ := hm_.symm
    subst hm_
    simp only [go_sem]
    try simp only [go_sem, ruB]
  have hLL := light_l hL
  have hx02 := hx1.trans hx2
  have hb12 := hb1.keep hx2
  try simp only [go_sem, ruB, hL, hb12.at_, hp.one]
  refine gC.of (Split_spec (p := p) (l := l') ⟨pv, rfl, hp.keep hx02⟩ (a2.keep a3 hx2) (a3.keep hx2) l60 hL) ?_
  rintro _ m3 ⟨hx3, ⟨g, rfl⟩ | ⟨g, qv, rfl, hq⟩⟩
  · have e1 : (whyC p l' != 0) = true := by rw [bne_iff_ne]; exact g
    have hx03 := hx02.trans hx3
    have b3 := hb12.keep hx3
    try simp only [go_sem, ruB, aExt0, aExt1]
    have hx4 : Ext m3 (m3.new (.cells [.int .i64 0, u32 0#32, .slice none 0 0] (some 3))) := Ext.new
    have hb4 : Bk (m3.new (.cells [.int .i64 0, u32 0#32, .slice none 0 0] (some 3))) m3.next [.int .i64 0, u32 0#32, .slice none 0 0] 3 := Bk.new
    generalize m3.new (.cells [.int .i64 0, u32 0#32, .slice none 0 0] (some 3)) = m4 at hx4 hb4 ⊢
    have hx04 := hx03.trans hx4
    have b4 := b3.keep hx4
    try simp only [go_sem, ruB, e1, b3.at_, b4.at_, hp.one]
    refine gC.of (refWhy_spec (p := p) (l := l') ⟨pv, rfl, hp.keep hx04⟩ (((a2.keep a3 hx2).keep (a3.keep hx2) hx3).keep ((a3.keep hx2).keep hx3) hx4) (((a3.keep hx2).keep hx3).keep hx4) l60 hLL) ?_
    rintro _ m5 ⟨rfl, hx5⟩
    try simp only [go_sem, ruB, e1]
    refine gC.of (ok_spec R.law19_awake) ?_
    rintro _ m_ ⟨rfl, hm_⟩
    replace hm_ := hm_.symm
    subst hm_
    simp only [go_sem]
    try simp only [go_sem, ruB]
  obtain ⟨qp, rfl, hqp⟩ := hq
  have hCI := splitR_CI hL g
  have hR := (why0 g).1
  have hRq := splitR_right hR hCI
  have hLq := splitR_l hL l60 g
  have e0 : ((0 : Int) != 0) = false := rfl
  have hx03 := hx02.trans hx3
  have b3 := hb12.keep hx3
  simp only [planV]
  try simp only [go_sem, ruB, aExt0, aExt1, hqp.one]
  have hx4 : Ext m3 (m3.new (.cells [.int .i64 (splitR p l').frame, u32 (splitR p l').cores, qp] (some 3))) := Ext.new
  have hb4 : Bk (m3.new (.cells [.int .i64 (splitR p l').frame, u32 (splitR p l').cores, qp] (some 3))) m3.next [.int .i64 (splitR p l').frame, u32 (splitR p l').cores, qp] 3 := Bk.new
  generalize m3.new (.cells [.int .i64 (splitR p l').frame, u32 (splitR p l').cores, qp] (some 3)) = m4 at hx4 hb4 ⊢
  have hx04 := hx03.trans hx4
  have b4 := b3.keep hx4
  have hq4 := hqp.keep hx4
  have hp4 := hp.keep hx04
  have s4 := ((a2.keep a3 hx2).keep (a3.keep hx2) hx3).keep ((a3.keep hx2).keep hx3) hx4
  have t4 := ((a3.keep hx2).keep hx3).keep hx4
  have hlen := hCI.len
  try simp only [go_sem, ruB, e0, hb4.at_, b4.at_, hq4.one]
  refine gC.of (refRight_spec (p := splitR p l') ⟨qp, rfl, hq4⟩ hLq.len hLq.pcs) ?_
  rintro _ m5 ⟨rfl, hx5⟩
  have d1 : decide (RightP (splitR p l')) = true := decide_eq_true hRq
  have b5 := b4.keep hx5
  have hb5 := hb4.keep hx5
  have hq5 := hq4.keep hx5
  have hp5 := hp4.keep hx5
  have s5 := s4.keep t4 hx5
  have t5 := t4.keep hx5
  have pl60 : p.places.length ≤ 60 := by
    unfold lightP at hL
    rw [Bool.and_eq_true, decide_eq_true_eq] at hL; exact hL.2
  have w1 : IntKind.wrap .i64 (((p.places.length : Nat) : Int) + ((l'.length : Nat) : Int)) = (((splitR p l').places.length : Nat) : Int) := by
    have : (splitR p l').places.length = p.places.length + l'.length := hlen
    rw [this, wrap_i64 (by omega) (by omega)]; omega
  have e2 : (((((splitR p l').places.length : Nat) : Int)) != (((splitR p l').places.length : Nat) : Int)) = false := by rw [bne_eq_false_iff_eq]
  try simp only [go_sem, ruB, d1, hb5.at_, b5.at_, hq5.len, hp5.len, s5.len, w1, e2]
  refine WL.mono (Goes2_loop (q := splitR p l') (l := l') (b2 := m.next) (b5 := m3.next) s5 t5 hb5 hq5 hCI.asc hLq l60 fun j hj => find_new hCI hj) ?_
  rintro _ _ m6 ⟨rfl, ⟨rs, rfl⟩, hx6⟩
  have b6 := b5.keep hx6
  have hb6 := hb5.keep hx6
  have hq6 := hq5.keep hx6
  have hp6 := hp5.keep hx6
  simp only [pt]
  try simp only [go_sem, ruB]
  refine WL.mono (Goes1_loop (p := p) (q := splitR p l') (b2 := m.next) (b5 := m3.next) hb6 hq6 b6 hp6 hCI.asc hLq hLL fun j hj => find_old hCI (List.getElem_mem hj)) ?_
  rintro _ _ m7 ⟨rfl, ⟨rs, rfl⟩, hx7⟩
  have hb7 := hb6.keep hx7
  have hq7 := hq6.keep hx7
  simp only [pt]
  try simp only [go_sem, ruB, hb7.at_, hq7.one]
  refine gC.of (refSplits_spec (p := splitR p l') ⟨qp, rfl, hq7⟩ hLq.len) ?_
  rintro _ m8 ⟨rfl, hx8⟩
  have w8 := hx8.same _ hb7.lt
  try simp only [go_sem, ruB, watch_one, watch_nil, blk_ptr, w8]
  refine gC.of (refCores_spec (p := splitR p l') ⟨qp, rfl, hq7.keep hx8⟩) ?_
  rintro cv m9 ⟨hO9, hx9⟩
  have d2 : decide ((((splitR p l').places.countP isSp : Nat) : Int) < (((csP (splitR p l') 16).length : Nat) : Int)) = true := decide_eq_true (by have := hRq.2.2.2.2.2.2.1; exact Int.ofNat_lt.2 this)
  try simp only [go_sem, ruB, hO9.sl.len, d2]
  refine gC.of (ok_spec R.law19_awake) ?_
  rintro _ m_ ⟨rfl, hm_⟩
  replace hm_ := hm_.symm
  subst hm_
  simp only [go_sem]
  try simp only [go_sem, ruB]
end Go.Am


/- What is read of the arguments. -/
namespace Go.Am
theorem sp_read {m : Mem} {v : Value} (h : Rd m (.sl [.int .i64, .int .i64]) v) : ∃ l : List Wt, Sl m 2 l.length (l.flatMap spV) v ∧ SlLt m v ∧ Cut 2 m v := by
  obtain ⟨l, h1, h2, -⟩ := Rd.slice (f := spV) (fun cs hc => by
    obtain ⟨c, r, rfl, h1, h2⟩ := hc.one
    obtain ⟨d, r2, rfl, h3, h4⟩ := h2.one
    cases h4.none
    obtain ⟨a, rfl, -⟩ := h1.i64
    obtain ⟨b, rfl, -⟩ := h3.i64
    exact ⟨(a, b), rfl⟩) h
  exact ⟨l, h1, h2, h.free.cut⟩
end Go.Am


/- ChainGoes, of arguments as they are read. -/
set_option linter.unusedVariables false
namespace Go.Am
theorem law19_ChainGoes_walk (m : Mem) (us : List Value) (h : RdAs m [(true, planSh), (false, [.sl [.int .i64, .int .i64]])] us) : WC R F.law19_ChainGoes us m fun v _ => v = .bool true := by
  obtain ⟨_, _, rfl, h1, h⟩ := h.one; obtain ⟨_, _, rfl, h2, h⟩ := h.one; cases h.none
  obtain ⟨p, hp, -⟩ := plan_read h1
  obtain ⟨l, hl, hb, hc⟩ := sp_read h2.rd
  exact ChainGoes_spec hp hl hb hc
end Go.Am


/- ChainFull. -/
set_option linter.unusedVariables false
set_option linter.unusedSimpArgs false
namespace Go.Am
open Classical
variable {m : Mem}

set_option maxHeartbeats 4000000 in
theorem Full1_loop {q : PlanD} {b5 : Nat} {qv xv : Value} {i : Nat} {ps : List Pc} (hb : Bk m b5 [.int .i64 q.frame, u32 q.cores, qv] 3) (hq : PlsV m q.places qv) (hx : PcV m ps xv) (hl : ps.length < 1000000) (hR : PlanR q)
    (hf : ∀ j (h : j + 1 < ps.length), roomR q (ps[j]'(by omega)).1 = 0) :
    WL R [5, 7, 8, 9] RB.law19_ChainFull_1 [(5, pt b5), (7, .int .i64 (i : Nat)), (8, xv), (9, .int .i64 0)] m fun y e m' => y = .exit 2 ∧ (∃ rs, e = (5, pt b5) :: (7, .int .i64 (i : Nat)) :: rs) ∧ Ext m m' := by
  refine WL.of (fun z e m' => ∃ j : Nat, j ≤ ps.length ∧ z = ps.length - j ∧ e = [(5, pt b5), (7, .int .i64 (i : Nat)), (8, xv), (9, .int .i64 (j : Nat))] ∧ Ext m m') ps.length
    ⟨0, by omega, by omega, by simp only [pt, go_sem] <;> rfl, Ext.refl m⟩ ?_
  rintro _ _ m1 ⟨j, hj, rfl, rfl, hx1⟩
  have hxx := hx.keep hx1
  have s1 := step1 (show j < 1000000 by omega)
  simp only [RB.law19_ChainFull_1, pt, go_sem, hxx.len, s1]
  by_cases g : j + 1 < ps.length
  rotate_left
  · have e1 : decide (((j + 1 : Nat) : Int) < ((ps.length : Nat) : Int)) = false := decide_eq_false (by omega)
    try simp only [go_sem, ruB, e1]
    exact ⟨⟨_, rfl⟩, hx1⟩
  have e1 : decide (((j + 1 : Nat) : Int) < ((ps.length : Nat) : Int)) = true := decide_eq_true (by omega)
  have hb1 := hb.keep hx1
  have hq1 := hq.keep hx1
  obtain ⟨wb, wo, c1, -, c3, c4⟩ := hxx.elem (show j < ps.length by omega)
  have c30 := c3 0 (by omega)
  simp only [pcV, List.getElem?_cons_zero, Nat.add_zero] at c30
  have hr := hf j g
  try simp only [go_sem, ruB, e1, c1, c30, hb1.at_, hq1.one]
  refine gC.of (refRoom_spec (p := q) (c := (ps[j]'(by omega)).1) ⟨qv, rfl, hq1⟩ hR) ?_
  rintro _ m2 ⟨rfl, hx2⟩
  rw [hr]
  have z0 : ((0 : Int) != 0) = false := rfl
  try simp only [go_sem, ruB, z0, s1]
  exact ⟨ps.length - (j + 1), by omega, j + 1, by omega, rfl, rfl, hx1.trans hx2⟩
set_option maxHeartbeats 4000000 in
theorem Full2_loop {q : PlanD} {b5 : Nat} {qv : Value} (hb : Bk m b5 [.int .i64 q.frame, u32 q.cores, qv] 3) (hq : PlsV m q.places qv) (hL : PlanL q) (hR : PlanR q)
    (hf : ∀ x ∈ q.places, ∀ j (h : j + 1 < x.pieces.length), roomR q (x.pieces[j]'(by omega)).1 = 0) :
    WL R [5, 7] RB.law19_ChainFull_2 [(5, pt b5), (7, .int .i64 0)] m fun y e m' => y = .exit 0 := by
  have hlq := hL.len
  refine WL.of (fun z e m' => ∃ i : Nat, i ≤ q.places.length ∧ z = q.places.length - i ∧ e = [(5, pt b5), (7, .int .i64 (i : Nat))] ∧ Ext m m') q.places.length
    ⟨0, by omega, by omega, by simp only [pt, go_sem] <;> rfl, Ext.refl m⟩ ?_
  rintro _ _ m1 ⟨i, hi, rfl, rfl, hx⟩
  have hb1 := hb.keep hx
  have hq1 := hq.keep hx
  simp only [RB.law19_ChainFull_2, pt, go_sem, ruB, hb1.at_, hq1.len]
  have s1 := step1 (show i < 1000000 by omega)
  by_cases g : i < q.places.length
  rotate_left
  · have e1 : decide (((i : Nat) : Int) < ((q.places.length : Nat) : Int)) = false := decide_eq_false (by omega)
    try simp only [go_sem, ruB, e1]
  have e1 : decide (((i : Nat) : Int) < ((q.places.length : Nat) : Int)) = true := decide_eq_true (by omega)
  have hpcs := hL.pcs _ (List.getElem_mem g)
  obtain ⟨wb, wo, xv, c1, c2, c3, cp, c4⟩ := hq1.elem g
  have c33 := c3 3 (by omega)
  simp only [plV, List.getElem?_cons_zero, List.getElem?_cons_succ] at c33
  try simp only [go_sem, ruB, e1, c1, c33, hb1.at_]
  refine WL.mono (Full1_loop (q := q) (i := i) hb1 hq1 cp hpcs hR (hf _ (List.getElem_mem g))) ?_
  rintro _ _ m2 ⟨rfl, ⟨rs, rfl⟩, hx2⟩
  simp only [pt]
  try simp only [go_sem, ruB, s1]
  exact ⟨q.places.length - (i + 1), by omega, i + 1, by omega, rfl, rfl, hx.trans hx2⟩
set_option maxHeartbeats 8000000 in
theorem ChainFull_spec {p : PlanD} {l : List Wt} {v lv : Value} (hv : PlanV m p v) (hs : Sl m 2 l.length (l.flatMap spV) lv) (hb : SlLt m lv) (hc : Cut 2 m lv) : WC R F.law19_ChainFull [v, lv] m fun r m' => r = .bool true := by
  refine WC.of R.law19_ChainFull rfl ?_
  obtain ⟨pv, rfl, hp⟩ := hv
  have l60 : (l.take 60).length ≤ 60 := by rw [List.length_take]; omega
  simp only [RC.law19_ChainFull, planV, go_sem, hp.one]
  have hx1 : Ext m (m.new (.cells [.int .i64 p.frame, u32 p.cores, pv] (some 3))) := Ext.new
  have hb1 : Bk (m.new (.cells [.int .i64 p.frame, u32 p.cores, pv] (some 3))) m.next [.int .i64 p.frame, u32 p.cores, pv] 3 := Bk.new
  generalize m.new (.cells [.int .i64 p.frame, u32 p.cores, pv] (some 3)) = m1 at hx1 hb1 ⊢
  have hs1 := hs.keep hb hx1
  obtain ⟨v', a1, a2, a3⟩ := cut60 hs1 (hb.keep hx1) (hc.keep hb hx1)
  try simp only [go_sem, ruB, hs1.len, a1, hb1.at_, hp.one]
  generalize l.take 60 = l' at *
  refine gC.of (Light_spec (p := p) ⟨pv, rfl, hp.keep hx1⟩) ?_
  rintro _ m2 ⟨rfl, hx2⟩
  by_cases hL : lightP p = true
  rotate_left
  · have e : lightP p = false := by simpa using hL
    try simp only [go_sem, ruB, e]
    refine gC.of (ok_spec R.law19_awake) ?_
    rintro _ m_ ⟨rfl, hm_⟩
    replace hm_ := hm_.symm
    subst hm_
    simp only [go_sem]
    try simp only [go_sem, ruB]
  have hLL := light_l hL
  have hx02 := hx1.trans hx2
  have hb12 := hb1.keep hx2
  try simp only [go_sem, ruB, hL, hb12.at_, hp.one]
  refine gC.of (Split_spec (p := p) (l := l') ⟨pv, rfl, hp.keep hx02⟩ (a2.keep a3 hx2) (a3.keep hx2) l60 hL) ?_
  rintro _ m3 ⟨hx3, ⟨g, rfl⟩ | ⟨g, qv, rfl, hq⟩⟩
  · have e1 : (whyC p l' != 0) = true := by rw [bne_iff_ne]; exact g
    have hx03 := hx02.trans hx3
    have b3 := hb12.keep hx3
    try simp only [go_sem, ruB, aExt0, aExt1]
    have hx4 : Ext m3 (m3.new (.cells [.int .i64 0, u32 0#32, .slice none 0 0] (some 3))) := Ext.new
    have hb4 : Bk (m3.new (.cells [.int .i64 0, u32 0#32, .slice none 0 0] (some 3))) m3.next [.int .i64 0, u32 0#32, .slice none 0 0] 3 := Bk.new
    generalize m3.new (.cells [.int .i64 0, u32 0#32, .slice none 0 0] (some 3)) = m4 at hx4 hb4 ⊢
    have hx04 := hx03.trans hx4
    have b4 := b3.keep hx4
    try simp only [go_sem, ruB, e1, b3.at_, b4.at_, hp.one]
    refine gC.of (refWhy_spec (p := p) (l := l') ⟨pv, rfl, hp.keep hx04⟩ (((a2.keep a3 hx2).keep (a3.keep hx2) hx3).keep ((a3.keep hx2).keep hx3) hx4) (((a3.keep hx2).keep hx3).keep hx4) l60 hLL) ?_
    rintro _ m5 ⟨rfl, hx5⟩
    try simp only [go_sem, ruB, e1]
    refine gC.of (ok_spec R.law19_awake) ?_
    rintro _ m_ ⟨rfl, hm_⟩
    replace hm_ := hm_.symm
    subst hm_
    simp only [go_sem]
    try simp only [go_sem, ruB]
  obtain ⟨qp, rfl, hqp⟩ := hq
  have hCI := splitR_CI hL g
  have hR := (why0 g).1
  have hRq := splitR_right hR hCI
  have hLq := splitR_l hL l60 g
  have e0 : ((0 : Int) != 0) = false := rfl
  have hx03 := hx02.trans hx3
  have b3 := hb12.keep hx3
  simp only [planV]
  try simp only [go_sem, ruB, aExt0, aExt1, hqp.one]
  have hx4 : Ext m3 (m3.new (.cells [.int .i64 (splitR p l').frame, u32 (splitR p l').cores, qp] (some 3))) := Ext.new
  have hb4 : Bk (m3.new (.cells [.int .i64 (splitR p l').frame, u32 (splitR p l').cores, qp] (some 3))) m3.next [.int .i64 (splitR p l').frame, u32 (splitR p l').cores, qp] 3 := Bk.new
  generalize m3.new (.cells [.int .i64 (splitR p l').frame, u32 (splitR p l').cores, qp] (some 3)) = m4 at hx4 hb4 ⊢
  have hx04 := hx03.trans hx4
  have b4 := b3.keep hx4
  have hq4 := hqp.keep hx4
  have hp4 := hp.keep hx04
  have s4 := ((a2.keep a3 hx2).keep (a3.keep hx2) hx3).keep ((a3.keep hx2).keep hx3) hx4
  have t4 := ((a3.keep hx2).keep hx3).keep hx4
  try simp only [go_sem, ruB, e0, hb4.at_, b4.at_, hq4.one]
  refine WL.mono (Full2_loop (q := splitR p l') (b5 := m3.next) hb4 hq4 hLq (hRq.pr hLq) fun x hx j hj => splitR_full hCI hx hj) ?_
  rintro _ _ m5 rfl
  try simp only [go_sem, ruB]
  refine gC.of (ok_spec R.law19_awake) ?_
  rintro _ m_ ⟨rfl, hm_⟩
  replace hm_ := hm_.symm
  subst hm_
  simp only [go_sem]
  try simp only [go_sem, ruB]
end Go.Am


/- ChainFull, of arguments as they are read. -/
set_option linter.unusedVariables false
namespace Go.Am
theorem law19_ChainFull_walk (m : Mem) (us : List Value) (h : RdAs m [(true, planSh), (false, [.sl [.int .i64, .int .i64]])] us) : WC R F.law19_ChainFull us m fun v _ => v = .bool true := by
  obtain ⟨_, _, rfl, h1, h⟩ := h.one; obtain ⟨_, _, rfl, h2, h⟩ := h.one; cases h.none
  obtain ⟨p, hp, -⟩ := plan_read h1
  obtain ⟨l, hl, hb, hc⟩ := sp_read h2.rd
  exact ChainFull_spec hp hl hb hc
end Go.Am
