/- Parts of the proofs of the statements of this seat: LedgerzRosterRB, LedgerzRosterX3, LedgerzRosterX4, MaskPop, LedgerzCoresP, LedgerzCoresTab, LedgerzCoresW, LedgerzCoresW2, LedgerzCoresMul, LedgerzCoresW3, LedgerzL1, LedgerzL2, LedgerzL3, LedgerzL4, LedgerzL5, LedgerzL6, LedgerzL7, LedgerzL8, LedgerzL9, LedgerzCms, LedgerzLA, LedgerzCoresR, LedgerzCoresR2, LedgerzM1, LedgerzM2. No conditions. -/
import Derived.Test.YtapnnihajniakaaGreatLedgerForkPart4
import Derived.Test.YtapnnihajniakaaGreatLedgerForkPart5
import Derived.Test.YtapnnihajniakaaGreatLedgerForkPart6
import Derived.Test.YtapnnihajniakaaGreatLedgerForkPart3
set_option linter.unusedVariables false
set_option linter.unusedSimpArgs false

/- RosterRB over the table of ledgerz (relayset.py). -/
set_option linter.unusedVariables false
set_option linter.unusedSimpArgs false
namespace Go.Am
open Classical
variable {m : Mem}

theorem refSame28 {l k : List Sp} {v w : Value} (hs : Sl m 2 l.length (l.flatMap spV) v) (ht : Sl m 2 k.length (k.flatMap spV) w) (hl : l.length < 1000000) (hk : k.length < 1000000) (e : l = k) :
    WC R F.ref08_Same [v, w] m fun r m' => r = .bool true ∧ m' = m := by
  subst e
  refine WC.of R.ref08_Same rfl ?_
  have e0 : (((l.length : Nat) : Int) != ((l.length : Nat) : Int)) = false := by rw [bne_eq_false_iff_eq]
  simp only [RC.ref08_Same, go_sem, hs.len, ht.len, e0]
  refine WL.of (fun n e m' => ∃ i : Nat, i ≤ l.length ∧ n = l.length - i ∧ e = [(0, v), (1, w), (5, .int .i64 i)] ∧ m' = m) l.length
    ⟨0, by omega, by omega, by simp only [go_sem] <;> rfl, rfl⟩ ?_
  rintro _ _ _ ⟨i, hi, rfl, rfl, rfl⟩
  simp only [RB.ref08_Same_1, go_sem, hs.len]
  have s1 := st1 (show i < 1000000 by omega)
  by_cases g1 : i < l.length
  · have e1 : decide (((i : Nat) : Int) < ((l.length : Nat) : Int)) = true := decide_eq_true (by omega)
    obtain ⟨b, o, a1, a2, a3, a4⟩ := hs.elem spV_len (k := .i64) g1
    obtain ⟨b', o', c1, c2, c3, c4⟩ := ht.elem spV_len (k := .i64) g1
    simp only [spV] at a2 c2
    have f1 : ((l[i]).1 == (l[i]).1) = true := by rw [beq_iff_eq]
    have f2 : ((l[i]).2 == (l[i]).2) = true := by rw [beq_iff_eq]
    try simp only [go_sem, ruB, e1, a1, a2, c1, c2, f1, f2, s1]
    exact ⟨l.length - (i + 1), by omega, i + 1, by omega, rfl, rfl⟩
  · have e1 : decide (((i : Nat) : Int) < ((l.length : Nat) : Int)) = false := decide_eq_false (by omega)
    try simp only [go_sem, ruB, e1]

theorem tasksL_ids {s : Rs} (k : RsWf s) : (tasksL s).map Tk.id = kN s.T 200 := by
  rw [kN_sort k.k.tn k.k.tr]
  unfold tasksL
  rw [List.map_map]
  refine (List.map_congr_left fun x hx => ?_).trans (List.map_id _)
  obtain ⟨p, hp, rfl⟩ := List.mem_map.1 (sortI_mem.1 hx)
  show ((lkp s.T p.1).getD zT).id = p.1
  rw [lkp_mem k.k.tn (a := p.2) hp]; exact k.ti p hp
theorem groupsL_ids {s : Rs} (k : RsWf s) : (groupsL s).map Gp.id = kN s.G 40 := by
  rw [kN_sort k.k.gn k.k.gr]
  unfold groupsL
  rw [List.map_map]
  refine (List.map_congr_left fun x hx => ?_).trans (List.map_id _)
  obtain ⟨p, hp, rfl⟩ := List.mem_map.1 (sortI_mem.1 hx)
  show ((lkp s.G p.1).getD zG).id = p.1
  rw [lkp_mem k.k.gn (a := p.2) hp]; exact k.gi p hp
theorem kN_lt {α : Type} {L : List (Int × α)} {n : Nat} : (kN L n).Pairwise (· < ·) := rng_sorted.sublist List.filter_sublist
theorem tasksL_lt {s : Rs} (k : RsWf s) {i j : Nat} (hij : i < j) (hj : j < (tasksL s).length) : ((tasksL s)[i]'(by omega)).id < ((tasksL s)[j]).id := by
  have h := kN_lt (L := s.T) (n := 200)
  rw [← tasksL_ids k, List.pairwise_map] at h
  exact (List.pairwise_iff_getElem.1 h) i j (by omega) hj hij
theorem groupsL_lt {s : Rs} (k : RsWf s) {i j : Nat} (hij : i < j) (hj : j < (groupsL s).length) : ((groupsL s)[i]'(by omega)).id < ((groupsL s)[j]).id := by
  have h := kN_lt (L := s.G) (n := 40)
  rw [← groupsL_ids k, List.pairwise_map] at h
  exact (List.pairwise_iff_getElem.1 h) i j (by omega) hj hij
theorem kfill_t6 {a b c d e : Int} {f : Bool} : fillL [.int .i64 0, .int .i64 0, .int .i64 0, .int .i64 0, .int .i64 0, .bool false] [(0, 1, .int .i64 a), (1, 1, .int .i64 b), (2, 1, .int .i64 c), (3, 1, .int .i64 d), (4, 1, .int .i64 e), (5, 1, .bool f)] = some [.int .i64 a, .int .i64 b, .int .i64 c, .int .i64 d, .int .i64 e, .bool f] := rfl
theorem kfill_g3 {a b c : Int} : fillL [.int .i64 0, .int .i64 0, .int .i64 0] [(0, 1, .int .i64 a), (1, 1, .int .i64 b), (2, 1, .int .i64 c)] = some [.int .i64 a, .int .i64 b, .int .i64 c] := rfl
theorem beq_selfI (a : Int) : (a == a) = true := by rw [beq_iff_eq]
theorem beq_selfB (a : Bool) : (a == a) = true := by cases a <;> rfl
theorem sb1 {i : Nat} (h0 : 0 < i) (h : i < 1000000) : IntKind.wrap .i64 (((i : Nat) : Int) - 1) = ((i - 1 : Nat) : Int) := by rw [wrap_i64 (by omega) (by omega)]; omega

set_option maxHeartbeats 4000000 in
theorem Alike_tasks {s : Rs} {w : Rr} {tv gv tsv gsv : Value} {q : Nat} (h : RrV m w tv gv) (r : RRel s w) (k : RsWf s) (hq : Bk m q [.int .i64 w.f, tv, gv] 3) (ht : Sl m 6 (tasksL s).length ((tasksL s).flatMap tkV) tsv) (hl : SlLt m tsv) :
    WL R [3, 5, 6, 7] RB.law28_Alike_2 [(3, pt q), (5, tsv), (6, gsv), (7, .int .i64 0)] m fun y e m' => y = .exit 0 ∧ (∃ rs, e = (3, pt q) :: (5, tsv) :: (6, gsv) :: rs) ∧ Ext m m' := by
  have hlt : ∀ i j (hi : i < (tasksL s).length) (hj : j < (tasksL s).length), i < j → ((tasksL s)[i]).id < ((tasksL s)[j]).id := fun i j hi hj h => tasksL_lt k h hj
  have hmem := fun (t : Tk) (ht : t ∈ tasksL s) => lkp_mem k.k.tn (tasksL_mem k ht)
  have htl : (tasksL s).length ≤ 96 := by rw [tasksL_len]; exact k.k.tl
  generalize tasksL s = U at *
  refine WL.of (fun n e m' => ∃ i : Nat, i ≤ U.length ∧ n = U.length - i ∧ e = [(3, pt q), (5, tsv), (6, gsv), (7, .int .i64 i)] ∧ Ext m m') U.length
    ⟨0, by omega, by omega, by simp only [go_sem] <;> rfl, Ext.refl _⟩ ?_
  rintro _ _ m1 ⟨i, hi, rfl, rfl, hx1⟩
  have ht1 := ht.keep hl hx1
  have hq1 := hq.keep hx1
  simp only [RB.law28_Alike_2, pt, go_sem, ht1.len]
  have s1 := st1 (show i < 1000000 by omega)
  by_cases g1 : i < U.length
  · have e1 : decide (((i : Nat) : Int) < ((U.length : Nat) : Int)) = true := decide_eq_true (by omega)
    obtain ⟨b, o, a1, -, a3, -⟩ := ht1.elem tkV_len (k := .i64) g1
    have a30 := a3 0 (by omega)
    simp only [tkV, List.getElem?_cons_zero, Nat.add_zero] at a30
    have hl0 := hmem _ (List.getElem_mem g1)
    try simp only [go_sem, ruB, e1, hq1.at_, a1, a30]
    have hxb : Ext m1 (m1.bump 13) := Ext.bump
    refine gC.of (refFindT (h.keep (hx1.trans hxb)) r k) ?_
    rintro _ m2 ⟨hx2, rfl⟩
    rw [hl0]
    simp only [Option.getD_some, Option.isSome_some, tvA, tkV]
    have hx12 := (hx1.trans hxb).trans hx2
    have n1 := hx1.next
    have n2 := hx2.next
    simp only [Mem.bump_next] at n2
    try simp only [go_sem, ruB, aExt0, aExt1]
    have hx13 : Ext m ((m2.set (m1.next + 10) (some (.cells [.int .i64 0, .int .i64 0, .int .i64 0, .int .i64 0, .int .i64 0, .bool false] (some 6)))).set (m1.next + 10) (some (.cells [.int .i64 (U[i]).id, .int .i64 (U[i]).grp, .int .i64 (U[i]).share, .int .i64 (U[i]).weight, .int .i64 (U[i]).cap, .bool (U[i]).off] (some 6)))) := (hx12.set (by omega)).set (by omega)
    have hb3 : Bk ((m2.set (m1.next + 10) (some (.cells [.int .i64 0, .int .i64 0, .int .i64 0, .int .i64 0, .int .i64 0, .bool false] (some 6)))).set (m1.next + 10) (some (.cells [.int .i64 (U[i]).id, .int .i64 (U[i]).grp, .int .i64 (U[i]).share, .int .i64 (U[i]).weight, .int .i64 (U[i]).cap, .bool (U[i]).off] (some 6)))) (m1.next + 10) [.int .i64 (U[i]).id, .int .i64 (U[i]).grp, .int .i64 (U[i]).share, .int .i64 (U[i]).weight, .int .i64 (U[i]).cap, .bool (U[i]).off] 6 := ⟨by simp [Mem.set], by show m1.next + 10 < m2.next; omega⟩
    generalize (m2.set (m1.next + 10) (some (.cells [.int .i64 0, .int .i64 0, .int .i64 0, .int .i64 0, .int .i64 0, .bool false] (some 6)))).set (m1.next + 10) (some (.cells [.int .i64 (U[i]).id, .int .i64 (U[i]).grp, .int .i64 (U[i]).share, .int .i64 (U[i]).weight, .int .i64 (U[i]).cap, .bool (U[i]).off] (some 6))) = m3 at hx13 hb3 ⊢
    have ht3 := ht.keep hl hx13
    obtain ⟨b', o', c1, c2, c3, -⟩ := ht3.elem tkV_len (k := .i64) g1
    have c30 := c3 0 (by omega)
    simp only [tkV, List.getElem?_cons_zero, Nat.add_zero] at c30 c2
    by_cases g2 : 0 < i
    · have e2 : decide ((0 : Int) < ((i : Nat) : Int)) = true := decide_eq_true (by omega)
      obtain ⟨b2, o2, d1, -, d3, -⟩ := ht3.elem tkV_len (k := .i64) (show i - 1 < U.length by omega)
      have d30 := d3 0 (by omega)
      simp only [tkV, List.getElem?_cons_zero, Nat.add_zero] at d30
      have hlt1 := hlt (i - 1) i (by omega) g1 (by omega)
      have e3 : decide ((U[i]).id ≤ (U[i - 1]).id) = false := decide_eq_false (by omega)
      try simp only [go_sem, ruB, e2, sb1 g2 (show i < 1000000 by omega), c1, c2, c30, d1, d30, e3, hb3.at_, ↓kfill_t6, beq_selfI, beq_selfB, s1]
      exact ⟨U.length - (i + 1), by omega, i + 1, by omega, rfl, rfl, hx13⟩
    · have e2 : decide ((0 : Int) < ((i : Nat) : Int)) = false := decide_eq_false (by omega)
      try simp only [go_sem, ruB, e2, c1, c2, hb3.at_, ↓kfill_t6, beq_selfI, beq_selfB, s1]
      exact ⟨U.length - (i + 1), by omega, i + 1, by omega, rfl, rfl, hx13⟩
  · have e1 : decide (((i : Nat) : Int) < ((U.length : Nat) : Int)) = false := decide_eq_false (by omega)
    try simp only [go_sem, ruB, e1]
    exact ⟨⟨_, rfl⟩, hx1⟩

set_option maxHeartbeats 4000000 in
theorem Alike_groups {s : Rs} {w : Rr} {tv gv gsv : Value} {q : Nat} (h : RrV m w tv gv) (r : RRel s w) (k : RsWf s) (hq : Bk m q [.int .i64 w.f, tv, gv] 3) (ht : Sl m 3 (groupsL s).length ((groupsL s).flatMap gpV) gsv) (hl : SlLt m gsv) :
    WL R [3, 6, 10] RB.law28_Alike_1 [(3, pt q), (6, gsv), (10, .int .i64 0)] m fun y e m' => y = .exit 2 ∧ Ext m m' := by
  have hlt : ∀ i j (hi : i < (groupsL s).length) (hj : j < (groupsL s).length), i < j → ((groupsL s)[i]).id < ((groupsL s)[j]).id := fun i j hi hj h => groupsL_lt k h hj
  have hmem := fun (t : Gp) (ht : t ∈ groupsL s) => lkp_mem k.k.gn (groupsL_mem k ht)
  have htl : (groupsL s).length ≤ 40 := by rw [groupsL_len]; exact k.k.gl
  generalize groupsL s = U at *
  refine WL.of (fun n e m' => ∃ i : Nat, i ≤ U.length ∧ n = U.length - i ∧ e = [(3, pt q), (6, gsv), (10, .int .i64 i)] ∧ Ext m m') U.length
    ⟨0, by omega, by omega, by simp only [go_sem] <;> rfl, Ext.refl _⟩ ?_
  rintro _ _ m1 ⟨i, hi, rfl, rfl, hx1⟩
  have ht1 := ht.keep hl hx1
  have hq1 := hq.keep hx1
  simp only [RB.law28_Alike_1, pt, go_sem, ht1.len]
  have s1 := st1 (show i < 1000000 by omega)
  by_cases g1 : i < U.length
  · have e1 : decide (((i : Nat) : Int) < ((U.length : Nat) : Int)) = true := decide_eq_true (by omega)
    obtain ⟨b, o, a1, -, a3, -⟩ := ht1.elem gpV_len (k := .i64) g1
    have a30 := a3 0 (by omega)
    simp only [gpV, List.getElem?_cons_zero, Nat.add_zero] at a30
    have hl0 := hmem _ (List.getElem_mem g1)
    try simp only [go_sem, ruB, e1, hq1.at_, a1, a30]
    refine gC.of (refGroupR (h.keep hx1) r k) ?_
    rintro v m2 ⟨hx2, hv⟩
    have hx12 := hx1.trans hx2
    rcases hv with ⟨j, hj, g, hg, hgj, rfl⟩ | ⟨hg, rfl⟩
    rotate_left
    · rw [hl0] at hg; cases hg
    rw [hl0] at hg
    cases hg
    have e2 : decide (((j : Nat) : Int) < 0) = false := decide_eq_false (by omega)
    have ht2 := ht.keep hl hx12
    have hq2 := hq.keep hx12
    obtain ⟨b', o', c1, c2, c3, c4⟩ := ht2.elem gpV_len (k := .i64) g1
    have nb' := c4 (hl.keep hx12)
    have c30 := c3 0 (by omega)
    simp only [gpV, List.getElem?_cons_zero, Nat.add_zero] at c30 c2
    obtain ⟨bb, oo, f1, -, f3, f4⟩ := (h.g.keep h.gl hx12).elem spV_len (k := .i64) hj
    have nbb := f4 (h.gl.keep hx12)
    have f31 := f3 1 (by omega)
    rw [hgj] at f31
    simp only [spV, List.getElem?_cons_zero, List.getElem?_cons_succ] at f31
    by_cases g2 : 0 < i
    · have e3 : decide ((0 : Int) < ((i : Nat) : Int)) = true := decide_eq_true (by omega)
      obtain ⟨b2, o2, d1, -, d3, -⟩ := ht2.elem gpV_len (k := .i64) (show i - 1 < U.length by omega)
      have d30 := d3 0 (by omega)
      simp only [gpV, List.getElem?_cons_zero, Nat.add_zero] at d30
      have hlt1 := hlt (i - 1) i (by omega) g1 (by omega)
      have e4 : decide ((U[i]).id ≤ (U[i - 1]).id) = false := decide_eq_false (by omega)
      try simp only [go_sem, ruB, e2, e3, e4, sb1 g2 (show i < 1000000 by omega), c1, c2, c30, d1, d30, hq2.at_, f1, f31]
      refine gC.of (refMembers (h.keep hx12)) ?_
      rintro _ m3 ⟨hx3, rfl⟩
      rw [r.mem k hl0]
      try simp only [go_sem, ruB, ↓kfill_g3, beq_selfI, s1]
      exact ⟨⟨hx3.same _ nb', hx3.same _ nb', hx3.same _ hq2.lt, hx3.same _ nbb⟩, U.length - (i + 1), by omega, i + 1, by omega, rfl, rfl, hx12.trans hx3⟩
    · have e3 : decide ((0 : Int) < ((i : Nat) : Int)) = false := decide_eq_false (by omega)
      try simp only [go_sem, ruB, e2, e3, c1, c2, c30, hq2.at_, f1, f31]
      refine gC.of (refMembers (h.keep hx12)) ?_
      rintro _ m3 ⟨hx3, rfl⟩
      rw [r.mem k hl0]
      try simp only [go_sem, ruB, ↓kfill_g3, beq_selfI, s1]
      exact ⟨⟨hx3.same _ nb', hx3.same _ nb', hx3.same _ hq2.lt, hx3.same _ nbb⟩, U.length - (i + 1), by omega, i + 1, by omega, rfl, rfl, hx12.trans hx3⟩
  · have e1 : decide (((i : Nat) : Int) < ((U.length : Nat) : Int)) = false := decide_eq_false (by omega)
    try simp only [go_sem, ruB, e1]
    exact hx1

set_option maxHeartbeats 4000000 in
/-- Alike tells that they are. -/
theorem Alike_spec {b q1 q2 : Nat} {s : Rs} {w : Rr} {tv gv : Value} (hv : RosV m b q1 q2 s) (k : RsWf s) (h : RrV m w tv gv) (r : RRel s w) : WC R F.law28_Alike [pt b, rrA w.f tv gv] m fun v m' => v = .bool true ∧ Ext m m' := by
  refine WC.of R.law28_Alike rfl ?_
  simp only [RC.law28_Alike, RB.law28_Alike_1, RB.law28_Alike_2, pt, go_sem, h.t.one, h.g.one]
  have hx1 : Ext m (m.new (.cells [.int .i64 w.f, tv, gv] (some 3))) := Ext.new
  have hb1 : Bk (m.new (.cells [.int .i64 w.f, tv, gv] (some 3))) m.next [.int .i64 w.f, tv, gv] 3 := Bk.new
  have hn1 : (m.new (.cells [.int .i64 w.f, tv, gv] (some 3))).next = m.next + 1 := rfl
  generalize m.new (.cells [.int .i64 w.f, tv, gv] (some 3)) = m1 at hx1 hb1 hn1 ⊢
  refine gC.of (Tasks_spec (hv.keep hx1) k.k) ?_
  rintro tsv m2 ⟨ho1, hx2⟩
  have hx12 := hx1.trans hx2
  try simp only [go_sem, ruB]
  refine gC.of (Groups_spec (hv.keep hx12) k.k) ?_
  rintro gsv m3 ⟨ho2, hx3⟩
  have hx13 := hx12.trans hx3
  have B3 := (hb1.keep hx2).keep hx3
  have q1' := ho1.keep hx3
  have h3 := h.keep hx13
  have e1 : (((((tasksL s).length : Nat) : Int)) != ((w.T.length : Nat) : Int)) = false := by rw [bne_eq_false_iff_eq, tasksL_len, r.tl]
  have e2 : (((((groupsL s).length : Nat) : Int)) != ((w.G.length : Nat) : Int)) = false := by rw [bne_eq_false_iff_eq, groupsL_len, r.gl]
  try simp only [go_sem, ruB, B3.at_, q1'.sl.len, ho2.sl.len, h3.t.len, h3.g.len, e1, e2]
  refine gC.of (Total_spec (hv.keep hx13) k) ?_
  rintro _ m4 ⟨rfl, hx4⟩
  have hx14 := hx13.trans hx4
  have B4 := B3.keep hx4
  try simp only [go_sem, ruB, B4.at_]
  refine ⟨B3.at_.symm, gC.of (refTotal28 (h.keep hx14) r k) ?_⟩
  rintro _ m5 ⟨hx5, rfl⟩
  have hx15 := hx14.trans hx5
  have B5 := B4.keep hx5
  have e3 : (shSumR (unitsR s) != shSumR (unitsR s)) = false := by rw [bne_eq_false_iff_eq]
  try simp only [go_sem, ruB, e3, B5.at_]
  refine gC.of (Units_spec (hv.keep hx15) k) ?_
  rintro u1 m6 ⟨ho3, hx6⟩
  have hx16 := hx15.trans hx6
  have B6 := B5.keep hx6
  try simp only [go_sem, ruB, B6.at_]
  refine ⟨B5.at_.symm, gC.of (refUnits28 (h.keep hx16) r k) ?_⟩
  rintro u2 m7 ⟨hx7, ho4⟩
  have hx17 := hx16.trans hx7
  have B7 := B6.keep hx7
  have hul := unitsR_len k
  try simp only [go_sem, ruB]
  refine gC.of (refSame28 (ho3.keep hx7).sl ho4.sl (by omega) (by omega) rfl) ?_
  rintro _ _ ⟨rfl, hm⟩
  replace hm := hm.symm
  subst hm
  have hx37 := ((hx4.trans hx5).trans hx6).trans hx7
  have t7 := q1'.keep hx37
  have g7 := ho2.keep hx37
  try simp only [go_sem, ruB]
  refine WL.mono (Alike_tasks (h.keep hx17) r k B7 t7.sl t7.lt (gsv := gsv)) ?_
  rintro _ _ m8 ⟨rfl, ⟨rs, rfl⟩, hx8⟩
  have hx18 := hx17.trans hx8
  have g8 := g7.keep hx8
  simp only [pt]
  try simp only [go_sem, ruB]
  refine WL.mono (Alike_groups (h.keep hx18) r k (B7.keep hx8) g8.sl g8.lt) ?_
  rintro _ _ m9 ⟨rfl, hx9⟩
  try simp only [go_sem, ruB]
  exact hx18.trans hx9
end Go.Am


/- RosterX3 over the table of ledgerz (relayset.py). -/
set_option linter.unusedVariables false
set_option linter.unusedSimpArgs false
namespace Go.Am
open Classical
variable {m : Mem}

structure RE (m : Mem) (p : Nat) (fp : List Nat) (w : Rr) (tv gv : Value) : Prop where
  rv : RrV m w tv gv
  bk : Bk m p [.int .i64 w.f, tv, gv] 3
  ft : ∀ x ∈ vb tv, x ∉ fp
  fg : ∀ x ∈ vb gv, x ∉ fp
  lt : ∀ x ∈ fp, x < m.next
  pin : p ∈ fp
theorem RrV.upd {m m' : Mem} {w : Rr} {tv gv : Value} {fq : List Nat} (h : RrV m w tv gv) (hx : Upd m m' fq) (h1 : ∀ x ∈ vb tv, x ∉ fq) (h2 : ∀ x ∈ vb gv, x ∉ fq) : RrV m' w tv gv :=
  ⟨h.t.upd h.tl (SlOff.vb_iff.2 h1) hx, h.tl.upd hx, h.g.upd h.gl (SlOff.vb_iff.2 h2) hx, h.gl.upd hx, h.tn, h.gn⟩
theorem RE.keep {m m' : Mem} {p : Nat} {fp : List Nat} {w : Rr} {tv gv : Value} (h : RE m p fp w tv gv) (hx : Ext m m') : RE m' p fp w tv gv :=
  ⟨h.rv.keep hx, h.bk.keep hx, h.ft, h.fg, fun x hm => Nat.lt_of_lt_of_le (h.lt x hm) hx.next, h.pin⟩
theorem RE.upd {m m' : Mem} {p : Nat} {fp fq : List Nat} {w : Rr} {tv gv : Value} (h : RE m p fp w tv gv) (hx : Upd m m' fq) (hs : ∀ x ∈ fq, x ∈ fp) (hp : p ∉ fq) : RE m' p fp w tv gv :=
  ⟨h.rv.upd hx (fun x hx hm => h.ft x hx (hs x hm)) (fun x hx hm => h.fg x hx (hs x hm)), h.bk.upd hx hp, h.ft, h.fg, fun x hm => Nat.lt_of_lt_of_le (h.lt x hm) hx.next, h.pin⟩
theorem New.free {m : Mem} {v v' : Value} (h : New m v v') {fp : List Nat} (hv : ∀ x ∈ vb v, x ∉ fp) (hl : ∀ x ∈ fp, x < m.next) : ∀ x ∈ vb v', x ∉ fp := by
  rcases h with rfl | h
  · exact hv
  · intro x hx hm
    have := h x hx; have := hl x hm; omega
theorem RE.put {m M : Mem} {p : Nat} {fp : List Nat} {w w' : Rr} {tv gv tv' gv' : Value} (h : RE m p fp w tv gv) (hn : m.next ≤ M.next) (k : RrV M w' tv' gv') (f1 : ∀ x ∈ vb tv', x ∉ fp) (f2 : ∀ x ∈ vb gv', x ∉ fp) :
    RE (M.set p (some (.cells [.int .i64 w'.f, tv', gv'] (some 3)))) p fp w' tv' gv' := by
  have hp := h.lt p h.pin
  have hU : Upd M (M.set p (some (.cells [.int .i64 w'.f, tv', gv'] (some 3)))) [p] := Upd.set (by simp)
  refine ⟨k.upd hU (fun x hx hm => ?_) (fun x hx hm => ?_), ⟨by simp [Mem.set], by show p < M.next; omega⟩, f1, f2, fun x hm => Nat.lt_of_lt_of_le (h.lt x hm) hn, h.pin⟩
  · rw [List.mem_singleton] at hm; rw [hm] at hx; exact f1 p hx h.pin
  · rw [List.mem_singleton] at hm; rw [hm] at hx; exact f2 p hx h.pin
theorem RRel.new {f : Int} : RRel ⟨f, [], []⟩ ⟨f, [], []⟩ := ⟨rfl, List.Perm.refl _, List.Perm.refl _⟩
theorem RrV.new {f : Int} : RrV m ⟨f, [], []⟩ (.slice none 0 0) (.slice none 0 0) := ⟨.nil rfl rfl, trivial, .nil rfl rfl, trivial, by simp, by simp⟩
theorem RE.new {p : Nat} {fp : List Nat} {f : Int} (hb : Bk m p [.int .i64 f, .slice none 0 0, .slice none 0 0] 3) (hl : ∀ x ∈ fp, x < m.next) (hp : p ∈ fp) : RE m p fp ⟨f, [], []⟩ (.slice none 0 0) (.slice none 0 0) :=
  ⟨.new, hb, fun x hx => by simp [vb] at hx, fun x hx => by simp [vb] at hx, hl, hp⟩
theorem kfill_r {a : Int} : fillL [.int .i64 0, .slice none 0 0, .slice none 0 0] [(0, 1, .int .i64 a)] = some [.int .i64 a, .slice none 0 0, .slice none 0 0] := rfl
end Go.Am


/- RosterX4 over the table of ledgerz (relayset.py). -/
set_option linter.unusedVariables false
set_option linter.unusedSimpArgs false
namespace Go.Am
open Classical
variable {m : Mem}

theorem New.at_ {m : Mem} {N k : Nat} {v v' : Value} (h : New (m.bump N) v v') (hl : SlLt m v) (hk : k < N) : ∀ x ∈ vb v', x ∉ [m.next + k] := by
  intro x hx hm
  rw [List.mem_singleton] at hm
  rcases h with rfl | h
  · have := SlLt.vb_iff.1 hl x hx; omega
  · have := h x hx; simp only [Mem.bump_next] at this; omega
end Go.Am


/- Counting the bits of a word by halves, as math/bits does: what it comes to. -/
namespace Go.Am

/-- How many of the first n bits are set. -/
def popN : Nat → Nat → Nat
  | 0, _ => 0
  | n + 1, x => x % 2 + popN n (x / 2)

def rep (m : Nat) : Nat → Nat
  | 0 => 0
  | n + 1 => m + 256 * rep m n

def halves (s m n x : Nat) : Nat := ((x / 2 ^ s) &&& rep m n) + (x &&& rep m n)

/-- The third step: one sum, then the mask. -/
def thirds (n x : Nat) : Nat := (x / 16 + x) &&& rep 15 n

/-- The bytes of a number, each counted. -/
def counted : Nat → Nat → Nat
  | 0, _ => 0
  | n + 1, x => popN 8 (x % 256) + 256 * counted n (x / 256)

attribute [local irreducible] popN counted halves thirds rep

end Go.Am


/- CoresP over the table of ledgerz (relayset.py). -/
set_option linter.unusedVariables false
set_option linter.unusedSimpArgs false
namespace Go.Am.Co
/-- The members' bits. -/
def mkN (p : Int → Bool) : List Int → Nat
  | [] => 0
  | a :: r => (if p a then 1 else 0) + 2 * mkN p r

theorem mkN_lt {p : Int → Bool} : ∀ {L : List Int}, mkN p L < 2 ^ L.length
  | [] => by simp [mkN]
  | a :: r => by
    have := mkN_lt (p := p) (L := r)
    simp only [mkN, List.length_cons, Nat.pow_succ]
    split <;> omega

theorem mkN_snoc {p : Int → Bool} {a : Int} : ∀ {L : List Int}, mkN p (L ++ [a]) = mkN p L + (if p a then 2 ^ L.length else 0)
  | [] => by simp [mkN]
  | b :: r => by
    simp only [List.cons_append, mkN, mkN_snoc (L := r), List.length_cons, Nat.pow_succ]
    split <;> split <;> omega

theorem mkN_take {p : Int → Bool} {L : List Int} {i : Nat} (h : i < L.length) : mkN p (L.take (i + 1)) = mkN p (L.take i) + (if p L[i] then 2 ^ i else 0) := by
  rw [List.take_succ_eq_append_getElem h, mkN_snoc, List.length_take, Nat.min_eq_left (by omega)]

def mk32 (p : Int → Bool) (L : List Int) : BitVec 32 := BitVec.ofNat 32 (mkN p L)

theorem mk_or {p : Int → Bool} {L : List Int} {i : Nat} (h : i < L.length) (hl : L.length ≤ 16) (hp : p L[i] = true) : mk32 p (L.take i) ||| (1#32 <<< i) = mk32 p (L.take (i + 1)) := by
  apply BitVec.eq_of_toNat_eq
  have h1 : mkN p (L.take i) < 2 ^ i := by
    have := mkN_lt (p := p) (L := L.take i)
    rwa [List.length_take, Nat.min_eq_left (by omega)] at this
  have h2 : 2 ^ i ≤ 2 ^ 16 := Nat.pow_le_pow_right (by omega) (by omega)
  have h3 : (2 : Nat) ^ 16 = 65536 := by decide
  unfold mk32
  rw [BitVec.toNat_or, BitVec.toNat_shiftLeft, BitVec.toNat_ofNat, BitVec.toNat_ofNat, BitVec.toNat_ofNat, mkN_take h, if_pos hp, Nat.mod_eq_of_lt (by omega), Nat.mod_eq_of_lt (by omega), Nat.mod_eq_of_lt (by omega), Nat.shiftLeft_eq, Nat.mod_eq_of_lt (by omega)]
  have := Nat.two_pow_add_eq_or_of_lt h1 1
  rw [Nat.mul_one] at this
  rw [Nat.one_mul, Nat.or_comm, ← this]; omega

theorem mk_skip {p : Int → Bool} {L : List Int} {i : Nat} (h : i < L.length) (hp : p L[i] = false) : mk32 p (L.take (i + 1)) = mk32 p (L.take i) := by
  unfold mk32; rw [mkN_take h, hp]; simp

theorem pop_mk {p : Int → Bool} : ∀ {n : Nat} {L : List Int}, L.length ≤ n → popN n (mkN p L) = L.countP p
  | n, [], _ => by
    have : ∀ n, popN n 0 = 0 := by intro n; induction n with
      | zero => rfl
      | succ n ih => simp [popN, ih]
    simp [mkN, this]
  | n + 1, a :: r, h => by
    have h1 := pop_mk (p := p) (n := n) (L := r) (by simpa using h)
    simp only [popN, mkN, List.countP_cons]
    rw [show ((if p a = true then 1 else 0) + 2 * mkN p r) / 2 = mkN p r by split <;> omega, h1]
    split <;> omega

theorem popN_split : ∀ (a b n : Nat), popN (a + b) n = popN a (n % 2 ^ a) + popN b (n / 2 ^ a)
  | 0, b, n => by simp [popN]
  | a + 1, b, n => by
    rw [show a + 1 + b = (a + b) + 1 by omega]
    simp only [popN]
    rw [popN_split a b (n / 2), Nat.pow_succ]
    have e1 : n % (2 ^ a * 2) % 2 = n % 2 := by rw [Nat.mul_comm]; exact Nat.mod_mul_right_mod _ _ _
    have e2 : n % (2 ^ a * 2) / 2 = n / 2 % 2 ^ a := by rw [Nat.mul_comm, Nat.mod_mul_right_div_self]
    rw [e1, e2, Nat.div_div_eq_div_mul, Nat.mul_comm 2 (2 ^ a)]; omega
end Go.Am.Co


/- CoresTab over the table of ledgerz (relayset.py). -/
set_option linter.unusedVariables false
set_option linter.unusedSimpArgs false
namespace Go.Am.Co
variable {m : Mem}

theorem tab_all : ((List.range 256).all fun y => match aIdxStr (.string ⟨#[0, 1, 1, 2, 1, 2, 2, 3, 1, 2, 2, 3, 2, 3, 3, 4, 1, 2, 2, 3, 2, 3, 3, 4, 2, 3, 3, 4, 3, 4, 4, 5, 1, 2, 2, 3, 2, 3, 3, 4, 2, 3, 3, 4, 3, 4, 4, 5, 2, 3, 3, 4, 3, 4, 4, 5, 3, 4, 4, 5, 4, 5, 5, 6, 1, 2, 2, 3, 2, 3, 3, 4, 2, 3, 3, 4, 3, 4, 4, 5, 2, 3, 3, 4, 3, 4, 4, 5, 3, 4, 4, 5, 4, 5, 5, 6, 2, 3, 3, 4, 3, 4, 4, 5, 3, 4, 4, 5, 4, 5, 5, 6, 3, 4, 4, 5, 4, 5, 5, 6, 4, 5, 5, 6, 5, 6, 6, 7, 1, 2, 2, 3, 2, 3, 3, 4, 2, 3, 3, 4, 3, 4, 4, 5, 2, 3, 3, 4, 3, 4, 4, 5, 3, 4, 4, 5, 4, 5, 5, 6, 2, 3, 3, 4, 3, 4, 4, 5, 3, 4, 4, 5, 4, 5, 5, 6, 3, 4, 4, 5, 4, 5, 5, 6, 4, 5, 5, 6, 5, 6, 6, 7, 2, 3, 3, 4, 3, 4, 4, 5, 3, 4, 4, 5, 4, 5, 5, 6, 3, 4, 4, 5, 4, 5, 5, 6, 4, 5, 5, 6, 5, 6, 6, 7, 3, 4, 4, 5, 4, 5, 5, 6, 4, 5, 5, 6, 5, 6, 6, 7, 4, 5, 5, 6, 5, 6, 6, 7, 5, 6, 6, 7, 6, 7, 7, 8]⟩) (.int .u32 y) with | some (.int .u8 v) => decide (v = (popN 8 y : Nat)) | _ => false) = true := by decide +kernel
theorem tab_at {y : Nat} (h : y < 256) : aIdxStr (.string ⟨#[0, 1, 1, 2, 1, 2, 2, 3, 1, 2, 2, 3, 2, 3, 3, 4, 1, 2, 2, 3, 2, 3, 3, 4, 2, 3, 3, 4, 3, 4, 4, 5, 1, 2, 2, 3, 2, 3, 3, 4, 2, 3, 3, 4, 3, 4, 4, 5, 2, 3, 3, 4, 3, 4, 4, 5, 3, 4, 4, 5, 4, 5, 5, 6, 1, 2, 2, 3, 2, 3, 3, 4, 2, 3, 3, 4, 3, 4, 4, 5, 2, 3, 3, 4, 3, 4, 4, 5, 3, 4, 4, 5, 4, 5, 5, 6, 2, 3, 3, 4, 3, 4, 4, 5, 3, 4, 4, 5, 4, 5, 5, 6, 3, 4, 4, 5, 4, 5, 5, 6, 4, 5, 5, 6, 5, 6, 6, 7, 1, 2, 2, 3, 2, 3, 3, 4, 2, 3, 3, 4, 3, 4, 4, 5, 2, 3, 3, 4, 3, 4, 4, 5, 3, 4, 4, 5, 4, 5, 5, 6, 2, 3, 3, 4, 3, 4, 4, 5, 3, 4, 4, 5, 4, 5, 5, 6, 3, 4, 4, 5, 4, 5, 5, 6, 4, 5, 5, 6, 5, 6, 6, 7, 2, 3, 3, 4, 3, 4, 4, 5, 3, 4, 4, 5, 4, 5, 5, 6, 3, 4, 4, 5, 4, 5, 5, 6, 4, 5, 5, 6, 5, 6, 6, 7, 3, 4, 4, 5, 4, 5, 5, 6, 4, 5, 5, 6, 5, 6, 6, 7, 4, 5, 5, 6, 5, 6, 6, 7, 5, 6, 6, 7, 6, 7, 7, 8]⟩) (.int .u32 y) = some (.int .u8 (popN 8 y : Nat)) := by
  have := List.all_eq_true.1 tab_all y (List.mem_range.2 h)
  generalize aIdxStr (.string ⟨#[0, 1, 1, 2, 1, 2, 2, 3, 1, 2, 2, 3, 2, 3, 3, 4, 1, 2, 2, 3, 2, 3, 3, 4, 2, 3, 3, 4, 3, 4, 4, 5, 1, 2, 2, 3, 2, 3, 3, 4, 2, 3, 3, 4, 3, 4, 4, 5, 2, 3, 3, 4, 3, 4, 4, 5, 3, 4, 4, 5, 4, 5, 5, 6, 1, 2, 2, 3, 2, 3, 3, 4, 2, 3, 3, 4, 3, 4, 4, 5, 2, 3, 3, 4, 3, 4, 4, 5, 3, 4, 4, 5, 4, 5, 5, 6, 2, 3, 3, 4, 3, 4, 4, 5, 3, 4, 4, 5, 4, 5, 5, 6, 3, 4, 4, 5, 4, 5, 5, 6, 4, 5, 5, 6, 5, 6, 6, 7, 1, 2, 2, 3, 2, 3, 3, 4, 2, 3, 3, 4, 3, 4, 4, 5, 2, 3, 3, 4, 3, 4, 4, 5, 3, 4, 4, 5, 4, 5, 5, 6, 2, 3, 3, 4, 3, 4, 4, 5, 3, 4, 4, 5, 4, 5, 5, 6, 3, 4, 4, 5, 4, 5, 5, 6, 4, 5, 5, 6, 5, 6, 6, 7, 2, 3, 3, 4, 3, 4, 4, 5, 3, 4, 4, 5, 4, 5, 5, 6, 3, 4, 4, 5, 4, 5, 5, 6, 4, 5, 5, 6, 5, 6, 6, 7, 3, 4, 4, 5, 4, 5, 5, 6, 4, 5, 5, 6, 5, 6, 6, 7, 4, 5, 5, 6, 5, 6, 6, 7, 5, 6, 6, 7, 6, 7, 7, 8]⟩) (.int .u32 y) = r at *
  split at this
  · rename_i v; simp only [decide_eq_true_eq] at this; rw [this]
  · cases this
theorem tab_at' {y : BitVec 32} (h : y.toNat < 256) : aIdxStr (.string ⟨#[0, 1, 1, 2, 1, 2, 2, 3, 1, 2, 2, 3, 2, 3, 3, 4, 1, 2, 2, 3, 2, 3, 3, 4, 2, 3, 3, 4, 3, 4, 4, 5, 1, 2, 2, 3, 2, 3, 3, 4, 2, 3, 3, 4, 3, 4, 4, 5, 2, 3, 3, 4, 3, 4, 4, 5, 3, 4, 4, 5, 4, 5, 5, 6, 1, 2, 2, 3, 2, 3, 3, 4, 2, 3, 3, 4, 3, 4, 4, 5, 2, 3, 3, 4, 3, 4, 4, 5, 3, 4, 4, 5, 4, 5, 5, 6, 2, 3, 3, 4, 3, 4, 4, 5, 3, 4, 4, 5, 4, 5, 5, 6, 3, 4, 4, 5, 4, 5, 5, 6, 4, 5, 5, 6, 5, 6, 6, 7, 1, 2, 2, 3, 2, 3, 3, 4, 2, 3, 3, 4, 3, 4, 4, 5, 2, 3, 3, 4, 3, 4, 4, 5, 3, 4, 4, 5, 4, 5, 5, 6, 2, 3, 3, 4, 3, 4, 4, 5, 3, 4, 4, 5, 4, 5, 5, 6, 3, 4, 4, 5, 4, 5, 5, 6, 4, 5, 5, 6, 5, 6, 6, 7, 2, 3, 3, 4, 3, 4, 4, 5, 3, 4, 4, 5, 4, 5, 5, 6, 3, 4, 4, 5, 4, 5, 5, 6, 4, 5, 5, 6, 5, 6, 6, 7, 3, 4, 4, 5, 4, 5, 5, 6, 4, 5, 5, 6, 5, 6, 6, 7, 4, 5, 5, 6, 5, 6, 6, 7, 5, 6, 6, 7, 6, 7, 7, 8]⟩) (u32 y) = some (.int .u8 (popN 8 y.toNat : Nat)) := tab_at h

theorem tab_at2 {y : BitVec 32} (h : y.toNat < 256) : aIdxStr (.string Lib.pop8tab) (u32 y) = some (.int .u8 (popN 8 y.toNat : Nat)) := tab_at' h
theorem pop8_le : ∀ (n x : Nat), popN n x ≤ n
  | 0, _ => by simp [popN]
  | n + 1, x => by have := pop8_le n (x / 2); simp only [popN]; omega

theorem wrap_u8 {n : Nat} (h : n < 256) : IntKind.wrap .u8 (n : Int) = n := by
  simp [IntKind.wrap, IntKind.bits, IntKind.signed]; omega

theorem pop_sum {a b c d : Nat} (ha : a ≤ 8) (hb : b ≤ 8) (hc : c ≤ 8) (hd : d ≤ 8) :
    IntKind.i64.wrap (IntKind.u8.wrap (IntKind.u8.wrap (IntKind.u8.wrap ((a : Int) + (b : Int)) + (c : Int)) + (d : Int))) = ((d + c + b + a : Nat) : Int) := by
  rw [← Int.natCast_add, wrap_u8 (by omega), ← Int.natCast_add, wrap_u8 (by omega), ← Int.natCast_add, wrap_u8 (by omega), wrap_i64 (by omega) (by omega)]
  omega

set_option maxRecDepth 20000 in
theorem ones32_spec {x : BitVec 32} : WC R F.math_bits_OnesCount32 [u32 x] m fun v m' => v = .int .i64 (popN 32 x.toNat) ∧ m' = m := by
  refine WC.of R.math_bits_OnesCount32 rfl ?_
  have hx := x.isLt
  have d1 : (x >>> 24).toNat < 256 := by simp [Nat.shiftRight_eq_div_pow]; omega
  have m1 : ∀ y : BitVec 32, (y &&& 255#32).toNat = y.toNat % 256 := fun y => by
    rw [BitVec.toNat_and]; exact Nat.and_two_pow_sub_one_eq_mod _ 8
  have d2 : ∀ y : BitVec 32, (y &&& 255#32).toNat < 256 := fun y => by rw [m1]; omega
  have e : popN 32 x.toNat = popN 8 (x.toNat % 256) + popN 8 (x.toNat / 256 % 256) + popN 8 (x.toNat / 65536 % 256) + popN 8 (x.toNat / 16777216) := by
    rw [popN_split 8 24 x.toNat, popN_split 8 16 (x.toNat / 2 ^ 8), popN_split 8 8 (x.toNat / 2 ^ 8 / 2 ^ 8), Nat.div_div_eq_div_mul, Nat.div_div_eq_div_mul]
    simp only [Nat.reducePow, Nat.reduceMul]; omega
  have l1 := pop8_le 8 (x.toNat % 256); have l2 := pop8_le 8 (x.toNat / 256 % 256); have l3 := pop8_le 8 (x.toNat / 65536 % 256); have l4 := pop8_le 8 (x.toNat / 16777216)
  simp only [RC.math_bits_OnesCount32, go_sem, BitVec.toNat_ofNat, Nat.reducePow, Nat.reduceMod, tab_at2 d1, tab_at2 (d2 _), m1, BitVec.toNat_ushiftRight, Nat.shiftRight_eq_div_pow]
  rw [pop_sum l4 l3 l2 l1, e]

theorem stI {m : Mem} {b i : Nat} {K : List Int} {y : Int} (h : i < K.length) : stB m b (some (.cells (intsZ K) (some 1))) i [.int .i64 y] = some (m.set b (some (.cells (intsZ (K.set i y)) (some 1)))) := by
  have hl : (intsZ K).length = K.length := by simp [intsZ]
  rw [stB_c, if_pos ⟨by simp [hl]; omega, rfl⟩, writeL_one (by omega)]
  unfold intsZ; rw [List.map_set]

/-- Cores: the object. -/
def CS (m : Mem) (b bl : Nat) (L : List Int) : Prop :=
  m.blk b = some (.cells [.slice (some ⟨bl, 0, none⟩) L.length L.length] (some 1)) ∧ m.blk bl = some (.cells (intsZ L) (some 1)) ∧ b ≠ bl ∧ b < m.next ∧ bl < m.next
def pt (b : Nat) : Value := .pointer (some ⟨b, 0, none⟩)

theorem intsZ_get' {l : List Int} {i : Nat} (h : i < l.length) : (intsZ l)[i]? = some (.int .i64 l[i]) := by
  unfold intsZ; rw [List.getElem?_map, List.getElem?_eq_getElem h]; rfl
theorem intsZ_len {l : List Int} : (intsZ l).length = l.length := by simp [intsZ]

theorem Len_spec {b bl : Nat} {L : List Int} (h : CS m b bl L) : WC R F.cores_Set_Len [pt b] m fun v m' => v = .int .i64 L.length ∧ m' = m := by
  refine WC.of R.cores_Set_Len rfl ?_
  simp only [RC.cores_Set_Len, pt, go_sem, ruB, h.1]

theorem State_spec {b bl : Nat} {L : List Int} {c : Int} (h : CS m b bl L) : WC R F.cores_Set_State [pt b, .int .i64 c] m fun v m' =>
    ((∃ (i : Nat) (hi : i < L.length), c = i ∧ v = .tuple #[.int .i64 L[i], .bool true]) ∨ ((c < 0 ∨ L.length ≤ c) ∧ v = .tuple #[.int .i64 0, .bool false])) ∧ m' = m := by
  refine WC.of R.cores_Set_State rfl ?_
  simp only [RC.cores_Set_State, pt, go_sem]
  refine gT.of (fun h1 => ?_) (fun h1 => ?_)
  · simp only [go_sem, h1]
    simp only [decide_eq_true_eq] at h1
    exact .inr (.inl h1)
  · simp only [go_sem, h1]
    refine gC.of (Len_spec h) ?_
    rintro _ m_ ⟨rfl, hm_⟩
    replace hm_ := hm_.symm
    subst hm_
    simp only [go_sem]
    refine gT.of (fun h2 => ?_) (fun h2 => ?_)
    · simp only [go_sem, h2]
      simp only [decide_eq_true_eq] at h2
      exact .inr (.inr h2)
    · simp only [decide_eq_false_iff_not] at h1 h2
      obtain ⟨i, rfl⟩ : ∃ i : Nat, c = i := ⟨c.toNat, by omega⟩
      have hi : i < L.length := by omega
      have g1 : (0 ≤ (i : Int) ∧ (i : Int) < L.length) := by omega
      simp only [pt, go_sem, h1, h2, ruB, h.1, h.2.1, if_pos g1, Int.toNat_natCast, intsZ_get' hi]
      exact .inl ⟨i, hi, rfl, rfl⟩

theorem Index_spec {v : Value} {S : List Int} {x : Int} (hs : Sl m 1 S.length (intsZ S) v) (hl : S.length < 1000000) : WC R F.slices_Index_int_int [v, .int .i64 x] m fun r m' => (∃ n : Int, r = .int .i64 n ∧ (0 ≤ n ↔ x ∈ S)) ∧ m' = m := by
  refine WC.of R.slices_Index_int_int rfl ?_
  simp only [RC.slices_Index_int_int, RB.slices_Index_int_int_1, go_sem, hs.len]
  refine WL.of (fun n e m' => ∃ i : Nat, i ≤ S.length ∧ n = S.length - i ∧ e = [(0, v), (1, .int .i64 x), (7, .int .i64 S.length), (8, .int .i64 i)] ∧ (∀ j (hj : j < S.length), j < i → S[j] ≠ x) ∧ m' = m) S.length ⟨0, by omega, by omega, by simp only [go_sem] <;> rfl, by omega, rfl⟩ ?_
  rintro _ _ _ ⟨i, hi, rfl, rfl, hn, rfl⟩
  simp only [go_sem]
  refine gT.of (fun h => ?_) (fun h => ?_)
  · simp only [decide_eq_true_eq] at h
    have hil : i < S.length := by omega
    obtain ⟨p, e1, e2⟩ := hs.get (k := .i64) (i := i) hil
    rw [intsZ_get' hil] at e2
    simp only [go_sem, h, e1, e2]
    refine gT.of (fun h2 => ?_) (fun h2 => ?_)
    · simp only [go_sem]
      simp only [beq_iff_eq] at h2
      exact ⟨_, rfl, fun _ => by rw [h2]; exact List.getElem_mem hil, fun _ => by omega⟩
    · simp only [go_sem]
      simp only [beq_eq_false_iff_ne] at h2
      refine ⟨S.length - (i + 1), by omega, i + 1, by omega, rfl, ?_, fun j hj hji => ?_⟩
      · rw [wrap_i64 (by omega) (by omega)]; rfl
      · by_cases e : j = i
        · subst e; exact fun e => h2 e.symm
        · exact hn j hj (by omega)
  · simp only [go_sem, h]
    simp only [decide_eq_false_iff_not] at h
    refine ⟨_, rfl, ?_⟩
    constructor
    · intro h; omega
    · intro hm
      obtain ⟨j, hj, e⟩ := List.getElem_of_mem hm
      exact absurd e (hn j hj (by omega))

theorem Contains_spec {v : Value} {S : List Int} {x : Int} (hs : Sl m 1 S.length (intsZ S) v) (hl : S.length < 1000000) : WC R F.slices_Contains_int_int [v, .int .i64 x] m fun r m' => r = .bool (decide (x ∈ S)) ∧ m' = m := by
  refine WC.of R.slices_Contains_int_int rfl ?_
  simp only [RC.slices_Contains_int_int, go_sem]
  refine gC.of (Index_spec hs hl) ?_
  rintro _ _ ⟨⟨n, rfl, hn⟩, rfl⟩
  simp only [go_sem]
  congr 2; exact propext hn
end Go.Am.Co


/- CoresW over the table of ledgerz (relayset.py). -/
set_option linter.unusedVariables false
set_option linter.unusedSimpArgs false
namespace Go.Am.Co
variable {m : Mem}

theorem In_spec {b bl : Nat} {L S : List Int} {v : Value} (h : CS m b bl L) (h16 : L.length ≤ 16) (hs : Sl m 1 S.length (intsZ S) v) (hl : S.length < 1000000) :
    WC R F.cores_Set_In [pt b, v] m fun r m' => r = u32 (mk32 (fun x => decide (x ∈ S)) L) ∧ m' = m := by
  refine WC.of R.cores_Set_In rfl ?_
  simp only [RC.cores_Set_In, RB.cores_Set_In_1, go_sem]
  refine gC.of (Len_spec h) ?_
  rintro _ m_ ⟨rfl, hm_⟩
  replace hm_ := hm_.symm
  subst hm_
  simp only [go_sem]
  refine WL.of (fun n e m' => ∃ i : Nat, i ≤ L.length ∧ n = L.length - i ∧ e = [(0, pt b), (1, v), (5, u32 (mk32 (fun x => decide (x ∈ S)) (L.take i))), (8, .int .i64 L.length), (9, .int .i64 i)] ∧ m' = m) L.length ⟨0, by omega, by omega, by simp only [go_sem] <;> rfl, rfl⟩ ?_
  rintro _ _ _ ⟨i, hi, rfl, rfl, rfl⟩
  simp only [go_sem]
  refine gT.of (fun h1 => ?_) (fun h1 => ?_)
  · simp only [decide_eq_true_eq] at h1
    have hil : i < L.length := by omega
    have g1 : (0 ≤ (i : Int) ∧ (i : Int) < L.length) := by omega
    have e1 : IntKind.wrap .i64 ((i : Int) + 1) = ((i + 1 : Nat) : Int) := by rw [wrap_i64 (by omega) (by omega)]; rfl
    simp only [pt, go_sem, ruB, h.1, h.2.1, if_pos g1, Int.toNat_natCast, intsZ_get' hil]
    refine gC.of (Contains_spec hs hl) ?_
    rintro _ _ ⟨rfl, rfl⟩
    simp only [go_sem]
    refine gT.of (fun h2 => ?_) (fun h2 => ?_)
    · have g2 : (0 : Int) ≤ i := by omega
      simp only [go_sem, e1, if_pos g2, g2, Int.toNat_natCast]
      refine ⟨L.length - (i + 1), by omega, i + 1, by omega, rfl, ?_⟩
      rw [mk_or hil h16 h2]
    · simp only [go_sem, e1]
      refine ⟨L.length - (i + 1), by omega, i + 1, by omega, rfl, ?_⟩
      rw [mk_skip hil h2]
  · simp only [go_sem]
    simp only [decide_eq_false_iff_not] at h1
    rw [List.take_of_length_le (by omega)]

theorem Count_spec {b bl : Nat} {L S : List Int} {v : Value} (h : CS m b bl L) (h16 : L.length ≤ 16) (hs : Sl m 1 S.length (intsZ S) v) (hl : S.length < 1000000) :
    WC R F.cores_Set_Count [pt b, v] m fun r m' => r = .int .i64 (L.countP (fun x => decide (x ∈ S)) : Nat) ∧ m' = m := by
  refine WC.of R.cores_Set_Count rfl ?_
  simp only [RC.cores_Set_Count, go_sem]
  refine gC.of (In_spec h h16 hs hl) ?_
  rintro _ m_ ⟨rfl, hm_⟩
  replace hm_ := hm_.symm
  subst hm_
  simp only [go_sem]
  refine gC.of ones32_spec ?_
  rintro _ m_ ⟨rfl, hm_⟩
  replace hm_ := hm_.symm
  subst hm_
  simp only [go_sem]
  have : (mk32 (fun x => decide (x ∈ S)) L).toNat = mkN (fun x => decide (x ∈ S)) L := by
    unfold mk32
    rw [BitVec.toNat_ofNat]
    have a := mkN_lt (p := fun x => decide (x ∈ S)) (L := L)
    have c : 2 ^ L.length ≤ 2 ^ 16 := Nat.pow_le_pow_right (by omega) h16
    exact Nat.mod_eq_of_lt (by simp only [Nat.reducePow] at *; omega)
  rw [this, pop_mk (by omega)]

/-- What a frame's beginning does. -/
def turnC (x : Int) : Int := if x = 4 then 1 else if x = 2 then 3 else if x = 3 then 0 else x

theorem CS.set {b bl : Nat} {L : List Int} (h : CS m b bl L) (i : Nat) (x : Int) : CS (m.set bl (some (.cells (intsZ (L.set i x)) (some 1)))) b bl (L.set i x) := by
  refine ⟨?_, ?_, h.2.2.1, h.2.2.2.1, h.2.2.2.2⟩
  · rw [set_blk, if_neg h.2.2.1, List.length_set]; exact h.1
  · rw [set_blk, if_pos rfl]

set_option maxHeartbeats 1000000 in
theorem Turn_spec {b bl : Nat} {L : List Int} (h : CS m b bl L) (h16 : L.length ≤ 16) : WC R F.cores_Set_Turn [pt b] m fun r m' =>
    r = .tuple #[u32 (mk32 (fun x => x == 4) L), u32 (mk32 (fun x => x == 2) L)] ∧ CS m' b bl (L.map turnC) ∧ Upd m m' [bl] := by
  refine WC.of R.cores_Set_Turn rfl ?_
  simp only [RC.cores_Set_Turn, RB.cores_Set_Turn_1, pt, go_sem, ruB, h.1]
  refine WL.of (fun n e m' => ∃ i : Nat, i ≤ L.length ∧ n = L.length - i ∧ e = [(0, pt b), (2, u32 (mk32 (fun x => x == 4) (L.take i))), (3, u32 (mk32 (fun x => x == 2) (L.take i))), (11, .slice (some ⟨bl, 0, none⟩) L.length L.length), (12, .int .i64 L.length), (13, .int .i64 i)] ∧
      CS m' b bl ((L.take i).map turnC ++ L.drop i) ∧ Upd m m' [bl]) L.length ⟨0, by omega, by omega, by simp only [pt, go_sem] <;> rfl, by simpa using h, Upd.refl _ _⟩ ?_
  rintro _ _ m1 ⟨i, hi, rfl, rfl, hc, hu⟩
  have hlen : ((L.take i).map turnC ++ L.drop i).length = L.length := by simp; omega
  simp only [go_sem]
  refine gT.of (fun h1 => ?_) (fun h1 => ?_)
  · simp only [decide_eq_true_eq] at h1
    have hil : i < L.length := by omega
    have g1 : (0 ≤ (i : Int) ∧ (i : Int) < L.length) := by omega
    have g2 : (0 : Int) ≤ i := by omega
    have e1 : IntKind.wrap .i64 ((i : Int) + 1) = ((i + 1 : Nat) : Int) := by rw [wrap_i64 (by omega) (by omega)]; rfl
    have get : ((L.take i).map turnC ++ L.drop i)[i]? = some L[i] := by
      rw [List.getElem?_append_right (by simp; omega)]
      simp [Nat.min_eq_left (Nat.le_of_lt hil), List.getElem?_eq_getElem hil]
    have gv : (intsZ ((L.take i).map turnC ++ L.drop i))[i]? = some (.int .i64 L[i]) := by unfold intsZ; rw [List.getElem?_map, get]; rfl
    have e0 : ((L.take i).map turnC).length = i := by rw [List.length_map, List.length_take]; omega
    have hd := List.drop_eq_getElem_cons hil
    have hnx : (L.take (i + 1)).map turnC ++ L.drop (i + 1) = ((L.take i).map turnC ++ L.drop i).set i (turnC L[i]) := by
      rw [List.set_append_right _ _ (by omega), e0, Nat.sub_self, hd, List.set_cons_zero, List.take_succ_eq_append_getElem hil, List.map_append, List.append_assoc]; rfl
    have hsm : turnC L[i] = L[i] → (L.take (i + 1)).map turnC ++ L.drop (i + 1) = (L.take i).map turnC ++ L.drop i := by
      intro e
      rw [hd, List.take_succ_eq_append_getElem hil, List.map_append, List.append_assoc]; simp only [List.map_cons, List.map_nil, e]; rfl
    have hcs := hc
    obtain ⟨c1, c2, c3, c4, c5⟩ := hc
    rw [hlen] at c1
    have g3 : i + 1 ≤ L.length := by omega
    have o4 : ∀ {q : Int → Bool}, q L[i] = true → mk32 q (L.take i) ||| (1#32 <<< i) = mk32 q (L.take (i + 1)) := fun hq => mk_or hil h16 hq
    have s4 : ∀ {q : Int → Bool}, q L[i] = false → mk32 q (L.take i) = mk32 q (L.take (i + 1)) := fun hq => (mk_skip hil hq).symm
    have nx : ∀ K', CS m1 b bl K' → True := fun _ _ => trivial
    have hil2 : i < ((L.take i).map turnC ++ L.drop i).length := by omega
    have fin : ∀ m2 y, m2 = m1.set bl (some (.cells (intsZ (((L.take i).map turnC ++ L.drop i).set i y)) (some 1))) → y = turnC L[i] → CS m2 b bl ((L.take (i + 1)).map turnC ++ L.drop (i + 1)) ∧ Upd m m2 [bl] := by
      rintro _ y rfl rfl
      rw [hnx]
      exact ⟨hcs.set i _, hu.trans (Upd.set (by simp)) (fun _ h => h) (fun _ h => .inl h)⟩
    have fin2 : turnC L[i] = L[i] → CS m1 b bl ((L.take (i + 1)).map turnC ++ L.drop (i + 1)) ∧ Upd m m1 [bl] := fun e => by rw [hsm e]; exact ⟨hcs, hu⟩
    simp only [pt, go_sem, ruB, c1, c2, if_pos g1, Int.toNat_natCast, gv]
    generalize hK : (L.take i).map turnC ++ L.drop i = K at *
    have hKl : K.length = L.length := hlen
    generalize hx : L[i] = x at *
    refine gT.of (fun q4 => ?_) (fun q4 => ?_)
    · simp only [pt, go_sem, ruBz, c1, c2, if_pos g1, if_pos g2, g2, h1, Int.toNat_natCast, stI hil2, e1, o4 (q := fun x => x == 4) q4]
      simp only [beq_iff_eq] at q4
      obtain ⟨f1, f2⟩ := fin _ 1 rfl (by rw [q4]; rfl)
      refine ⟨L.length - (i + 1), by omega, i + 1, by omega, rfl, ?_, f1, f2⟩
      rw [s4 (q := fun x => x == 2) (by rw [q4]; rfl)]
    · have q4' : x ≠ 4 := by simpa using q4
      simp only [go_sem, q4]
      refine gT.of (fun q2 => ?_) (fun q2 => ?_)
      · simp only [pt, go_sem, ruBz, c1, c2, if_pos g1, if_pos g2, g2, h1, Int.toNat_natCast, stI hil2, e1, o4 (q := fun x => x == 2) q2, q4, q2]
        simp only [beq_iff_eq] at q2
        obtain ⟨f1, f2⟩ := fin _ 3 rfl (by rw [q2]; rfl)
        refine ⟨L.length - (i + 1), by omega, i + 1, by omega, rfl, ?_, f1, f2⟩
        rw [s4 (q := fun x => x == 4) (by rw [q2]; rfl)]
      · have q2' : x ≠ 2 := by simpa using q2
        simp only [go_sem, q2]
        refine gT.of (fun q3 => ?_) (fun q3 => ?_)
        · simp only [pt, go_sem, ruBz, c1, c2, if_pos g1, if_pos g2, g2, h1, Int.toNat_natCast, stI hil2, e1, q4, q2, q3]
          simp only [beq_iff_eq] at q3
          obtain ⟨f1, f2⟩ := fin _ 0 rfl (by rw [q3]; rfl)
          refine ⟨L.length - (i + 1), by omega, i + 1, by omega, rfl, ?_, f1, f2⟩
          rw [s4 (q := fun x => x == 4) (by rw [q3]; rfl), s4 (q := fun x => x == 2) (by rw [q3]; rfl)]
        · have q3' : x ≠ 3 := by simpa using q3
          simp only [pt, go_sem, e1, q4, q2, q3]
          obtain ⟨f1, f2⟩ := fin2 (by unfold turnC; rw [if_neg q4', if_neg q2', if_neg q3'])
          refine ⟨L.length - (i + 1), by omega, i + 1, by omega, rfl, ?_, f1, f2⟩
          rw [s4 (q := fun x => x == 4) q4, s4 (q := fun x => x == 2) q2]
  · simp only [go_sem]
    simp only [decide_eq_false_iff_not] at h1
    rw [List.take_of_length_le (by omega), List.drop_of_length_le (by omega), List.append_nil] at hc
    rw [List.take_of_length_le (by omega)]
    exact ⟨rfl, hc, hu⟩
end Go.Am.Co


/- CoresW2 over the table of ledgerz (relayset.py). -/
set_option linter.unusedVariables false
set_option linter.unusedSimpArgs false
namespace Go.Am.Co
variable {m : Mem}

def onl (L : List Int) : Nat := L.countP fun x => decide (x ∈ [(1 : Int)])

/-- A change of a core's state: what is then, and the error's number. -/
def chg (L : List Int) (c fr to : Int) : List Int × Int :=
  if h : 0 ≤ c ∧ c.toNat < L.length then
    if L[c.toNat]'h.2 = fr then (if to = 2 ∧ onl L = 1 then (L, 17) else (L.set c.toNat to, 0)) else (L, 15)
  else (L, 24)

theorem CS.keep {b bl : Nat} {L : List Int} {m' : Mem} (h : CS m b bl L) (hx : Ext m m') : CS m' b bl L :=
  ⟨by rw [hx.same _ h.2.2.2.1]; exact h.1, by rw [hx.same _ h.2.2.2.2]; exact h.2.1, h.2.2.1, Nat.lt_of_lt_of_le h.2.2.2.1 hx.next, Nat.lt_of_lt_of_le h.2.2.2.2 hx.next⟩

theorem change_spec {b bl : Nat} {L : List Int} {c fr to : Int} (h : CS m b bl L) (h16 : L.length ≤ 16) (hne : L ≠ []) : WC R F.cores_Set_change [pt b, .int .i64 c, .int .i64 fr, .int .i64 to] m fun r m' =>
    r = .int .i64 (chg L c fr to).2 ∧ CS m' b bl (chg L c fr to).1 ∧ Upd m m' [bl] := by
  refine WC.of R.cores_Set_change rfl ?_
  simp only [RC.cores_Set_change, go_sem]
  have hpos : 0 < L.length := List.length_pos_iff.2 hne
  have hz : ((L.length : Int) == 0) = false := by rw [beq_eq_false_iff_ne]; omega
  refine gC.of (Len_spec h) ?_
  rintro _ m_ ⟨rfl, hm_⟩
  replace hm_ := hm_.symm
  subst hm_
  simp only [go_sem]
  simp only [go_sem, hz]
  refine gC.of (State_spec h) ?_
  rintro v_ m_ ⟨hv, hm_⟩
  replace hm_ := hm_.symm
  subst hm_
  rcases hv with ⟨i, hi, rfl, rfl⟩ | ⟨ho, rfl⟩
  · have hc : 0 ≤ ((i : Nat) : Int) ∧ ((i : Nat) : Int).toNat < L.length := by omega
    have et : ((i : Nat) : Int).toNat = i := Int.toNat_natCast i
    simp only [go_sem]
    refine gT.of (fun q => ?_) (fun q => ?_)
    · simp only [go_sem]
      have : L[i] ≠ fr := by simpa using q
      have e : chg L i fr to = (L, 15) := by unfold chg; rw [dif_pos hc]; simp only [et]; rw [if_neg this]
      rw [e]; exact ⟨rfl, h, Upd.refl _ _⟩
    · have q' : L[i] = fr := by simpa using q
      simp only [go_sem, q]
      have gi : (0 : Int) ≤ i := by omega
      have gi2 : ((i : Nat) : Int) < L.length := by omega
      have fin : ∀ m1, Ext m m1 → CS m1 b bl L → ¬ (to = 2 ∧ onl L = 1) → (.int .i64 0 : Value) = .int .i64 (chg L i fr to).2 ∧ CS (m1.set bl (some (.cells (intsZ (L.set i to)) (some 1)))) b bl (chg L i fr to).1 ∧ Upd m (m1.set bl (some (.cells (intsZ (L.set i to)) (some 1)))) [bl] := by
        intro m1 hx hc1 hn
        have e : chg L i fr to = (L.set i to, 0) := by unfold chg; rw [dif_pos hc]; simp only [et]; rw [if_pos q', if_neg hn]
        rw [e]
        exact ⟨rfl, hc1.set i to, hx.upd.trans (Upd.set (by simp)) (fun _ h => h) (fun _ h => .inl h)⟩
      refine gT.of (fun t2 => ?_) (fun t2 => ?_)
      · simp only [go_sem, t2]
        simp only [beq_iff_eq] at t2
        have hs : Sl (m.new (.cells [.int .i64 1] (some 1))) 1 [(1 : Int)].length (intsZ [1]) (.slice (some ⟨m.next, 0, none⟩) 1 1) := Sl.fresh rfl
        have hk := h.keep (m' := m.new (.cells [.int .i64 1] (some 1))) Ext.new
        refine gC.of (Count_spec hk h16 hs (by decide)) ?_
        rintro _ m_ ⟨rfl, hm_⟩
        replace hm_ := hm_.symm
        subst hm_
        simp only [go_sem]
        refine gT.of (fun t3 => ?_) (fun t3 => ?_)
        · have t3' : onl L = 1 := by simp only [beq_iff_eq] at t3; unfold onl; omega
          have e : chg L i fr to = (L, 17) := by unfold chg; rw [dif_pos hc]; simp only [et]; rw [if_pos q', if_pos ⟨t2, t3'⟩]
          simp only [go_sem, t3]
          rw [e]; exact ⟨rfl, hk, Ext.new.upd⟩
        · have t3' : onl L ≠ 1 := by simp only [beq_eq_false_iff_ne] at t3; unfold onl; omega
          have hxx : Ext m (m.new (.cells [.int .i64 1] (some 1))) := Ext.new
          clear hs
          generalize m.new (.cells [.int .i64 1] (some 1)) = m1 at *
          simp only [pt, go_sem, t3, ruBz, hk.1, hk.2.1, if_pos gi, gi, gi2, Int.toNat_natCast, stI hi]
          exact fin _ hxx hk (by omega)
      · have t2' : to ≠ 2 := by simpa using t2
        simp only [pt, go_sem, t2, ruBz, h.1, h.2.1, if_pos gi, gi, gi2, Int.toNat_natCast, stI hi]
        exact fin _ (Ext.refl _) h (by omega)
  · simp only [go_sem]
    have e : chg L c fr to = (L, 24) := by unfold chg; rw [dif_neg (by omega)]
    rw [e]; exact ⟨rfl, h, Upd.refl _ _⟩

theorem Plug_spec {b bl : Nat} {L : List Int} {c : Int} (h : CS m b bl L) (h16 : L.length ≤ 16) (hne : L ≠ []) : WC R F.cores_Set_Plug [pt b, .int .i64 c] m fun r m' =>
    r = .int .i64 (chg L c 0 4).2 ∧ CS m' b bl (chg L c 0 4).1 ∧ Upd m m' [bl] := by
  refine WC.of R.cores_Set_Plug rfl ?_
  simp only [RC.cores_Set_Plug, go_sem]
  refine gC.of (change_spec h h16 hne) ?_
  rintro _ _ ⟨rfl, a, c⟩
  simp only [go_sem]
  exact ⟨a, c⟩

theorem Unplug_spec {b bl : Nat} {L : List Int} {c : Int} (h : CS m b bl L) (h16 : L.length ≤ 16) (hne : L ≠ []) : WC R F.cores_Set_Unplug [pt b, .int .i64 c] m fun r m' =>
    r = .int .i64 (chg L c 1 2).2 ∧ CS m' b bl (chg L c 1 2).1 ∧ Upd m m' [bl] := by
  refine WC.of R.cores_Set_Unplug rfl ?_
  simp only [RC.cores_Set_Unplug, go_sem]
  refine gC.of (change_spec h h16 hne) ?_
  rintro _ _ ⟨rfl, a, c⟩
  simp only [go_sem]
  exact ⟨a, c⟩
end Go.Am.Co


/- CoresMul over the table of ledgerz (relayset.py). -/
set_option linter.unusedVariables false
set_option linter.unusedSimpArgs false
namespace Go.Am.Co
theorem Mul64_spec {m : Mem} {x y : BitVec 64} : WC R F.math_bits_Mul64 [u64 x, u64 y] m fun v m' => v = .tuple #[u64 (hiW x y), u64 (x * y)] ∧ m' = m := by
  refine WC.of R.math_bits_Mul64 rfl ?_
  simp only [RC.math_bits_Mul64, go_sem, BitVec.toNat_ofNat, Nat.reducePow, Nat.reduceMod, hiW]
theorem Mul_spec {m : Mem} {x y : BitVec 64} : WC R F.math_bits_Mul [u64 x, u64 y] m fun v m' => v = .tuple #[u64 (hiW x y), u64 (x * y)] ∧ m' = m := by
  refine WC.of R.math_bits_Mul rfl ?_
  simp only [RC.math_bits_Mul, go_sem]
  refine gC.of Mul64_spec ?_
  rintro _ m_ ⟨rfl, hm_⟩
  replace hm_ := hm_.symm
  subst hm_
  simp only [go_sem]
end Go.Am.Co


/- CoresW3 over the table of ledgerz (relayset.py). -/
set_option linter.unusedVariables false
set_option linter.unusedSimpArgs false
namespace Go.Am.Co
variable {m : Mem}

theorem ints_one {l : List Int} : oneCells (intsZ l) = true := by
  unfold oneCells intsZ; rw [List.all_eq_true]; intro x hx
  obtain ⟨t, -, rfl⟩ := List.mem_map.1 hx; rfl

theorem Clone_spec {L : List Int} {b o c : Nat} (hs : Sl m 1 L.length (intsZ L) (.slice (some ⟨b, o, none⟩) L.length c)) (hl : L.length < 1000000) (hb : b < m.next) (hne : L ≠ []) : WC R F.slices_Clone_int_int [.slice (some ⟨b, o, none⟩) L.length c] m fun r m' =>
    ∃ cl, r = .slice (some ⟨cl, 0, none⟩) L.length L.length ∧ m.next ≤ cl ∧ cl < m'.next ∧ m'.blk cl = some (.cells (intsZ L) (some 1)) ∧ Ext m m' := by
  refine WC.of R.slices_Clone_int_int rfl ?_
  have hs2 : Sl (m.new (.cells [] (some 1))) 1 L.length (intsZ L) (.slice (some ⟨b, o, none⟩) L.length c) := hs.keep hb Ext.new
  obtain ⟨m', p1, p2, p3, p4⟩ := app_copy_at (by_ := 8) hs2 ints_one (by omega) (by omega) (by simpa using hne)
  simp only [RC.slices_Clone_int_int, go_sem, p1]
  exact ⟨_, rfl, by omega, by omega, p2, p4⟩

theorem CS.sl {b bl : Nat} {L : List Int} (h : CS m b bl L) : Sl m 1 L.length (intsZ L) (.slice (some ⟨bl, 0, none⟩) L.length L.length) := by
  refine .at (Nat.le_refl _) ?_
  unfold aCells
  rw [h.2.1]
  simp [intsZ_len]
  rw [← intsZ_len (l := L), List.take_length]

theorem CS.mk {m m1 : Mem} {cl : Nat} {L : List Int} (h1 : cl < m1.next) (h2 : m1.blk cl = some (.cells (intsZ L) (some 1))) : CS (m1.new (.cells [.slice (some ⟨cl, 0, none⟩) L.length L.length] (some 1))) m1.next cl L := by
  refine ⟨by rw [new_blk, if_pos rfl], by rw [new_blk, if_neg (by omega)]; exact h2, by omega, by rw [new_next]; omega, by rw [new_next]; omega⟩

theorem Fork_spec {b bl : Nat} {L : List Int} (h : CS m b bl L) (h16 : L.length ≤ 16) (hne : L ≠ []) : WC R F.cores_Set_Fork [pt b] m fun r m' => ∃ c cl, r = pt c ∧ CS m' c cl L ∧ m.next ≤ c ∧ m.next ≤ cl ∧ Ext m m' := by
  refine WC.of R.cores_Set_Fork rfl ?_
  have hpos : 0 < L.length := List.length_pos_iff.2 hne
  have hz : ((L.length : Int) == 0) = false := by rw [beq_eq_false_iff_ne]; omega
  simp only [RC.cores_Set_Fork, go_sem]
  refine gC.of (Len_spec h) ?_
  rintro _ m_ ⟨rfl, hm_⟩
  replace hm_ := hm_.symm
  subst hm_
  simp only [go_sem]
  simp only [pt, go_sem, hz, ruB, h.1]
  refine gC.of (Clone_spec h.sl (by omega) h.2.2.2.2 hne) ?_
  rintro r m1 ⟨cl, rfl, a1, a2, a3, a4⟩
  simp only [go_sem]
  exact ⟨m1.next, cl, rfl, CS.mk (m := m) a2 a3, a4.next, a1, a4.trans Ext.new⟩

/-- Some ones. -/
theorem Repeat_spec {v : Value} {n : Nat} (hs : Sl m 1 1 [.int .i64 1] v) (hb : SlLt m v) (h1 : 1 ≤ n) (h16 : n ≤ 16) : WC R F.slices_Repeat_int_int [v, .int .i64 n] m fun r m' =>
    ∃ cl, r = .slice (some ⟨cl, 0, none⟩) n n ∧ m.next ≤ cl ∧ cl < m'.next ∧ m'.blk cl = some (.cells (intsZ (List.replicate n 1)) (some 1)) ∧ Ext m m' := by
  refine WC.of R.slices_Repeat_int_int rfl ?_
  have q1 : ¬ (n : Int) < 0 := by omega
  simp only [RC.slices_Repeat_int_int, RB.slices_Repeat_int_int_1, go_sem, q1, hs.len]
  refine gC.of Mul_spec ?_
  rintro _ m_ ⟨rfl, hm_⟩
  replace hm_ := hm_.symm
  subst hm_
  simp only [go_sem]
  have e1 : hiW (BitVec.ofInt 64 1) (BitVec.ofInt 64 (n : Int)) = 0#64 := by
    apply BitVec.eq_of_toNat_eq
    rw [hiW_spec]
    simp <;> omega
  have e2 : BitVec.ofInt 64 1 * BitVec.ofInt 64 (n : Int) = BitVec.ofNat 64 n := by
    apply BitVec.eq_of_toNat_eq
    simp
  have e3 : (BitVec.ofNat 64 n).toNat = n := by rw [BitVec.toNat_ofNat]; omega
  have q2 : ¬ 9223372036854775807 < n := by omega
  have q3 : IntKind.wrap .i64 (n : Int) = n := wrap_i64 (by omega) (by omega)
  simp only [e1, e2, go_sem, e3, BitVec.toNat_ofNat, Nat.reducePow, Nat.reduceMod, Nat.lt_irrefl, q2, q3]
  rw [make_eq (u := 1) (z := [.int .i64 0]) (by omega) (by omega) rfl rfl, zeros_int]
  have hx0 : Ext m (m.new (.cells (intsZ (List.replicate n 0)) (some 1))) := Ext.new
  have hm0 : (m.new (.cells (intsZ (List.replicate n 0)) (some 1))).blk m.next = some (.cells (intsZ (List.replicate n 0)) (some 1)) := by simp [Mem.new]
  have hn0 : m.next < (m.new (.cells (intsZ (List.replicate n 0)) (some 1))).next := by simp [Mem.new]
  have hv := hs.keep hb hx0
  generalize m.new (.cells (intsZ (List.replicate n 0)) (some 1)) = m1 at *
  have hw : ∀ k j, k + j ≤ n → 0 < k → writeL (intsZ (List.replicate k 1 ++ List.replicate (n - k) 0)) k (intsZ (List.replicate j 1)) = intsZ (List.replicate (k + j) 1 ++ List.replicate (n - (k + j)) 0) := by
    intro k j hk h0
    unfold writeL intsZ
    rw [← List.map_take, ← List.map_drop]
    simp only [List.length_map, List.length_replicate]
    rw [← List.map_append, ← List.map_append]
    congr 1
    rw [List.take_left' (by simp), List.drop_append, List.length_replicate, List.drop_of_length_le (by simp), List.nil_append, List.drop_replicate, ← List.replicate_append_replicate, show n - k - (k + j - k) = n - (k + j) by omega]
  have c1 := copy_into (o := 0) (n := n) (c := n) (k := 1) (x := v) (xs := [.int .i64 1]) hm0 (by rw [show Nat.min 1 n = 1 from Nat.min_eq_left h1]; exact hv.src.1) hv.src.2 rfl (by rw [show Nat.min 1 n = 1 from Nat.min_eq_left h1]; rfl) (by simp [intsZ_len])
  rw [show Nat.min 1 n = 1 from Nat.min_eq_left h1] at c1
  have w1 : writeL (intsZ (List.replicate n 0)) 0 [.int .i64 1] = intsZ (List.replicate 1 1 ++ List.replicate (n - 1) 0) := by
    obtain ⟨j, rfl⟩ : ∃ j, n = j + 1 := ⟨n - 1, by omega⟩
    simp [writeL, intsZ, List.replicate_succ]
  rw [w1] at c1
  simp only [go_sem, c1]
  refine WL.of (fun r e m' => ∃ k : Nat, 1 ≤ k ∧ k ≤ n ∧ r = n - k ∧ e = [(7, .slice (some ⟨m.next, 0, none⟩) n n), (8, .int .i64 k)] ∧ m'.blk m.next = some (.cells (intsZ (List.replicate k 1 ++ List.replicate (n - k) 0)) (some 1)) ∧ m.next < m'.next ∧ Ext m m') (n - 1)
    ⟨1, by omega, by omega, by omega, by simp only [go_sem] <;> rfl, by simp, hn0, hx0.set (Nat.le_refl _)⟩ ?_
  rintro _ _ m2 ⟨k, hk1, hkn, rfl, rfl, hm2, hn2, hx2⟩
  simp only [go_sem, len_s]
  refine gT.of (fun hd => ?_) (fun hd => ?_)
  · simp only [decide_eq_true_eq] at hd
    have hkl : k < n := by omega
    have hu := unitOk_own hm2
    obtain ⟨j, hj⟩ : ∃ j, j = Nat.min k (n - k) := ⟨_, rfl⟩
    have hj1 : 1 ≤ j := by rw [hj]; exact Nat.le_min.2 ⟨hk1, by omega⟩
    have hjk : j ≤ k := by rw [hj]; exact Nat.min_le_left _ _
    have hjn : k + j ≤ n := by have : j ≤ n - k := by rw [hj]; exact Nat.min_le_right _ _
                               omega
    have hsrc : aSrc 1 j m2 (.slice (some ⟨m.next, 0, none⟩) k n) = some (intsZ (List.replicate j 1)) := by
      simp only [aSrc]
      rw [if_neg (by omega), if_pos hjk]
      unfold aCells
      rw [hm2]
      simp only [intsZ_len]
      rw [if_pos (by simp; omega)]
      unfold intsZ
      rw [List.drop_zero, ← List.map_take, List.take_append_of_le_length (by simp; omega), Nat.mul_one, List.take_replicate, Nat.min_eq_left hjk]
    have cc := copy_into (o := k) (n := n - k) (c := n - k) (k := k) (x := .slice (some ⟨m.next, 0, none⟩) k n) hm2 (by rw [← hj]; exact hsrc) rfl ints_one (by rw [← hj]; simp [intsZ_len]) (by simp [intsZ_len] <;> omega)
    rw [← hj, hw k j hjn (by omega)] at cc
    have s1 := sub_from (k := .i64) (o := 0) hu hkn (Nat.le_refl n)
    rw [Nat.zero_add, Nat.mul_one] at s1
    have s2 := sub_to (n := n) (k := .i64) (o := 0) hu hkn
    have e5 : IntKind.wrap .i64 ((k : Int) + (j : Int)) = ((k + j : Nat) : Int) := by rw [wrap_i64 (by omega) (by omega)]; rfl
    simp only [go_sem, s1, s2, cc, e5]
    exact ⟨n - (k + j), by omega, k + j, by omega, hjn, rfl, rfl, by simp, hn2, hx2.set (Nat.le_refl _)⟩
  · simp only [go_sem]
    simp only [decide_eq_false_iff_not] at hd
    have : k = n := by omega
    subst this
    refine ⟨_, rfl, Nat.le_refl _, hn2, ?_, hx2⟩
    rw [hm2, Nat.sub_self]; simp

theorem New_spec {n : Int} : WC R F.cores_New [.int .i64 n] m fun r m' => ((n < 1 ∨ 16 < n) ∧ r = .tuple #[.pointer none, .int .i64 1] ∧ m' = m) ∨
    (∃ (k c cl : Nat), n = k ∧ 1 ≤ k ∧ k ≤ 16 ∧ r = .tuple #[pt c, .int .i64 0] ∧ CS m' c cl (List.replicate k 1) ∧ m.next ≤ c ∧ m.next ≤ cl ∧ Ext m m') := by
  refine WC.of R.cores_New rfl ?_
  simp only [RC.cores_New, go_sem]
  refine gT.of (fun h1 => ?_) (fun h1 => ?_)
  · simp only [go_sem, h1]
    simp only [decide_eq_true_eq] at h1
    exact .inl (.inl h1)
  · simp only [go_sem, h1]
    refine gT.of (fun h2 => ?_) (fun h2 => ?_)
    · simp only [decide_eq_true_eq] at h2
      simp only [go_sem]
      exact .inl (.inr h2)
    · simp only [decide_eq_false_iff_not] at h1 h2
      obtain ⟨k, rfl⟩ : ∃ k : Nat, n = k := ⟨n.toNat, by omega⟩
      simp only [go_sem]
      refine gC.of (Repeat_spec (n := k) (Sl.fresh rfl) (by simp [SlLt, Mem.new]) (by omega) (by omega)) ?_
      rintro r m1 ⟨cl, rfl, a1, a2, a3, a4⟩
      simp only [go_sem]
      have hl : (List.replicate k (1 : Int)).length = k := List.length_replicate
      have := CS.mk (m := m) (L := List.replicate k 1) a2 a3
      rw [hl] at this
      refine .inr ⟨k, m1.next, cl, rfl, by omega, by omega, rfl, this, ?_, ?_, ?_⟩
      · have := a4.next; simp [Mem.new] at this; omega
      · simp [Mem.new] at a1; omega
      · exact (Ext.new.trans a4).trans Ext.new
end Go.Am.Co


/- Ledgers: a command of the roster. -/
set_option linter.unusedVariables false
set_option linter.unusedSimpArgs false
namespace Go.Am
open Classical
variable {m : Mem}

def cmIn (c : Cm) : Prop := inI c.id ∧ inI c.grp
set_option maxHeartbeats 2000000 in
theorem list_spec {b q1 q2 : Nat} {s : Rs} {c : Cm} (h : RosV m b q1 q2 s) (hG : memOk s) (hin : cmIn c) (hop : 1 ≤ c.op ∧ c.op ≤ 12) : WC R F.ledger_list [pt b, .agg (cmV c).toArray] m (Post m b q1 q2 (doS s c)) := by
  refine WC.of R.ledger_list rfl ?_
  obtain ⟨op, id, grp, share, weight, cap, core, n⟩ := c
  simp only [RC.ledger_list, cmV, pt, go_sem]
  have hx1 : Ext m (m.new (.cells [.int .i64 op, .int .i64 id, .int .i64 grp, .int .i64 share, .int .i64 weight, .int .i64 cap, .int .i64 core, .int .i64 n] (some 8))) := Ext.new
  have hb1 : Bk (m.new (.cells [.int .i64 op, .int .i64 id, .int .i64 grp, .int .i64 share, .int .i64 weight, .int .i64 cap, .int .i64 core, .int .i64 n] (some 8))) m.next [.int .i64 op, .int .i64 id, .int .i64 grp, .int .i64 share, .int .i64 weight, .int .i64 cap, .int .i64 core, .int .i64 n] 8 := Bk.new
  generalize m.new (.cells [.int .i64 op, .int .i64 id, .int .i64 grp, .int .i64 share, .int .i64 weight, .int .i64 cap, .int .i64 core, .int .i64 n] (some 8)) = m1 at hx1 hb1 ⊢
  have h1 := h.keep hx1
  have fin : ∀ {X : Rs × Int} {r m2}, Post m1 b q1 q2 X r m2 → Post m b q1 q2 X r m2 := fun hp => ⟨hp.1, hp.2.1, hx1.upd.trans hp.2.2 (fp := []) (fun _ h => by simp at h) (fun _ h => .inl h)⟩
  try simp only [go_sem, ruB, hb1.at_]
  by_cases g1 : op = 1
  · have e1 : (op == 1) = true := by rw [beq_iff_eq]; exact g1
    have hX : doS s ⟨op, id, grp, share, weight, cap, core, n⟩ = arriveS s id share := by unfold doS; simp only []; rw [if_pos g1]
    rw [hX]
    try simp only [go_sem, ruB, e1, hb1.at_]
    refine gC.of (Arrive_spec (id := id) (sh := share) h1 hin.1) ?_
    rintro r m2 hp
    obtain ⟨rfl, -, -⟩ := _root_.id hp
    try simp only [go_sem, ruB]
    exact fin hp
  have e1 : (op == 1) = false := by rw [beq_eq_false_iff_ne]; exact g1
  try simp only [go_sem, ruB, e1]
  by_cases g2 : op = 2
  · have e2 : (op == 2) = true := by rw [beq_iff_eq]; exact g2
    have hX : doS s ⟨op, id, grp, share, weight, cap, core, n⟩ = departS s id := by unfold doS; simp only []; rw [if_neg g1, if_pos g2]
    rw [hX]
    try simp only [go_sem, ruB, e2, hb1.at_]
    refine gC.of (Depart_spec (id := id) h1 hG) ?_
    rintro r m2 hp
    obtain ⟨rfl, -, -⟩ := _root_.id hp
    try simp only [go_sem, ruB]
    exact fin hp
  have e2 : (op == 2) = false := by rw [beq_eq_false_iff_ne]; exact g2
  try simp only [go_sem, ruB, e2]
  by_cases g3 : op = 3
  · have e3 : (op == 3) = true := by rw [beq_iff_eq]; exact g3
    have hX : doS s ⟨op, id, grp, share, weight, cap, core, n⟩ = reweightS s id share := by unfold doS; simp only []; rw [if_neg g1, if_neg g2, if_pos g3]
    rw [hX]
    try simp only [go_sem, ruB, e3, hb1.at_]
    refine gC.of (Reweight_spec (id := id) (sh := share) h1) ?_
    rintro r m2 hp
    obtain ⟨rfl, -, -⟩ := _root_.id hp
    try simp only [go_sem, ruB]
    exact fin hp
  have e3 : (op == 3) = false := by rw [beq_eq_false_iff_ne]; exact g3
  try simp only [go_sem, ruB, e3]
  by_cases g4 : op = 4
  · have e4 : (op == 4) = true := by rw [beq_iff_eq]; exact g4
    have hX : doS s ⟨op, id, grp, share, weight, cap, core, n⟩ = offS s id true := by unfold doS; simp only []; rw [if_neg g1, if_neg g2, if_neg g3, if_pos g4]
    rw [hX]
    try simp only [go_sem, ruB, e4, hb1.at_]
    refine gC.of (Block_spec (id := id) h1) ?_
    rintro r m2 hp
    obtain ⟨rfl, -, -⟩ := _root_.id hp
    try simp only [go_sem, ruB]
    exact fin hp
  have e4 : (op == 4) = false := by rw [beq_eq_false_iff_ne]; exact g4
  try simp only [go_sem, ruB, e4]
  by_cases g5 : op = 5
  · have e5 : (op == 5) = true := by rw [beq_iff_eq]; exact g5
    have hX : doS s ⟨op, id, grp, share, weight, cap, core, n⟩ = offS s id false := by unfold doS; simp only []; rw [if_neg g1, if_neg g2, if_neg g3, if_neg g4, if_pos g5]
    rw [hX]
    try simp only [go_sem, ruB, e5, hb1.at_]
    refine gC.of (Wake_spec (id := id) h1) ?_
    rintro r m2 hp
    obtain ⟨rfl, -, -⟩ := _root_.id hp
    try simp only [go_sem, ruB]
    exact fin hp
  have e5 : (op == 5) = false := by rw [beq_eq_false_iff_ne]; exact g5
  try simp only [go_sem, ruB, e5]
  by_cases g6 : op = 6
  · have e6 : (op == 6) = true := by rw [beq_iff_eq]; exact g6
    have hX : doS s ⟨op, id, grp, share, weight, cap, core, n⟩ = foundS s grp share := by unfold doS; simp only []; rw [if_neg g1, if_neg g2, if_neg g3, if_neg g4, if_neg g5, if_pos g6]
    rw [hX]
    try simp only [go_sem, ruB, e6, hb1.at_]
    refine gC.of (Found_spec (k := grp) (sh := share) h1 hin.2) ?_
    rintro r m2 hp
    obtain ⟨rfl, -, -⟩ := _root_.id hp
    try simp only [go_sem, ruB]
    exact fin hp
  have e6 : (op == 6) = false := by rw [beq_eq_false_iff_ne]; exact g6
  try simp only [go_sem, ruB, e6]
  by_cases g7 : op = 7
  · have e7 : (op == 7) = true := by rw [beq_iff_eq]; exact g7
    have hX : doS s ⟨op, id, grp, share, weight, cap, core, n⟩ = fundS s grp share := by unfold doS; simp only []; rw [if_neg g1, if_neg g2, if_neg g3, if_neg g4, if_neg g5, if_neg g6, if_pos g7]
    rw [hX]
    try simp only [go_sem, ruB, e7, hb1.at_]
    refine gC.of (Fund_spec (k := grp) (sh := share) h1) ?_
    rintro r m2 hp
    obtain ⟨rfl, -, -⟩ := _root_.id hp
    try simp only [go_sem, ruB]
    exact fin hp
  have e7 : (op == 7) = false := by rw [beq_eq_false_iff_ne]; exact g7
  try simp only [go_sem, ruB, e7]
  by_cases g8 : op = 8
  · have e8 : (op == 8) = true := by rw [beq_iff_eq]; exact g8
    have hX : doS s ⟨op, id, grp, share, weight, cap, core, n⟩ = disbandS s grp := by unfold doS; simp only []; rw [if_neg g1, if_neg g2, if_neg g3, if_neg g4, if_neg g5, if_neg g6, if_neg g7, if_pos g8]
    rw [hX]
    try simp only [go_sem, ruB, e8, hb1.at_]
    refine gC.of (Disband_spec (k := grp) h1) ?_
    rintro r m2 hp
    obtain ⟨rfl, -, -⟩ := _root_.id hp
    try simp only [go_sem, ruB]
    exact fin hp
  have e8 : (op == 8) = false := by rw [beq_eq_false_iff_ne]; exact g8
  try simp only [go_sem, ruB, e8]
  by_cases g9 : op = 9
  · have e9 : (op == 9) = true := by rw [beq_iff_eq]; exact g9
    have hX : doS s ⟨op, id, grp, share, weight, cap, core, n⟩ = enterS s id grp weight cap := by unfold doS; simp only []; rw [if_neg g1, if_neg g2, if_neg g3, if_neg g4, if_neg g5, if_neg g6, if_neg g7, if_neg g8, if_pos g9]
    rw [hX]
    try simp only [go_sem, ruB, e9, hb1.at_]
    refine gC.of (Enter_spec (id := id) (k := grp) (w := weight) (c := cap) h1 hin.1 hG) ?_
    rintro r m2 hp
    obtain ⟨rfl, -, -⟩ := _root_.id hp
    try simp only [go_sem, ruB]
    exact fin hp
  have e9 : (op == 9) = false := by rw [beq_eq_false_iff_ne]; exact g9
  try simp only [go_sem, ruB, e9]
  by_cases g10 : op = 10
  · have e10 : (op == 10) = true := by rw [beq_iff_eq]; exact g10
    have hX : doS s ⟨op, id, grp, share, weight, cap, core, n⟩ = weighS s id weight := by unfold doS; simp only []; rw [if_neg g1, if_neg g2, if_neg g3, if_neg g4, if_neg g5, if_neg g6, if_neg g7, if_neg g8, if_neg g9, if_pos g10]
    rw [hX]
    try simp only [go_sem, ruB, e10, hb1.at_]
    refine gC.of (Weigh_spec (id := id) (w := weight) h1) ?_
    rintro r m2 hp
    obtain ⟨rfl, -, -⟩ := _root_.id hp
    try simp only [go_sem, ruB]
    exact fin hp
  have e10 : (op == 10) = false := by rw [beq_eq_false_iff_ne]; exact g10
  try simp only [go_sem, ruB, e10]
  by_cases g11 : op = 11
  · have e11 : (op == 11) = true := by rw [beq_iff_eq]; exact g11
    have hX : doS s ⟨op, id, grp, share, weight, cap, core, n⟩ = limitS s id cap := by unfold doS; simp only []; rw [if_neg g1, if_neg g2, if_neg g3, if_neg g4, if_neg g5, if_neg g6, if_neg g7, if_neg g8, if_neg g9, if_neg g10, if_pos g11]
    rw [hX]
    try simp only [go_sem, ruB, e11, hb1.at_]
    refine gC.of (Limit_spec (id := id) (c := cap) h1) ?_
    rintro r m2 hp
    obtain ⟨rfl, -, -⟩ := _root_.id hp
    try simp only [go_sem, ruB]
    exact fin hp
  have e11 : (op == 11) = false := by rw [beq_eq_false_iff_ne]; exact g11
  try simp only [go_sem, ruB, e11, hb1.at_]
  have g12 : op = 12 := by have h1 := hop.1; have h2 := hop.2; simp only at h1 h2; omega
  have hX : doS s ⟨op, id, grp, share, weight, cap, core, n⟩ = moveS s id grp := by unfold doS; simp only []; rw [if_neg g1, if_neg g2, if_neg g3, if_neg g4, if_neg g5, if_neg g6, if_neg g7, if_neg g8, if_neg g9, if_neg g10, if_neg g11, if_pos g12]
  rw [hX]
  refine gC.of (Move_spec (id := id) (k := grp) h1 hG) ?_
  rintro r m2 hp
  obtain ⟨rfl, -, -⟩ := _root_.id hp
  try simp only [go_sem, ruB]
  exact fin hp
end Go.Am


/- Ledgers: how one lies; what it tells. -/
set_option linter.unusedVariables false
set_option linter.unusedSimpArgs false
namespace Go.Am
open Classical
variable {m : Mem}

/-- Settings. -/
structure Cf where
  fr : Int
  co : Int
  bu : Int
  re : Int
def cfV (c : Cf) : List Value := [.int .i64 c.fr, .int .i64 c.co, .int .i64 c.bu, .int .i64 c.re]
def cfOk (c : Cf) : Prop := 2 ≤ c.fr ∧ c.fr ≤ 64 ∧ 1 ≤ c.co ∧ c.co ≤ 16 ∧ 1 ≤ c.bu ∧ c.bu ≤ 8 ∧ 2048 ≤ c.re ∧ c.re ≤ 1099511627776
/-- A ledger. -/
structure Ld where
  c : Cf
  s : Rs
  L : List Int
  clk : Int
structure LdWf (l : Ld) : Prop where
  c : cfOk l.c
  s : RsWf l.s
  f : l.s.f = l.c.fr
  l1 : 1 ≤ l.L.length
  l16 : l.L.length ≤ 16
structure LdV (m : Mem) (a b q1 q2 c cl : Nat) (l : Ld) : Prop where
  bk : Bk m a [.int .i64 l.c.fr, .int .i64 l.c.co, .int .i64 l.c.bu, .int .i64 l.c.re, pt b, pt c, .int .i64 l.clk] 7
  r : RosV m b q1 q2 l.s
  cs : Co.CS m c cl l.L
  w : LdWf l
  nd : [a, b, q1, q2, c, cl].Nodup
theorem copt_eq {b : Nat} : Co.pt b = .pointer (some ⟨b, 0, none⟩) := rfl
theorem LdV.keep {m m' : Mem} {a b q1 q2 c cl : Nat} {l : Ld} (h : LdV m a b q1 q2 c cl l) (hx : Ext m m') : LdV m' a b q1 q2 c cl l := ⟨h.bk.keep hx, h.r.keep hx, h.cs.keep hx, h.w, h.nd⟩
def onlI (L : List Int) : Int := ((Co.onl L : Nat) : Int)
def freeL (l : Ld) : Int := l.c.fr * onlI l.L - shSumR (unitsR l.s)
theorem onl_le {L : List Int} : Co.onl L ≤ L.length := List.countP_le_length
theorem shSum_bd {s : Rs} (h : RsWf s) : 0 ≤ shSumR (unitsR s) ∧ shSumR (unitsR s) ≤ 64 * 136 := by
  have h1 := unitsR_sh h
  have h2 := unitsR_len h
  generalize unitsR s = l at *
  have : 0 ≤ shSumR l ∧ shSumR l ≤ 64 * l.length := by
    clear h2
    induction l with
    | nil => simp [shSumR]
    | cons w r ih =>
      have k := h1 w (by simp)
      have k2 := ih fun x hx => h1 x (by simp [hx])
      simp only [shSumR, List.map_cons, List.sum_cons, List.length_cons] at k2 ⊢
      omega
  omega
theorem mul_bd {f n : Int} (h1 : 2 ≤ f ∧ f ≤ 64) (h2 : 0 ≤ n ∧ n ≤ 16) : 0 ≤ f * n ∧ f * n ≤ 1024 := by
  constructor
  · exact Int.mul_nonneg (by omega) h2.1
  · exact Int.le_trans (Int.mul_le_mul h1.2 h2.2 h2.1 (by omega)) (by omega)

theorem ldnone_spec {a b q1 q2 c cl : Nat} {l : Ld} (h : LdV m a b q1 q2 c cl l) : WC R F.ledger_Ledger_none [pt a] m fun r m' => r = .bool false ∧ m' = m := by
  refine WC.of R.ledger_Ledger_none rfl ?_
  simp only [RC.ledger_Ledger_none, pt, go_sem, ruB, h.bk.at_]
theorem Check_spec {c : Cf} : WC R F.ledger_Check [.agg (cfV c).toArray] m fun r m' => Ext m m' ∧ r = .int .i64 (if cfOk c then 0 else 1) := by
  refine WC.of R.ledger_Check rfl ?_
  simp only [RC.ledger_Check, cfV, go_sem]
  have hx1 : Ext m (m.new (.cells [.int .i64 c.fr, .int .i64 c.co, .int .i64 c.bu, .int .i64 c.re] (some 4))) := Ext.new
  have hb1 : Bk (m.new (.cells [.int .i64 c.fr, .int .i64 c.co, .int .i64 c.bu, .int .i64 c.re] (some 4))) m.next [.int .i64 c.fr, .int .i64 c.co, .int .i64 c.bu, .int .i64 c.re] 4 := Bk.new
  generalize m.new (.cells [.int .i64 c.fr, .int .i64 c.co, .int .i64 c.bu, .int .i64 c.re] (some 4)) = m1 at hx1 hb1 ⊢
  by_cases h1 : 2 ≤ c.fr
  rotate_left
  · have hX : ¬ cfOk c := fun h => h1 h.1
    rw [if_neg hX]
    try simp only [go_sem, ruB, hb1.at_, decide_eq_false h1]
    exact hx1
  by_cases h2 : c.fr ≤ 64
  rotate_left
  · have hX : ¬ cfOk c := fun h => h2 h.2.1
    rw [if_neg hX]
    try simp only [go_sem, ruB, hb1.at_, decide_eq_true h1, decide_eq_false h2]
    exact hx1
  by_cases h3 : 1 ≤ c.co
  rotate_left
  · have hX : ¬ cfOk c := fun h => h3 h.2.2.1
    rw [if_neg hX]
    try simp only [go_sem, ruB, hb1.at_, decide_eq_true h1, decide_eq_true h2, decide_eq_false h3]
    exact hx1
  by_cases h4 : c.co ≤ 16
  rotate_left
  · have hX : ¬ cfOk c := fun h => h4 h.2.2.2.1
    rw [if_neg hX]
    try simp only [go_sem, ruB, hb1.at_, decide_eq_true h1, decide_eq_true h2, decide_eq_true h3, decide_eq_false h4]
    exact hx1
  by_cases h5 : 1 ≤ c.bu
  rotate_left
  · have hX : ¬ cfOk c := fun h => h5 h.2.2.2.2.1
    rw [if_neg hX]
    try simp only [go_sem, ruB, hb1.at_, decide_eq_true h1, decide_eq_true h2, decide_eq_true h3, decide_eq_true h4, decide_eq_false h5]
    exact hx1
  by_cases h6 : c.bu ≤ 8
  rotate_left
  · have hX : ¬ cfOk c := fun h => h6 h.2.2.2.2.2.1
    rw [if_neg hX]
    try simp only [go_sem, ruB, hb1.at_, decide_eq_true h1, decide_eq_true h2, decide_eq_true h3, decide_eq_true h4, decide_eq_true h5, decide_eq_false h6]
    exact hx1
  by_cases h7 : 2048 ≤ c.re
  rotate_left
  · have hX : ¬ cfOk c := fun h => h7 h.2.2.2.2.2.2.1
    rw [if_neg hX]
    try simp only [go_sem, ruB, hb1.at_, decide_eq_true h1, decide_eq_true h2, decide_eq_true h3, decide_eq_true h4, decide_eq_true h5, decide_eq_true h6, decide_eq_false h7]
    exact hx1
  by_cases h8 : c.re ≤ 1099511627776
  rotate_left
  · have hX : ¬ cfOk c := fun h => h8 h.2.2.2.2.2.2.2
    rw [if_neg hX]
    try simp only [go_sem, ruB, hb1.at_, decide_eq_true h1, decide_eq_true h2, decide_eq_true h3, decide_eq_true h4, decide_eq_true h5, decide_eq_true h6, decide_eq_true h7, decide_eq_false h8]
    exact hx1
  have hX : cfOk c := ⟨h1, h2, h3, h4, h5, h6, h7, h8⟩
  rw [if_pos hX]
  try simp only [go_sem, ruB, hb1.at_, decide_eq_true h1, decide_eq_true h2, decide_eq_true h3, decide_eq_true h4, decide_eq_true h5, decide_eq_true h6, decide_eq_true h7, decide_eq_true h8]
  exact hx1

theorem watch_nil {e : Env} {m m' : Mem} : watchOk e m m' [] = True := rfl
theorem watch_one {e : Env} {m m' : Mem} {x : Nat} {r : List Nat} : watchOk e m m' (x :: r) = ((match Env.get e x with | some v => (match blkOf v with | some b => m'.blk b = m.blk b | none => True) | none => False) ∧ watchOk e m m' r) := rfl
theorem blk_ptr {a : Addr} : blkOf (.pointer (some a)) = some a.block := rfl
theorem one_sl {M : Mem} {q : Nat} {x : Int} (h : M.blk q = some (.cells [.int .i64 x] (some 1))) (hq : q < M.next) : Sl M 1 [x].length (intsZ [x]) (.slice (some ⟨q, 0, none⟩) 1 1) :=
  (Own.at (m0 := ⟨0, fun _ => none⟩) (all := [.int .i64 x]) (c := 1) (Nat.zero_le _) hq (Nat.le_refl _) h rfl rfl rfl : Own ⟨0, fun _ => none⟩ M 1 1 (intsZ [x]) _).sl
theorem CountOn {c cl q : Nat} {L : List Int} (h : Co.CS m c cl L) (h16 : L.length ≤ 16) (hb : m.blk q = some (.cells [.int .i64 1] (some 1))) (hq : q < m.next) : WC R F.cores_Set_Count [pt c, .slice (some ⟨q, 0, none⟩) 1 1] m fun r m' => r = .int .i64 (onlI L) ∧ m' = m :=
  Co.Count_spec h h16 (one_sl hb hq) (by simp)
theorem kfill_one : fillL [.int .i64 0] [(0, 1, .int .i64 1)] = some [.int .i64 1] := rfl
set_option maxHeartbeats 1000000 in
theorem Free_spec {a b q1 q2 c cl : Nat} {l : Ld} (h : LdV m a b q1 q2 c cl l) : WC R F.ledger_Ledger_Free [pt a] m fun r m' => r = .int .i64 (freeL l) ∧ Ext m m' := by
  refine WC.of R.ledger_Ledger_Free rfl ?_
  simp only [RC.ledger_Ledger_Free, pt, go_sem]
  refine gC.of (ldnone_spec h) ?_
  rintro _ _ ⟨rfl, hm⟩
  replace hm := hm.symm
  subst hm
  try simp only [go_sem, ruB, h.bk.at_, ↓kfill_one]
  have hX : Ext m ((m.bump 19).set (m.next + 9) (some (.cells [.int .i64 1] (some 1)))) := Ext.bump.set (by omega)
  have hq : ((m.bump 19).set (m.next + 9) (some (.cells [.int .i64 1] (some 1)))).blk (m.next + 9) = some (.cells [.int .i64 1] (some 1)) := by simp [Mem.set]
  have hq2 : m.next + 9 < ((m.bump 19).set (m.next + 9) (some (.cells [.int .i64 1] (some 1)))).next := by show m.next + 9 < m.next + 19; omega
  generalize (m.bump 19).set (m.next + 9) (some (.cells [.int .i64 1] (some 1))) = m1 at hX hq hq2 ⊢
  have h1 := h.keep hX
  refine gC.of (CountOn h1.cs h.w.l16 hq hq2) ?_
  rintro _ _ ⟨rfl, hm⟩
  replace hm := hm.symm
  subst hm
  have ho := onl_le (L := l.L)
  have hc := h.w.c
  have hl := h.w.l16
  have hb := mul_bd (f := l.c.fr) (n := onlI l.L) ⟨hc.1, hc.2.1⟩ (by unfold onlI; omega)
  have hs := shSum_bd h.w.s
  have w1 : IntKind.wrap .i64 (l.c.fr * onlI l.L) = l.c.fr * onlI l.L := wrap_i64 (by omega) (by omega)
  have w2 : IntKind.wrap .i64 (l.c.fr * onlI l.L - shSumR (unitsR l.s)) = freeL l := by rw [wrap_i64 (by omega) (by omega)]; rfl
  try simp only [go_sem, ruB, watch_one, watch_nil, blk_ptr, w1]
  refine gC.of (Total_spec h1.r h.w.s) ?_
  rintro _ m2 ⟨rfl, hx2⟩
  have ha : m2.blk a = m1.blk a := hx2.same _ h1.bk.lt
  try simp only [go_sem, ruB, watch_one, watch_nil, blk_ptr, w2, ha]
  exact hX.trans hx2
theorem Roster_spec {a b q1 q2 c cl : Nat} {l : Ld} (h : LdV m a b q1 q2 c cl l) : WC R F.ledger_Ledger_Roster [pt a] m fun r m' => ∃ d r1 r2, r = pt d ∧ RosV m' d r1 r2 l.s ∧ m.next ≤ d ∧ m.next ≤ r1 ∧ m.next ≤ r2 ∧ Ext m m' := by
  refine WC.of R.ledger_Ledger_Roster rfl ?_
  simp only [RC.ledger_Ledger_Roster, pt, go_sem]
  refine gC.of (ldnone_spec h) ?_
  rintro _ _ ⟨rfl, hm⟩
  replace hm := hm.symm
  subst hm
  try simp only [go_sem, ruB, h.bk.at_]
  refine gC.of (Fork_spec h.r) ?_
  rintro _ m2 ⟨d, r1, r2, rfl, k1, k2, k3, k4, hx⟩
  try simp only [go_sem, ruB]
  exact ⟨d, r1, r2, rfl, k1, k2, k3, k4, hx⟩
theorem Cores_spec {a b q1 q2 c cl : Nat} {l : Ld} (h : LdV m a b q1 q2 c cl l) : WC R F.ledger_Ledger_Cores [pt a] m fun r m' => ∃ d dl, r = pt d ∧ Co.CS m' d dl l.L ∧ m.next ≤ d ∧ m.next ≤ dl ∧ Ext m m' := by
  refine WC.of R.ledger_Ledger_Cores rfl ?_
  simp only [RC.ledger_Ledger_Cores, pt, go_sem]
  refine gC.of (ldnone_spec h) ?_
  rintro _ _ ⟨rfl, hm⟩
  replace hm := hm.symm
  subst hm
  try simp only [go_sem, ruB, h.bk.at_]
  have hne : l.L ≠ [] := fun e => by have := h.w.l1; rw [e] at this; simp at this
  refine gC.of (Co.Fork_spec h.cs h.w.l16 hne) ?_
  rintro _ m2 ⟨d, dl, rfl, k1, k2, k3, hx⟩
  try simp only [go_sem, ruB]
  exact ⟨d, dl, rfl, k1, k2, k3, hx⟩
end Go.Am


/- Ledgers: commands. -/
set_option linter.unusedVariables false
set_option linter.unusedSimpArgs false
namespace Go.Am
open Classical
variable {m : Mem}

set_option maxHeartbeats 1000000 in
theorem room_spec {a b q1 q2 c cl : Nat} {cells : List Value} {f : Int} {s : Rs} {L : List Int} (ha : Bk m a (.int .i64 f :: cells) 7) (hf : 2 ≤ f ∧ f ≤ 64) (hr : RosV m b q1 q2 s) (hw : RsWf s) (hc : Co.CS m c cl L) (h16 : L.length ≤ 16) :
    WC R F.ledger_Ledger_room [pt a, pt b, pt c] m fun r m' => r = .bool (decide (shSumR (unitsR s) ≤ f * onlI L)) ∧ Ext m m' := by
  refine WC.of R.ledger_Ledger_room rfl ?_
  simp only [RC.ledger_Ledger_room, pt, go_sem]
  try simp only [go_sem, ruB, ha.at_, ↓kfill_one]
  refine gC.of (Total_spec (hr.keep (Ext.bump (n := 13))) hw) ?_
  rintro _ m1 ⟨rfl, hx1⟩
  have hb1 := Ext.bump.trans hx1
  have n1 := hx1.next
  simp only [Mem.bump_next] at n1
  have hab : m1.blk a = m.blk a := hb1.same _ ha.lt
  try simp only [go_sem, ruB, watch_one, watch_nil, blk_ptr, hab, blk_bump, ↓kfill_one]
  have hX : Ext m (m1.set (m.next + 8) (some (.cells [.int .i64 1] (some 1)))) := hb1.set (by omega)
  have hq : (m1.set (m.next + 8) (some (.cells [.int .i64 1] (some 1)))).blk (m.next + 8) = some (.cells [.int .i64 1] (some 1)) := by simp [Mem.set]
  have hq2 : m.next + 8 < (m1.set (m.next + 8) (some (.cells [.int .i64 1] (some 1)))).next := by show m.next + 8 < m1.next; omega
  generalize m1.set (m.next + 8) (some (.cells [.int .i64 1] (some 1))) = m2 at hX hq hq2 ⊢
  refine gC.of (CountOn (hc.keep hX) h16 hq hq2) ?_
  rintro _ _ ⟨rfl, hm⟩
  replace hm := hm.symm
  subst hm
  have ho := onl_le (L := L)
  have hb := mul_bd (f := f) (n := onlI L) hf (by unfold onlI; omega)
  have w1 : IntKind.wrap .i64 (f * onlI L) = f * onlI L := wrap_i64 (by omega) (by omega)
  try simp only [go_sem, ruB, watch_one, watch_nil, blk_ptr, w1]
  exact hX

/-! ### commands, plain -/
noncomputable def tasksS (l : Ld) (c : Cm) : Ld × Int :=
  if (doS l.s c).2 ≠ 0 then (l, (doS l.s c).2) else if shSumR (unitsR (doS l.s c).1) ≤ l.c.fr * onlI l.L then ({ l with s := (doS l.s c).1 }, 0) else (l, 12)
def plugC (l : Ld) (c : Cm) : List Int × Int := if c.op = 13 then Co.chg l.L c.core 0 4 else Co.chg l.L c.core 1 2
def plugS (l : Ld) (c : Cm) : Ld × Int :=
  if (plugC l c).2 ≠ 0 then (l, (plugC l c).2) else if shSumR (unitsR l.s) ≤ l.c.fr * onlI (plugC l c).1 then ({ l with L := (plugC l c).1 }, 0) else (l, 12)
def tickS (l : Ld) : Ld := { l with L := if l.clk.tmod l.c.fr = 0 then l.L.map Co.turnC else l.L, clk := l.clk + 1 }
def ticksS : Nat → Ld → Ld
  | 0, l => l
  | n + 1, l => tickS (ticksS n l)
theorem arrive_f {s : Rs} {id sh : Int} : (arriveS s id sh).1.f = s.f := by
  unfold arriveS
  (repeat' split) <;> rfl
theorem depart_f {s : Rs} {id : Int} : (departS s id).1.f = s.f := by
  unfold departS
  (repeat' split) <;> rfl
theorem reweight_f {s : Rs} {id sh : Int} : (reweightS s id sh).1.f = s.f := by
  unfold reweightS
  (repeat' split) <;> rfl
theorem off_f {s : Rs} {id : Int} {o : Bool} : (offS s id o).1.f = s.f := by
  unfold offS
  (repeat' split) <;> rfl
theorem found_f {s : Rs} {k sh : Int} : (foundS s k sh).1.f = s.f := by
  unfold foundS
  (repeat' split) <;> rfl
theorem fund_f {s : Rs} {k sh : Int} : (fundS s k sh).1.f = s.f := by
  unfold fundS
  (repeat' split) <;> rfl
theorem disband_f {s : Rs} {k : Int} : (disbandS s k).1.f = s.f := by
  unfold disbandS
  (repeat' split) <;> rfl
theorem enter_f {s : Rs} {id k w c : Int} : (enterS s id k w c).1.f = s.f := by
  unfold enterS
  (repeat' split) <;> rfl
theorem weigh_f {s : Rs} {id w : Int} : (weighS s id w).1.f = s.f := by
  unfold weighS
  (repeat' split) <;> rfl
theorem limit_f {s : Rs} {id c : Int} : (limitS s id c).1.f = s.f := by
  unfold limitS
  (repeat' split) <;> rfl
theorem move_f {s : Rs} {id k : Int} : (moveS s id k).1.f = s.f := by
  unfold moveS
  (repeat' split) <;> rfl
theorem doS_f {s : Rs} {c : Cm} : (doS s c).1.f = s.f := by
  unfold doS
  by_cases h1 : c.op = 1
  · rw [if_pos h1]; exact arrive_f
  rw [if_neg h1]
  by_cases h2 : c.op = 2
  · rw [if_pos h2]; exact depart_f
  rw [if_neg h2]
  by_cases h3 : c.op = 3
  · rw [if_pos h3]; exact reweight_f
  rw [if_neg h3]
  by_cases h4 : c.op = 4
  · rw [if_pos h4]; exact off_f
  rw [if_neg h4]
  by_cases h5 : c.op = 5
  · rw [if_pos h5]; exact off_f
  rw [if_neg h5]
  by_cases h6 : c.op = 6
  · rw [if_pos h6]; exact found_f
  rw [if_neg h6]
  by_cases h7 : c.op = 7
  · rw [if_pos h7]; exact fund_f
  rw [if_neg h7]
  by_cases h8 : c.op = 8
  · rw [if_pos h8]; exact disband_f
  rw [if_neg h8]
  by_cases h9 : c.op = 9
  · rw [if_pos h9]; exact enter_f
  rw [if_neg h9]
  by_cases h10 : c.op = 10
  · rw [if_pos h10]; exact weigh_f
  rw [if_neg h10]
  by_cases h11 : c.op = 11
  · rw [if_pos h11]; exact limit_f
  rw [if_neg h11]
  by_cases h12 : c.op = 12
  · rw [if_pos h12]; exact move_f
  rw [if_neg h12]

/-- What a ledger's command leaves. -/
def LPost (m : Mem) (a b q1 q2 c cl : Nat) (X : Ld × Int) (r : Value) (m' : Mem) : Prop :=
  r = .int .i64 X.2 ∧ Upd m m' [a, b, q1, q2, c, cl] ∧ ∃ b' q1' q2' c' cl', LdV m' a b' q1' q2' c' cl' X.1 ∧ ∀ x ∈ [b', q1', q2', c', cl'], x ∈ [b, q1, q2, c, cl] ∨ m.next ≤ x

theorem Co.CS.updq {c cl : Nat} {L : List Int} {m' : Mem} {fp : List Nat} (h : Co.CS m c cl L) (hx : Upd m m' fp) (h1 : c ∉ fp) (h2 : cl ∉ fp) : Co.CS m' c cl L :=
  ⟨by rw [hx.same _ h.2.2.2.1 h1]; exact h.1, by rw [hx.same _ h.2.2.2.2 h2]; exact h.2.1, h.2.2.1, Nat.lt_of_lt_of_le h.2.2.2.1 hx.next, Nat.lt_of_lt_of_le h.2.2.2.2 hx.next⟩
theorem nd6 {a b c d e f : Nat} : [a, b, c, d, e, f].Nodup ↔ (a ≠ b ∧ a ≠ c ∧ a ≠ d ∧ a ≠ e ∧ a ≠ f) ∧ (b ≠ c ∧ b ≠ d ∧ b ≠ e ∧ b ≠ f) ∧ (c ≠ d ∧ c ≠ e ∧ c ≠ f) ∧ (d ≠ e ∧ d ≠ f) ∧ e ≠ f := by
  simp [List.nodup_cons]
theorem LdV.lts {a b q1 q2 c cl : Nat} {l : Ld} (h : LdV m a b q1 q2 c cl l) : a < m.next ∧ b < m.next ∧ q1 < m.next ∧ q2 < m.next ∧ c < m.next ∧ cl < m.next := ⟨h.bk.lt, h.r.bk.lt, h.r.t.lt, h.r.g.lt, h.cs.2.2.2.1, h.cs.2.2.2.2⟩

set_option maxHeartbeats 2000000 in
theorem tasks_spec {a b q1 q2 c cl : Nat} {l : Ld} {k : Cm} (h : LdV m a b q1 q2 c cl l) (hin : cmIn k) (hop : 1 ≤ k.op ∧ k.op ≤ 12) : WC R F.ledger_Ledger_tasks [pt a, .agg (cmV k).toArray] m (LPost m a b q1 q2 c cl (tasksS l k)) := by
  refine WC.of R.ledger_Ledger_tasks rfl ?_
  simp only [RC.ledger_Ledger_tasks, cmV, pt, go_sem]
  have hx1 : Ext m (m.new (.cells [.int .i64 k.op, .int .i64 k.id, .int .i64 k.grp, .int .i64 k.share, .int .i64 k.weight, .int .i64 k.cap, .int .i64 k.core, .int .i64 k.n] (some 8))) := Ext.new
  have hb1 : Bk (m.new (.cells [.int .i64 k.op, .int .i64 k.id, .int .i64 k.grp, .int .i64 k.share, .int .i64 k.weight, .int .i64 k.cap, .int .i64 k.core, .int .i64 k.n] (some 8))) m.next [.int .i64 k.op, .int .i64 k.id, .int .i64 k.grp, .int .i64 k.share, .int .i64 k.weight, .int .i64 k.cap, .int .i64 k.core, .int .i64 k.n] 8 := Bk.new
  generalize m.new (.cells [.int .i64 k.op, .int .i64 k.id, .int .i64 k.grp, .int .i64 k.share, .int .i64 k.weight, .int .i64 k.cap, .int .i64 k.core, .int .i64 k.n] (some 8)) = m1 at hx1 hb1 ⊢
  have h1 := h.keep hx1
  try simp only [go_sem, ruB, h1.bk.at_]
  refine gC.of (Fork_spec h1.r) ?_
  rintro _ m2 ⟨d, r1, r2, rfl, kd, k1, k2, k3, hx2⟩
  have h2 := h1.keep hx2
  have hb2 := hb1.keep hx2
  have hx12 := hx1.trans hx2
  simp only [pt]
  try simp only [go_sem, ruB, hb2.at_]
  refine gC.of (list_spec (c := k) kd h.w.s.memOk hin hop) ?_
  rintro r m3 hp
  obtain ⟨rfl, kr, hU⟩ := hp
  have n1 := hx1.next; have n2 := hx2.next
  have hx3 : Ext m m3 := hU.ext_of hx12 (fun x hx => by simp at hx; omega)
  have h3 := h.keep hx3
  by_cases g1 : (doS l.s k).2 = 0
  · have e1 : ((doS l.s k).2 != 0) = false := by rw [bne_eq_false_iff_eq]; exact g1
    try simp only [go_sem, ruB, e1, h3.bk.at_]
    have hfw : RsWf (doS l.s k).1 := h.w.s.do_
    refine gC.of (room_spec h3.bk ⟨h.w.c.1, h.w.c.2.1⟩ kr hfw h3.cs h.w.l16) ?_
    rintro _ m4 ⟨rfl, hx4⟩
    have h4 := h3.keep hx4
    by_cases g2 : shSumR (unitsR (doS l.s k).1) ≤ l.c.fr * onlI l.L
    · have hX : tasksS l k = ({ l with s := (doS l.s k).1 }, 0) := by unfold tasksS; rw [if_neg (by simpa using g1), if_pos g2]
      rw [hX]
      try simp only [go_sem, ruB, decide_eq_true g2, h4.bk.at_]
      have hl := h.lts
      have hnd := nd6.1 h.nd
      have hl4 := h4.lts
      have n3 := hU.next; have n4 := hx4.next
      have hS : Upd m4 (m4.set a (some (.cells [.int .i64 l.c.fr, .int .i64 l.c.co, .int .i64 l.c.bu, .int .i64 l.c.re, pt d, pt c, .int .i64 l.clk] (some 7)))) [a] := Upd.set (by simp)
      have r4 := (kr.keep hx4).upd hS (by simp; omega) (by simp; omega) (by simp; omega)
      have c4 := Co.CS.updq h4.cs hS (by simp; omega) (by simp; omega)
      have hd1 := kr.n1; have hd2 := kr.n2; have hd3 := kr.n3
      refine ⟨rfl, (hx3.trans hx4).upd.trans hS (fp := []) (fun _ h => by simp at h) (fun x hx => .inl ?_), d, r1, r2, c, cl, ⟨⟨by simp [Mem.set], by show a < m4.next; omega⟩, r4, c4, ⟨h.w.c, hfw, doS_f.trans h.w.f, h.w.l1, h.w.l16⟩, nd6.2 (by omega)⟩, fun x hx => ?_⟩
      · simp at hx ⊢; omega
      · simp at hx ⊢; omega
    · have hX : tasksS l k = (l, 12) := by unfold tasksS; rw [if_neg (by simpa using g1), if_neg g2]
      rw [hX]
      try simp only [go_sem, ruB, decide_eq_false g2]
      exact ⟨rfl, (hx3.trans hx4).upd, b, q1, q2, c, cl, h4, fun x hx => .inl hx⟩
  · have e1 : ((doS l.s k).2 != 0) = true := by rw [bne_iff_ne]; exact g1
    have hX : tasksS l k = (l, (doS l.s k).2) := by unfold tasksS; rw [if_pos g1]
    rw [hX]
    try simp only [go_sem, ruB, e1]
    exact ⟨rfl, hx3.upd, b, q1, q2, c, cl, h3, fun x hx => .inl hx⟩
end Go.Am


/- Ledgers: plug, ticks. -/
set_option linter.unusedVariables false
set_option linter.unusedSimpArgs false
namespace Go.Am
open Classical
variable {m : Mem}

theorem Co.chg_ln {L : List Int} {c f t : Int} : (Co.chg L c f t).1.length = L.length := by
  unfold Co.chg
  (repeat' split) <;> simp
theorem plugC_len {l : Ld} {c : Cm} : (plugC l c).1.length = l.L.length := by unfold plugC; split <;> exact Co.chg_ln

set_option maxHeartbeats 2000000 in
theorem plug_spec {a b q1 q2 c cl : Nat} {l : Ld} {k : Cm} (h : LdV m a b q1 q2 c cl l) : WC R F.ledger_Ledger_plug [pt a, .agg (cmV k).toArray] m (LPost m a b q1 q2 c cl (plugS l k)) := by
  have hne : l.L ≠ [] := fun e => by have := h.w.l1; rw [e] at this; simp at this
  refine WC.of R.ledger_Ledger_plug rfl ?_
  simp only [RC.ledger_Ledger_plug, cmV, pt, go_sem]
  have hx1 : Ext m (m.new (.cells [.int .i64 k.op, .int .i64 k.id, .int .i64 k.grp, .int .i64 k.share, .int .i64 k.weight, .int .i64 k.cap, .int .i64 k.core, .int .i64 k.n] (some 8))) := Ext.new
  have hb1 : Bk (m.new (.cells [.int .i64 k.op, .int .i64 k.id, .int .i64 k.grp, .int .i64 k.share, .int .i64 k.weight, .int .i64 k.cap, .int .i64 k.core, .int .i64 k.n] (some 8))) m.next [.int .i64 k.op, .int .i64 k.id, .int .i64 k.grp, .int .i64 k.share, .int .i64 k.weight, .int .i64 k.cap, .int .i64 k.core, .int .i64 k.n] 8 := Bk.new
  generalize m.new (.cells [.int .i64 k.op, .int .i64 k.id, .int .i64 k.grp, .int .i64 k.share, .int .i64 k.weight, .int .i64 k.cap, .int .i64 k.core, .int .i64 k.n] (some 8)) = m1 at hx1 hb1 ⊢
  have h1 := h.keep hx1
  try simp only [go_sem, ruB, h1.bk.at_]
  refine gC.of (Co.Fork_spec h1.cs h.w.l16 hne) ?_
  rintro _ m2 ⟨d, dl, rfl, kd, k1, k2, hx2⟩
  have h2 := h1.keep hx2
  have hb2 := hb1.keep hx2
  have hx12 := hx1.trans hx2
  have n1 := hx1.next; have n2 := hx2.next
  simp only [copt_eq, pt]
  by_cases go : k.op = 13
  · have eo : (k.op == 13) = true := by rw [beq_iff_eq]; exact go
    have hpc : plugC l k = Co.chg l.L k.core 0 4 := by unfold plugC; rw [if_pos go]
    try simp only [go_sem, ruB, hb2.at_, eo]
    refine gC.of (Co.Plug_spec (c := k.core) kd h.w.l16 hne) ?_
    rw [← hpc]
    rintro r m3 ⟨rfl, kc, hU⟩
    have hx3 : Ext m m3 := hU.ext_of hx12 (fun x hx => by simp at hx; omega)
    have h3 := h.keep hx3
    by_cases g1 : (plugC l k).2 = 0
    · have e1 : ((plugC l k).2 != 0) = false := by rw [bne_eq_false_iff_eq]; exact g1
      try simp only [go_sem, ruB, e1, h3.bk.at_]
      refine gC.of (room_spec h3.bk ⟨h.w.c.1, h.w.c.2.1⟩ h3.r h.w.s kc (by rw [plugC_len]; exact h.w.l16)) ?_
      rintro _ m4 ⟨rfl, hx4⟩
      have h4 := h3.keep hx4
      by_cases g2 : shSumR (unitsR l.s) ≤ l.c.fr * onlI (plugC l k).1
      · have hX : plugS l k = ({ l with L := (plugC l k).1 }, 0) := by unfold plugS; rw [if_neg (by simpa using g1), if_pos g2]
        rw [hX]
        try simp only [go_sem, ruB, decide_eq_true g2, h4.bk.at_]
        have hl := h.lts
        have hnd := nd6.1 h.nd
        have n3 := hU.next; have n4 := hx4.next
        have hS : Upd m4 (m4.set a (some (.cells [.int .i64 l.c.fr, .int .i64 l.c.co, .int .i64 l.c.bu, .int .i64 l.c.re, pt b, pt d, .int .i64 l.clk] (some 7)))) [a] := Upd.set (by simp)
        have r4 := h4.r.upd hS (by simp; omega) (by simp; omega) (by simp; omega)
        have c4 := Co.CS.updq (kc.keep hx4) hS (by simp; omega) (by simp; omega)
        have hd1 := kd.2.2.1
        refine ⟨rfl, (hx3.trans hx4).upd.trans hS (fp := []) (fun _ h => by simp at h) (fun x hx => .inl ?_), b, q1, q2, d, dl, ⟨⟨by simp [Mem.set], by show a < m4.next; exact h4.bk.lt⟩, r4, c4, ⟨h.w.c, h.w.s, h.w.f, by rw [plugC_len]; exact h.w.l1, by rw [plugC_len]; exact h.w.l16⟩, nd6.2 (by omega)⟩, fun x hx => ?_⟩
        · simp at hx ⊢; omega
        · simp at hx ⊢; omega
      · have hX : plugS l k = (l, 12) := by unfold plugS; rw [if_neg (by simpa using g1), if_neg g2]
        rw [hX]
        try simp only [go_sem, ruB, decide_eq_false g2]
        exact ⟨rfl, (hx3.trans hx4).upd, b, q1, q2, c, cl, h4, fun x hx => .inl hx⟩
    · have e1 : ((plugC l k).2 != 0) = true := by rw [bne_iff_ne]; exact g1
      have hX : plugS l k = (l, (plugC l k).2) := by unfold plugS; rw [if_pos g1]
      rw [hX]
      try simp only [go_sem, ruB, e1]
      exact ⟨rfl, hx3.upd, b, q1, q2, c, cl, h3, fun x hx => .inl hx⟩
  · have eo : (k.op == 13) = false := by rw [beq_eq_false_iff_ne]; exact go
    have hpc : plugC l k = Co.chg l.L k.core 1 2 := by unfold plugC; rw [if_neg go]
    try simp only [go_sem, ruB, hb2.at_, eo]
    refine gC.of (Co.Unplug_spec (c := k.core) kd h.w.l16 hne) ?_
    rw [← hpc]
    rintro r m3 ⟨rfl, kc, hU⟩
    have hx3 : Ext m m3 := hU.ext_of hx12 (fun x hx => by simp at hx; omega)
    have h3 := h.keep hx3
    by_cases g1 : (plugC l k).2 = 0
    · have e1 : ((plugC l k).2 != 0) = false := by rw [bne_eq_false_iff_eq]; exact g1
      try simp only [go_sem, ruB, e1, h3.bk.at_]
      refine gC.of (room_spec h3.bk ⟨h.w.c.1, h.w.c.2.1⟩ h3.r h.w.s kc (by rw [plugC_len]; exact h.w.l16)) ?_
      rintro _ m4 ⟨rfl, hx4⟩
      have h4 := h3.keep hx4
      by_cases g2 : shSumR (unitsR l.s) ≤ l.c.fr * onlI (plugC l k).1
      · have hX : plugS l k = ({ l with L := (plugC l k).1 }, 0) := by unfold plugS; rw [if_neg (by simpa using g1), if_pos g2]
        rw [hX]
        try simp only [go_sem, ruB, decide_eq_true g2, h4.bk.at_]
        have hl := h.lts
        have hnd := nd6.1 h.nd
        have n3 := hU.next; have n4 := hx4.next
        have hS : Upd m4 (m4.set a (some (.cells [.int .i64 l.c.fr, .int .i64 l.c.co, .int .i64 l.c.bu, .int .i64 l.c.re, pt b, pt d, .int .i64 l.clk] (some 7)))) [a] := Upd.set (by simp)
        have r4 := h4.r.upd hS (by simp; omega) (by simp; omega) (by simp; omega)
        have c4 := Co.CS.updq (kc.keep hx4) hS (by simp; omega) (by simp; omega)
        have hd1 := kd.2.2.1
        refine ⟨rfl, (hx3.trans hx4).upd.trans hS (fp := []) (fun _ h => by simp at h) (fun x hx => .inl ?_), b, q1, q2, d, dl, ⟨⟨by simp [Mem.set], by show a < m4.next; exact h4.bk.lt⟩, r4, c4, ⟨h.w.c, h.w.s, h.w.f, by rw [plugC_len]; exact h.w.l1, by rw [plugC_len]; exact h.w.l16⟩, nd6.2 (by omega)⟩, fun x hx => ?_⟩
        · simp at hx ⊢; omega
        · simp at hx ⊢; omega
      · have hX : plugS l k = (l, 12) := by unfold plugS; rw [if_neg (by simpa using g1), if_neg g2]
        rw [hX]
        try simp only [go_sem, ruB, decide_eq_false g2]
        exact ⟨rfl, (hx3.trans hx4).upd, b, q1, q2, c, cl, h4, fun x hx => .inl hx⟩
    · have e1 : ((plugC l k).2 != 0) = true := by rw [bne_iff_ne]; exact g1
      have hX : plugS l k = (l, (plugC l k).2) := by unfold plugS; rw [if_pos g1]
      rw [hX]
      try simp only [go_sem, ruB, e1]
      exact ⟨rfl, hx3.upd, b, q1, q2, c, cl, h3, fun x hx => .inl hx⟩
end Go.Am


/- Ledgers: ticks. -/
set_option linter.unusedVariables false
set_option linter.unusedSimpArgs false
namespace Go.Am
open Classical
variable {m : Mem}

theorem tickS_wf {l : Ld} (h : LdWf l) : LdWf (tickS l) := by
  refine ⟨h.c, h.s, h.f, ?_, ?_⟩
  · show 1 ≤ (if _ then _ else _ : List Int).length
    split
    · rw [List.length_map]; exact h.l1
    · exact h.l1
  · show (if _ then _ else _ : List Int).length ≤ 16
    split
    · rw [List.length_map]; exact h.l16
    · exact h.l16
theorem ticksS_wf {l : Ld} (h : LdWf l) : ∀ {n : Nat}, LdWf (ticksS n l)
  | 0 => h
  | n + 1 => tickS_wf (ticksS_wf h)
theorem ticksS_clk {l : Ld} : ∀ {n : Nat}, (ticksS n l).clk = l.clk + n
  | 0 => by simp [ticksS]
  | n + 1 => by
    show (ticksS n l).clk + 1 = _
    rw [ticksS_clk (n := n)]; omega

set_option maxHeartbeats 2000000 in
theorem tick_spec {a b q1 q2 c cl : Nat} {l : Ld} {n i : Nat} (h : LdV m a b q1 q2 c cl l) (hk : 0 ≤ l.clk ∧ l.clk ≤ 1000000000) (hn : i < n) (hn2 : n ≤ 1024) {Q : Ex → Env → Mem → Prop}
    (hQ : ∀ m', LdV m' a b q1 q2 c cl (tickS l) → Upd m m' [a, cl] → Q .normal [(0, pt a), (11, .int .i64 ((n : Nat) : Int)), (12, .int .i64 ((i + 1 : Nat) : Int))] m') :
    gp R RB.ledger_Ledger_ticks_1 [(0, pt a), (11, .int .i64 ((n : Nat) : Int)), (12, .int .i64 ((i : Nat) : Int))] m fun x e m' => Q x (Env.keep [0, 11, 12] e) m' := by
  have hne : l.L ≠ [] := fun e => by have := h.w.l1; rw [e] at this; simp at this
  have hf := h.w.c
  have s1 := st1 (show i < 1000000 by omega)
  have w1 : IntKind.wrap .i64 (l.clk + 1) = l.clk + 1 := wrap_i64 (by omega) (by omega)
  have e1 : decide (((i : Nat) : Int) < ((n : Nat) : Int)) = true := decide_eq_true (by omega)
  have f0 : (l.c.fr ≠ 0) = True := eq_true (by have := hf.1; omega)
  have hnd := nd6.1 h.nd
  have hl := h.lts
  simp only [RB.ledger_Ledger_ticks_1, pt, go_sem, bin_rem, e1]
  by_cases g1 : l.clk.tmod l.c.fr = 0
  · have e2 : (l.clk.tmod l.c.fr == 0) = true := by rw [beq_iff_eq]; exact g1
    try simp only [go_sem, ruB, h.bk.at_, f0, e2]
    refine gC.of (Co.Turn_spec h.cs h.w.l16) ?_
    rintro _ m1 ⟨rfl, kc, hU⟩
    have hb1 := h.bk.upd hU (by simp; omega)
    have r1 := h.r.upd hU (by simp; omega) (by simp; omega) (by simp; omega)
    try simp only [go_sem, ruB, hb1.at_, w1, s1]
    have hS : Upd m1 (m1.set a (some (.cells [.int .i64 l.c.fr, .int .i64 l.c.co, .int .i64 l.c.bu, .int .i64 l.c.re, pt b, pt c, .int .i64 (l.clk + 1)] (some 7)))) [a] := Upd.set (by simp)
    have r2 := r1.upd hS (by simp; omega) (by simp; omega) (by simp; omega)
    have c2 := Co.CS.updq kc hS (by simp; omega) (by simp; omega)
    have hL : (tickS l).L = l.L.map Co.turnC := by show (if _ then _ else _ : List Int) = _; rw [if_pos g1]
    refine hQ _ ⟨⟨by simp [Mem.set, tickS], hb1.lt⟩, r2, by rw [hL]; exact c2, tickS_wf h.w, h.nd⟩ ?_
    exact hU.trans hS (fun x hx => by simp at hx ⊢; omega) (fun x hx => .inl (by simp at hx ⊢; omega))
  · have e2 : (l.clk.tmod l.c.fr == 0) = false := by rw [beq_eq_false_iff_ne]; exact g1
    try simp only [go_sem, ruB, h.bk.at_, f0, e2, w1, s1]
    have hS : Upd m (m.set a (some (.cells [.int .i64 l.c.fr, .int .i64 l.c.co, .int .i64 l.c.bu, .int .i64 l.c.re, pt b, pt c, .int .i64 (l.clk + 1)] (some 7)))) [a] := Upd.set (by simp)
    have r2 := h.r.upd hS (by simp; omega) (by simp; omega) (by simp; omega)
    have c2 := Co.CS.updq h.cs hS (by simp; omega) (by simp; omega)
    have hL : (tickS l).L = l.L := by show (if _ then _ else _ : List Int) = _; rw [if_neg g1]
    refine hQ _ ⟨⟨by simp [Mem.set, tickS], hl.1⟩, r2, by rw [hL]; exact c2, tickS_wf h.w, h.nd⟩ ?_
    exact ⟨hS.next, fun x hx hm => hS.same x hx fun hm2 => hm (by simp at hm2 ⊢; exact .inl hm2)⟩

theorem Upd.wide {m m' : Mem} {fp fq : List Nat} (h : Upd m m' fp) (hs : ∀ x ∈ fp, x ∈ fq) : Upd m m' fq := ⟨h.next, fun b hb hn => h.same b hb fun hm => hn (hs b hm)⟩
theorem gp_mono {R : Nat → Option FEnt} {a : RCode} {e : Env} {Q Q' : Ex → Env → Mem → Prop} (h1 : gp R a e m Q') (h2 : ∀ x e' m', Q' x e' m' → Q x e' m') : gp R a e m Q := wp.mono (c := a) h2 h1
def tkS (l : Ld) (n : Int) : Ld × Int := if n < 1 ∨ 1024 < n then (l, 1) else (ticksS n.toNat l, 0)

set_option maxHeartbeats 2000000 in
theorem ticks_spec {a b q1 q2 c cl : Nat} {l : Ld} {n : Int} (h : LdV m a b q1 q2 c cl l) (hk : 0 ≤ l.clk ∧ l.clk ≤ 100000000) : WC R F.ledger_Ledger_ticks [pt a, .int .i64 n] m (LPost m a b q1 q2 c cl (tkS l n)) := by
  refine WC.of R.ledger_Ledger_ticks rfl ?_
  simp only [RC.ledger_Ledger_ticks, pt, go_sem]
  by_cases g1 : n < 1
  · have hX : tkS l n = (l, 1) := by unfold tkS; rw [if_pos (.inl g1)]
    rw [hX]
    try simp only [go_sem, ruB, decide_eq_true g1]
    exact ⟨rfl, Upd.refl _ _, b, q1, q2, c, cl, h, fun x hx => .inl hx⟩
  by_cases g2 : 1024 < n
  · have hX : tkS l n = (l, 1) := by unfold tkS; rw [if_pos (.inr g2)]
    rw [hX]
    try simp only [go_sem, ruB, decide_eq_false g1, decide_eq_true g2]
    exact ⟨rfl, Upd.refl _ _, b, q1, q2, c, cl, h, fun x hx => .inl hx⟩
  obtain ⟨k, rfl⟩ : ∃ k : Nat, n = (k : Int) := ⟨n.toNat, by omega⟩
  have hX : tkS l ((k : Nat) : Int) = (ticksS k l, 0) := by unfold tkS; rw [if_neg (by omega), Int.toNat_natCast]
  rw [hX]
  try simp only [go_sem, ruB, decide_eq_false g1, decide_eq_false g2]
  refine WL.mono (Q := fun y e m' => y = .exit 0 ∧ LdV m' a b q1 q2 c cl (ticksS k l) ∧ Upd m m' [a, cl]) ?_ ?_
  · refine WL.of (fun r e m' => ∃ (i : Nat), i ≤ k ∧ r = k - i ∧ e = [(0, pt a), (11, .int .i64 ((k : Nat) : Int)), (12, .int .i64 ((i : Nat) : Int))] ∧ LdV m' a b q1 q2 c cl (ticksS i l) ∧ Upd m m' [a, cl]) k
      ⟨0, by omega, by omega, by simp only [go_sem] <;> rfl, h, Upd.refl _ _⟩ ?_
    rintro _ _ m1 ⟨i, hi, rfl, rfl, h1, hU1⟩
    by_cases g3 : i < k
    · refine gp_mono (tick_spec h1 (by rw [ticksS_clk]; omega) g3 (by omega) (Q := fun x e m' => x = .normal ∧ e = [(0, pt a), (11, .int .i64 ((k : Nat) : Int)), (12, .int .i64 ((i + 1 : Nat) : Int))] ∧ LdV m' a b q1 q2 c cl (tickS (ticksS i l)) ∧ Upd m m' [a, cl]) (fun m' h' hU' => ⟨rfl, rfl, h', hU1.sameF hU'⟩)) ?_
      rintro x e m' ⟨rfl, he, h', hU'⟩
      exact ⟨k - (i + 1), by omega, i + 1, by omega, rfl, he, h', hU'⟩
    · have e1 : decide (((i : Nat) : Int) < ((k : Nat) : Int)) = false := decide_eq_false (by omega)
      have hi2 : i = k := by omega
      subst hi2
      simp only [RB.ledger_Ledger_ticks_1, pt, go_sem, e1]
      exact ⟨h1, hU1⟩
  rintro _ _ m1 ⟨rfl, h1, hU1⟩
  try simp only [go_sem, ruB]
  exact ⟨rfl, hU1.wide (fun x hx => by simp at hx ⊢; omega), b, q1, q2, c, cl, h1, fun x hx => .inl hx⟩
end Go.Am


/- Ledgers: Do, New. -/
set_option linter.unusedVariables false
set_option linter.unusedSimpArgs false
namespace Go.Am
open Classical
variable {m : Mem}

noncomputable def doL (l : Ld) (c : Cm) : Ld × Int :=
  if 1 ≤ c.op ∧ c.op ≤ 12 then tasksS l c else if c.op = 13 ∨ c.op = 14 then plugS l c else if c.op = 16 then tkS l c.n
  else if c.op = 17 then (l, if (lkp l.s.T c.id).isSome then 0 else 10) else if c.op = 15 then (l, 0) else (l, 1)
theorem LPost.from {m m1 : Mem} {a b q1 q2 c cl : Nat} {X : Ld × Int} {r : Value} {m' : Mem} (hx : Ext m m1) (h : LPost m1 a b q1 q2 c cl X r m') : LPost m a b q1 q2 c cl X r m' := by
  obtain ⟨h1, h2, b', q1', q2', c', cl', h3, h4⟩ := h
  exact ⟨h1, hx.upd.trans h2 (fp := []) (fun _ h => by simp at h) (fun x hx => .inl hx), b', q1', q2', c', cl', h3, fun x hx' => (h4 x hx').imp_right fun h => Nat.le_trans hx.next h⟩
theorem LPost.same {m m' : Mem} {a b q1 q2 c cl : Nat} {l : Ld} {E : Int} (h : LdV m a b q1 q2 c cl l) (hx : Ext m m') : LPost m a b q1 q2 c cl (l, E) (.int .i64 E) m' :=
  ⟨rfl, hx.upd, b, q1, q2, c, cl, h.keep hx, fun x hx => .inl hx⟩

set_option maxHeartbeats 2000000 in
theorem DoL_spec {a b q1 q2 c cl : Nat} {l : Ld} {k : Cm} (h : LdV m a b q1 q2 c cl l) (hk : 0 ≤ l.clk ∧ l.clk ≤ 100000000) (hin : cmIn k) : WC R F.ledger_Ledger_Do [pt a, .agg (cmV k).toArray] m (LPost m a b q1 q2 c cl (doL l k)) := by
  refine WC.of R.ledger_Ledger_Do rfl ?_
  simp only [RC.ledger_Ledger_Do, cmV, pt, go_sem]
  have hx1 : Ext m (m.new (.cells [.int .i64 k.op, .int .i64 k.id, .int .i64 k.grp, .int .i64 k.share, .int .i64 k.weight, .int .i64 k.cap, .int .i64 k.core, .int .i64 k.n] (some 8))) := Ext.new
  have hb1 : Bk (m.new (.cells [.int .i64 k.op, .int .i64 k.id, .int .i64 k.grp, .int .i64 k.share, .int .i64 k.weight, .int .i64 k.cap, .int .i64 k.core, .int .i64 k.n] (some 8))) m.next [.int .i64 k.op, .int .i64 k.id, .int .i64 k.grp, .int .i64 k.share, .int .i64 k.weight, .int .i64 k.cap, .int .i64 k.core, .int .i64 k.n] 8 := Bk.new
  generalize m.new (.cells [.int .i64 k.op, .int .i64 k.id, .int .i64 k.grp, .int .i64 k.share, .int .i64 k.weight, .int .i64 k.cap, .int .i64 k.core, .int .i64 k.n] (some 8)) = m1 at hx1 hb1 ⊢
  have h1 := h.keep hx1
  refine gC.of (ldnone_spec h1) ?_
  rintro _ _ ⟨rfl, hm⟩
  replace hm := hm.symm
  subst hm
  by_cases g1 : 1 ≤ k.op ∧ k.op ≤ 12
  · have hX : doL l k = tasksS l k := by unfold doL; rw [if_pos g1]
    rw [hX]
    try simp only [go_sem, ruB, hb1.at_, decide_eq_true g1.1, decide_eq_true g1.2]
    refine gC.of (tasks_spec h1 hin g1) ?_
    rintro r m2 hp
    obtain ⟨rfl, hp2⟩ := id hp
    try simp only [go_sem, ruB]
    exact hp.from hx1
  by_cases g2 : k.op = 13
  · have f1 : (k.op == 13) = true := by rw [beq_iff_eq]; exact g2
    have d1 : decide (1 ≤ k.op) = true := decide_eq_true (by omega)
    have d2 : decide (k.op ≤ 12) = false := decide_eq_false (by omega)
    have hX : doL l k = plugS l k := by unfold doL; rw [if_neg g1, if_pos (.inl g2)]
    rw [hX]
    try simp only [go_sem, ruB, hb1.at_, d1, d2, f1]
    refine gC.of (plug_spec h1) ?_
    rintro r m2 hp
    obtain ⟨rfl, hp2⟩ := id hp
    try simp only [go_sem, ruB]
    exact hp.from hx1
  have f1 : (k.op == 13) = false := by rw [beq_eq_false_iff_ne]; exact g2
  by_cases g3 : k.op = 14
  · have f2 : (k.op == 14) = true := by rw [beq_iff_eq]; exact g3
    have d1 : decide (1 ≤ k.op) = true := decide_eq_true (by omega)
    have d2 : decide (k.op ≤ 12) = false := decide_eq_false (by omega)
    have hX : doL l k = plugS l k := by unfold doL; rw [if_neg g1, if_pos (.inr g3)]
    rw [hX]
    try simp only [go_sem, ruB, hb1.at_, d1, d2, f1, f2]
    refine gC.of (plug_spec h1) ?_
    rintro r m2 hp
    obtain ⟨rfl, hp2⟩ := id hp
    try simp only [go_sem, ruB]
    exact hp.from hx1
  have f2 : (k.op == 14) = false := by rw [beq_eq_false_iff_ne]; exact g3
  by_cases g4 : k.op = 16
  · have f3 : (k.op == 16) = true := by rw [beq_iff_eq]; exact g4
    have d1 : decide (1 ≤ k.op) = true := decide_eq_true (by omega)
    have d2 : decide (k.op ≤ 12) = false := decide_eq_false (by omega)
    have hX : doL l k = tkS l k.n := by unfold doL; rw [if_neg g1, if_neg (by omega), if_pos g4]
    rw [hX]
    try simp only [go_sem, ruB, hb1.at_, d1, d2, f1, f2, f3]
    refine gC.of (ticks_spec (n := k.n) h1 hk) ?_
    rintro r m2 hp
    obtain ⟨rfl, hp2⟩ := id hp
    try simp only [go_sem, ruB]
    exact hp.from hx1
  have f3 : (k.op == 16) = false := by rw [beq_eq_false_iff_ne]; exact g4
  by_cases g5 : k.op = 17
  · have f4 : (k.op == 17) = true := by rw [beq_iff_eq]; exact g5
    have d1 : decide (1 ≤ k.op) = true := decide_eq_true (by omega)
    have d2 : decide (k.op ≤ 12) = false := decide_eq_false (by omega)
    have hX : doL l k = (l, if (lkp l.s.T k.id).isSome then 0 else 10) := by unfold doL; rw [if_neg g1, if_neg (by omega), if_neg g4, if_pos g5]
    rw [hX]
    try simp only [go_sem, ruB, hb1.at_, d1, d2, f1, f2, f3, f4, h1.bk.at_]
    refine gC.of (Task_spec (id := k.id) (h1.r.keep Ext.bump)) ?_
    rintro _ m2 ⟨rfl, hx2⟩
    have n2 := hx2.next
    simp only [Mem.bump_next] at n2
    have n1 := hx1.next
    have hx12 := (hx1.trans Ext.bump).trans hx2
    cases hl : lkp l.s.T k.id with
    | none =>
      simp only [Option.getD_none, Option.isSome_none, tvA, tkV, zT]
      try simp only [go_sem, ruB, aExt0, aExt1]
      exact LPost.same h ((hx12.set (by omega)).set (by omega))
    | some t =>
      simp only [Option.getD_some, Option.isSome_some, tvA, tkV]
      try simp only [go_sem, ruB, aExt0, aExt1]
      exact LPost.same h ((hx12.set (by omega)).set (by omega))
  have f4 : (k.op == 17) = false := by rw [beq_eq_false_iff_ne]; exact g5
  by_cases g6 : k.op = 15
  · have f5 : (k.op == 15) = true := by rw [beq_iff_eq]; exact g6
    have d1 : decide (1 ≤ k.op) = true := decide_eq_true (by omega)
    have d2 : decide (k.op ≤ 12) = false := decide_eq_false (by omega)
    have hX : doL l k = (l, 0) := by unfold doL; rw [if_neg g1, if_neg (by omega), if_neg g4, if_neg g5, if_pos g6]
    rw [hX]
    try simp only [go_sem, ruB, hb1.at_, d1, d2, f1, f2, f3, f4, f5]
    exact LPost.same h hx1
  have f5 : (k.op == 15) = false := by rw [beq_eq_false_iff_ne]; exact g6
  have hX : doL l k = (l, 1) := by unfold doL; rw [if_neg g1, if_neg (by omega), if_neg g4, if_neg g5, if_neg g6]
  rw [hX]
  by_cases d : 1 ≤ k.op
  · try simp only [go_sem, ruB, hb1.at_, decide_eq_true d, decide_eq_false (show ¬ k.op ≤ 12 by omega), f1, f2, f3, f4, f5]
    exact LPost.same h hx1
  · try simp only [go_sem, ruB, hb1.at_, decide_eq_false d, f1, f2, f3, f4, f5]
    exact LPost.same h hx1
end Go.Am


/- Ledgers: New; there is always room. -/
set_option linter.unusedVariables false
set_option linter.unusedSimpArgs false
namespace Go.Am
open Classical
variable {m : Mem}

theorem kfill_l7 {x y z w : Int} {d c : Nat} : fillL [.int .i64 0, .int .i64 0, .int .i64 0, .int .i64 0, .pointer none, .pointer none, .int .i64 0] [(0, 4, .agg #[.int .i64 x, .int .i64 y, .int .i64 z, .int .i64 w]), (4, 1, .pointer (some ⟨d, 0, none⟩)), (5, 1, .pointer (some ⟨c, 0, none⟩))] = some [.int .i64 x, .int .i64 y, .int .i64 z, .int .i64 w, .pointer (some ⟨d, 0, none⟩), .pointer (some ⟨c, 0, none⟩), .int .i64 0] := rfl

set_option maxHeartbeats 2000000 in
theorem NewL_spec {k : Cf} : WC R F.ledger_New [.agg (cfV k).toArray] m fun r m' => Ext m m' ∧ ((¬ cfOk k ∧ r = .tuple #[.pointer none, .int .i64 1]) ∨ (cfOk k ∧ ∃ a b q1 q2 c cl n, r = .tuple #[pt a, .int .i64 0] ∧ k.co = ((n : Nat) : Int) ∧ LdV m' a b q1 q2 c cl ⟨k, ⟨k.fr, [], []⟩, List.replicate n 1, 0⟩ ∧ ∀ x ∈ [a, b, q1, q2, c, cl], m.next ≤ x)) := by
  refine WC.of R.ledger_New rfl ?_
  simp only [RC.ledger_New, cfV, go_sem]
  have hx1 : Ext m (m.new (.cells [.int .i64 k.fr, .int .i64 k.co, .int .i64 k.bu, .int .i64 k.re] (some 4))) := Ext.new
  have hb1 : Bk (m.new (.cells [.int .i64 k.fr, .int .i64 k.co, .int .i64 k.bu, .int .i64 k.re] (some 4))) m.next [.int .i64 k.fr, .int .i64 k.co, .int .i64 k.bu, .int .i64 k.re] 4 := Bk.new
  generalize m.new (.cells [.int .i64 k.fr, .int .i64 k.co, .int .i64 k.bu, .int .i64 k.re] (some 4)) = m1 at hx1 hb1 ⊢
  try simp only [go_sem, ruB, hb1.at_]
  refine gC.of (Check_spec (c := k)) ?_
  rintro _ m2 ⟨hx2, rfl⟩
  have hx12 := hx1.trans hx2
  have hb2 := hb1.keep hx2
  by_cases g : cfOk k
  · rw [if_pos g]
    have e0 : ((0 : Int) != 0) = false := rfl
    try simp only [go_sem, ruB, e0, hb2.at_]
    refine gC.of (New_spec (f := k.fr)) ?_
    rintro _ m3 (⟨hn, -⟩ | ⟨k4, k5, b, q1, q2, rfl, hV, j0, j1, j2, hx3⟩)
    · exact absurd ⟨g.1, g.2.1⟩ hn
    have hb3 := hb2.keep hx3
    simp only [pt]
    try simp only [go_sem, ruB, aExt0, aExt1, e0, hb3.at_]
    refine gC.of (Co.New_spec (n := k.co)) ?_
    rintro _ m4 (⟨hn, -⟩ | ⟨n, c, cl, hn, n1, n16, rfl, hC, i1, i2, hx4⟩)
    · exfalso; obtain ⟨-, -, g3, g4, -⟩ := g; omega
    have hb4 := hb3.keep hx4
    simp only [copt_eq]
    try simp only [go_sem, ruB, aExt0, aExt1, e0, hb4.at_, ↓kfill_l7]
    have hx5 : Ext m4 (m4.new (.cells [.int .i64 k.fr, .int .i64 k.co, .int .i64 k.bu, .int .i64 k.re, pt b, pt c, .int .i64 0] (some 7))) := Ext.new
    have hV4 := hV.keep hx4
    have hb5 : Bk (m4.new (.cells [.int .i64 k.fr, .int .i64 k.co, .int .i64 k.bu, .int .i64 k.re, pt b, pt c, .int .i64 0] (some 7))) m4.next [.int .i64 k.fr, .int .i64 k.co, .int .i64 k.bu, .int .i64 k.re, pt b, pt c, .int .i64 0] 7 := Bk.new
    have l1 := hx12.next; have l3 := hx3.next; have l4 := hx4.next
    have v1 := hV.bk.lt; have v2 := hV.t.lt; have v3 := hV.g.lt
    have v4 := hC.2.2.2.1; have v5 := hC.2.2.2.2; have v6 := hC.2.2.1
    have w1 := hV.n1; have w2 := hV.n2; have w3 := hV.n3
    refine ⟨((hx12.trans hx3).trans hx4).trans hx5, .inr ⟨g, m4.next, b, q1, q2, c, cl, n, rfl, hn, ⟨hb5, hV4.keep hx5, hC.keep hx5, ⟨g, .new ⟨g.1, g.2.1⟩, rfl, by simp; omega, by simp; omega⟩, nd6.2 (by omega)⟩, fun x hx => by simp at hx; omega⟩⟩
  · rw [if_neg g]
    have e0 : ((1 : Int) != 0) = true := rfl
    try simp only [go_sem, ruB, e0]
    exact ⟨hx12, .inl g⟩
end Go.Am


/- Ledgers: there is always room. -/
set_option linter.unusedVariables false
set_option linter.unusedSimpArgs false
namespace Go.Am
open Classical
variable {m : Mem}

structure Room (l : Ld) : Prop where
  on : 1 ≤ Co.onl l.L
  sh : shSumR (unitsR l.s) ≤ l.c.fr * onlI l.L
theorem onl_setC {L : List Int} {i : Nat} (h : i < L.length) (x : Int) : Co.onl (L.set i x) = Co.onl L - (if L[i] = 1 then 1 else 0) + (if x = 1 then 1 else 0) := by
  unfold Co.onl; rw [List.countP_set h]; simp
theorem onl_chg {L : List Int} {c f t : Int} (h : 1 ≤ Co.onl L) (h1 : t ≠ 1) (h2 : f = 1 → t = 2) : 1 ≤ Co.onl (Co.chg L c f t).1 := by
  unfold Co.chg
  split
  · rename_i hc
    split
    · rename_i hf
      split
      · exact h
      · rename_i hn
        simp only
        rw [onl_setC hc.2, if_neg h1]
        by_cases f1 : f = 1
        · have := h2 f1
          have : Co.onl L ≠ 1 := fun e => hn ⟨this, e⟩
          split <;> omega
        · rw [if_neg (by rw [hf]; exact f1)]; omega
    · exact h
  · exact h
theorem onl_turn {L : List Int} : Co.onl L ≤ Co.onl (L.map Co.turnC) := by
  unfold Co.onl
  rw [List.countP_map]
  refine List.countP_mono_left fun x _ hx => ?_
  simp at hx; subst hx; decide
theorem Room.tick {l : Ld} (h : Room l) (hf : 0 ≤ l.c.fr) : Room (tickS l) := by
  unfold tickS
  by_cases e : l.clk.tmod l.c.fr = 0
  · rw [if_pos e]
    have := onl_turn (L := l.L)
    refine ⟨Nat.le_trans h.on this, Int.le_trans h.sh (Int.mul_le_mul_of_nonneg_left ?_ hf)⟩
    show onlI l.L ≤ onlI (l.L.map Co.turnC)
    unfold onlI; omega
  · rw [if_neg e]; exact ⟨h.on, h.sh⟩
theorem ticksS_c {l : Ld} : ∀ {n : Nat}, (ticksS n l).c = l.c
  | 0 => rfl
  | n + 1 => by show (ticksS n l).c = l.c; exact ticksS_c
theorem Room.ticks {l : Ld} (h : Room l) (hf : 0 ≤ l.c.fr) : ∀ {n : Nat}, Room (ticksS n l)
  | 0 => h
  | n + 1 => Room.tick (Room.ticks h hf) (by rw [ticksS_c]; exact hf)
theorem Room.do_ {l : Ld} (h : Room l) (hf : 0 ≤ l.c.fr) {c : Cm} : Room (doL l c).1 := by
  unfold doL
  by_cases g1 : 1 ≤ c.op ∧ c.op ≤ 12
  · rw [if_pos g1]
    unfold tasksS
    by_cases g : (doS l.s c).2 ≠ 0
    · rw [if_pos g]; exact h
    · rw [if_neg g]
      by_cases g' : shSumR (unitsR (doS l.s c).1) ≤ l.c.fr * onlI l.L
      · rw [if_pos g']; exact ⟨h.on, g'⟩
      · rw [if_neg g']; exact h
  rw [if_neg g1]
  by_cases g2 : c.op = 13 ∨ c.op = 14
  · rw [if_pos g2]
    unfold plugS
    by_cases g : (plugC l c).2 ≠ 0
    · rw [if_pos g]; exact h
    · rw [if_neg g]
      by_cases g' : shSumR (unitsR l.s) ≤ l.c.fr * onlI (plugC l c).1
      · rw [if_pos g']
        refine ⟨?_, g'⟩
        show 1 ≤ Co.onl (plugC l c).1
        unfold plugC
        split
        · exact onl_chg h.on (by decide) (by decide)
        · exact onl_chg h.on (by decide) (by decide)
      · rw [if_neg g']; exact h
  rw [if_neg g2]
  by_cases g3 : c.op = 16
  · rw [if_pos g3]
    unfold tkS
    by_cases g : c.n < 1 ∨ 1024 < c.n
    · rw [if_pos g]; exact h
    · rw [if_neg g]; exact h.ticks hf
  rw [if_neg g3]
  by_cases g4 : c.op = 17
  · rw [if_pos g4]; exact h
  rw [if_neg g4]
  by_cases g5 : c.op = 15
  · rw [if_pos g5]; exact h
  rw [if_neg g5]; exact h
theorem doL_c {l : Ld} {c : Cm} : (doL l c).1.c = l.c := by
  unfold doL tasksS plugS tkS
  by_cases g1 : 1 ≤ c.op ∧ c.op ≤ 12
  · rw [if_pos g1]; split
    · rfl
    · split <;> rfl
  rw [if_neg g1]
  by_cases g2 : c.op = 13 ∨ c.op = 14
  · rw [if_pos g2]; split
    · rfl
    · split <;> rfl
  rw [if_neg g2]
  by_cases g3 : c.op = 16
  · rw [if_pos g3]; split
    · rfl
    · exact ticksS_c
  rw [if_neg g3]
  by_cases g4 : c.op = 17
  · rw [if_pos g4]
  rw [if_neg g4]
  by_cases g5 : c.op = 15
  · rw [if_pos g5]
  rw [if_neg g5]
theorem doL_clk {l : Ld} {c : Cm} (h : 0 ≤ l.clk) : 0 ≤ (doL l c).1.clk ∧ (doL l c).1.clk ≤ l.clk + 1024 := by
  unfold doL tasksS plugS tkS
  by_cases g1 : 1 ≤ c.op ∧ c.op ≤ 12
  · rw [if_pos g1]; split
    · (show 0 ≤ l.clk ∧ l.clk ≤ l.clk + 1024; omega)
    · split <;> (show 0 ≤ l.clk ∧ l.clk ≤ l.clk + 1024; omega)
  rw [if_neg g1]
  by_cases g2 : c.op = 13 ∨ c.op = 14
  · rw [if_pos g2]; split
    · (show 0 ≤ l.clk ∧ l.clk ≤ l.clk + 1024; omega)
    · split <;> (show 0 ≤ l.clk ∧ l.clk ≤ l.clk + 1024; omega)
  rw [if_neg g2]
  by_cases g3 : c.op = 16
  · rw [if_pos g3]; split
    · (show 0 ≤ l.clk ∧ l.clk ≤ l.clk + 1024; omega)
    · show 0 ≤ (ticksS c.n.toNat l).clk ∧ (ticksS c.n.toNat l).clk ≤ l.clk + 1024; rw [ticksS_clk]; omega
  rw [if_neg g3]
  by_cases g4 : c.op = 17
  · rw [if_pos g4]; (show 0 ≤ l.clk ∧ l.clk ≤ l.clk + 1024; omega)
  rw [if_neg g4]
  by_cases g5 : c.op = 15
  · rw [if_pos g5]; (show 0 ≤ l.clk ∧ l.clk ≤ l.clk + 1024; omega)
  rw [if_neg g5]; (show 0 ≤ l.clk ∧ l.clk ≤ l.clk + 1024; omega)
theorem unitsR_nil {f : Int} : unitsR ⟨f, [], []⟩ = [] := rfl
theorem Room.new {k : Cf} {n : Nat} (h : cfOk k) (hn : k.co = ((n : Nat) : Int)) : Room ⟨k, ⟨k.fr, [], []⟩, List.replicate n 1, 0⟩ := by
  have ho : Co.onl (List.replicate n (1 : Int)) = n := by unfold Co.onl; rw [List.countP_replicate]; simp
  refine ⟨by show 1 ≤ Co.onl (List.replicate n (1 : Int)); rw [ho]; have := h.2.2.1; omega, ?_⟩
  show shSumR (unitsR ⟨k.fr, [], []⟩) ≤ k.fr * onlI (List.replicate n 1)
  rw [unitsR_nil]
  unfold onlI
  rw [ho]
  exact Int.mul_nonneg (by have := h.1; omega) (by omega)
/-- A ledger that is ours. -/
structure LI (m0 m : Mem) (a b q1 q2 c cl : Nat) (l : Ld) : Prop where
  v : LdV m a b q1 q2 c cl l
  own : ∀ x ∈ [a, b, q1, q2, c, cl], m0.next ≤ x
  x : Ext m0 m
theorem LI.keep {m0 m m' : Mem} {a b q1 q2 c cl : Nat} {l : Ld} (h : LI m0 m a b q1 q2 c cl l) (hx : Ext m m') : LI m0 m' a b q1 q2 c cl l := ⟨h.v.keep hx, h.own, h.x.trans hx⟩
theorem LI.post {m0 m m' : Mem} {a b q1 q2 c cl : Nat} {l : Ld} {X : Ld × Int} {r : Value} (h : LI m0 m a b q1 q2 c cl l) (hp : LPost m a b q1 q2 c cl X r m') : ∃ b' q1' q2' c' cl', LI m0 m' a b' q1' q2' c' cl' X.1 := by
  obtain ⟨-, hU, b', q1', q2', c', cl', hV, ho⟩ := hp
  refine ⟨b', q1', q2', c', cl', hV, fun x hx => ?_, hU.ext_of h.x h.own⟩
  have hn := h.x.next
  rcases List.mem_cons.1 hx with rfl | hx
  · exact h.own _ (by simp)
  · rcases ho x hx with k | k
    · exact h.own x (List.mem_cons_of_mem _ k)
    · omega
end Go.Am


/- LedgerNever. -/
set_option linter.unusedVariables false
set_option linter.unusedSimpArgs false
namespace Go.Am
open Classical
variable {m : Mem}

theorem Right_spec {c : Cf} : WC R F.ref29_Right [.agg (cfV c).toArray] m fun r m' => Ext m m' ∧ r = .bool (decide (cfOk c)) := by
  refine WC.of R.ref29_Right rfl ?_
  simp only [RC.ref29_Right, cfV, go_sem]
  have hx1 : Ext m (m.new (.cells [.int .i64 c.fr, .int .i64 c.co, .int .i64 c.bu, .int .i64 c.re] (some 4))) := Ext.new
  have hb1 : Bk (m.new (.cells [.int .i64 c.fr, .int .i64 c.co, .int .i64 c.bu, .int .i64 c.re] (some 4))) m.next [.int .i64 c.fr, .int .i64 c.co, .int .i64 c.bu, .int .i64 c.re] 4 := Bk.new
  generalize m.new (.cells [.int .i64 c.fr, .int .i64 c.co, .int .i64 c.bu, .int .i64 c.re] (some 4)) = m1 at hx1 hb1 ⊢
  by_cases h1 : 2 ≤ c.fr
  rotate_left
  · have hX : ¬ cfOk c := fun h => h1 h.1
    rw [decide_eq_false hX]
    try simp only [go_sem, ruB, hb1.at_, decide_eq_false h1]
    exact hx1
  by_cases h2 : c.fr ≤ 64
  rotate_left
  · have hX : ¬ cfOk c := fun h => h2 h.2.1
    rw [decide_eq_false hX]
    try simp only [go_sem, ruB, hb1.at_, decide_eq_true h1, decide_eq_false h2]
    exact hx1
  by_cases h3 : 1 ≤ c.co
  rotate_left
  · have hX : ¬ cfOk c := fun h => h3 h.2.2.1
    rw [decide_eq_false hX]
    try simp only [go_sem, ruB, hb1.at_, decide_eq_true h1, decide_eq_true h2, decide_eq_false h3]
    exact hx1
  by_cases h4 : c.co ≤ 16
  rotate_left
  · have hX : ¬ cfOk c := fun h => h4 h.2.2.2.1
    rw [decide_eq_false hX]
    try simp only [go_sem, ruB, hb1.at_, decide_eq_true h1, decide_eq_true h2, decide_eq_true h3, decide_eq_false h4]
    exact hx1
  by_cases h5 : 1 ≤ c.bu
  rotate_left
  · have hX : ¬ cfOk c := fun h => h5 h.2.2.2.2.1
    rw [decide_eq_false hX]
    try simp only [go_sem, ruB, hb1.at_, decide_eq_true h1, decide_eq_true h2, decide_eq_true h3, decide_eq_true h4, decide_eq_false h5]
    exact hx1
  by_cases h6 : c.bu ≤ 8
  rotate_left
  · have hX : ¬ cfOk c := fun h => h6 h.2.2.2.2.2.1
    rw [decide_eq_false hX]
    try simp only [go_sem, ruB, hb1.at_, decide_eq_true h1, decide_eq_true h2, decide_eq_true h3, decide_eq_true h4, decide_eq_true h5, decide_eq_false h6]
    exact hx1
  by_cases h7 : 2048 ≤ c.re
  rotate_left
  · have hX : ¬ cfOk c := fun h => h7 h.2.2.2.2.2.2.1
    rw [decide_eq_false hX]
    try simp only [go_sem, ruB, hb1.at_, decide_eq_true h1, decide_eq_true h2, decide_eq_true h3, decide_eq_true h4, decide_eq_true h5, decide_eq_true h6, decide_eq_false h7]
    exact hx1
  by_cases h8 : c.re ≤ 1099511627776
  rotate_left
  · have hX : ¬ cfOk c := fun h => h8 h.2.2.2.2.2.2.2
    rw [decide_eq_false hX]
    try simp only [go_sem, ruB, hb1.at_, decide_eq_true h1, decide_eq_true h2, decide_eq_true h3, decide_eq_true h4, decide_eq_true h5, decide_eq_true h6, decide_eq_true h7, decide_eq_false h8]
    exact hx1
  have hX : cfOk c := ⟨h1, h2, h3, h4, h5, h6, h7, h8⟩
  rw [decide_eq_true hX]
  try simp only [go_sem, ruB, hb1.at_, decide_eq_true h1, decide_eq_true h2, decide_eq_true h3, decide_eq_true h4, decide_eq_true h5, decide_eq_true h6, decide_eq_true h7, decide_eq_true h8]
  exact hx1


structure CmsV (m : Mem) (l : List Cm) (v : Value) : Prop where
  sl : Sl m 8 l.length (l.flatMap cmV) v
  lt : SlLt m v
  ok : ∀ c ∈ l, cmIn c
theorem CmsV.keep {m m' : Mem} {l : List Cm} {v : Value} (h : CmsV m l v) (hx : Ext m m') : CmsV m' l v := ⟨h.sl.keep h.lt hx, h.lt.keep hx, h.ok⟩

end Go.Am


/- Commands as they are read. -/
set_option linter.unusedVariables false
namespace Go.Am
theorem cms_read {m : Mem} {v : Value} (h : Rd m (.sl [.int .i64, .int .i64, .int .i64, .int .i64, .int .i64, .int .i64, .int .i64, .int .i64]) v) : ∃ l : List Cm, CmsV m l v := by
  obtain ⟨l, h1, h2, -⟩ := Rd.slice (f := fun c : { c : Cm // cmIn c } => cmV c.1) (fun cs hc => by
    obtain ⟨a, r, rfl, h1, k1⟩ := hc.one
    obtain ⟨b, r, rfl, h2, k2⟩ := k1.one
    obtain ⟨c, r, rfl, h3, k3⟩ := k2.one
    obtain ⟨d, r, rfl, h4, k4⟩ := k3.one
    obtain ⟨e, r, rfl, h5, k5⟩ := k4.one
    obtain ⟨f, r, rfl, h6, k6⟩ := k5.one
    obtain ⟨g, r, rfl, h7, k7⟩ := k6.one
    obtain ⟨i, r, rfl, h8, k8⟩ := k7.one
    cases k8.none
    obtain ⟨x1, rfl, -⟩ := h1.i64
    obtain ⟨x2, rfl, b2⟩ := h2.i64
    obtain ⟨x3, rfl, b3⟩ := h3.i64
    obtain ⟨x4, rfl, -⟩ := h4.i64
    obtain ⟨x5, rfl, -⟩ := h5.i64
    obtain ⟨x6, rfl, -⟩ := h6.i64
    obtain ⟨x7, rfl, -⟩ := h7.i64
    obtain ⟨x8, rfl, -⟩ := h8.i64
    exact ⟨⟨⟨x1, x2, x3, x4, x5, x6, x7, x8⟩, b2, b3⟩, rfl⟩) h
  refine ⟨l.map Subtype.val, ?_, h2, fun c hc => ?_⟩
  · rw [List.length_map, List.flatMap_map]; exact h1
  · obtain ⟨c', -, rfl⟩ := List.mem_map.1 hc; exact c'.2
end Go.Am


/- LedgerAbsent: two ledgers side by side. -/
set_option linter.unusedVariables false
set_option linter.unusedSimpArgs false
namespace Go.Am
open Classical
variable {m : Mem}

theorem LdV.updq {m m' : Mem} {a b q1 q2 c cl : Nat} {l : Ld} {fp : List Nat} (h : LdV m a b q1 q2 c cl l) (hx : Upd m m' fp) (ho : ∀ x ∈ [a, b, q1, q2, c, cl], x ∉ fp) : LdV m' a b q1 q2 c cl l :=
  ⟨h.bk.upd hx (ho _ (by simp)), h.r.upd hx (ho _ (by simp)) (ho _ (by simp)) (ho _ (by simp)), Co.CS.updq h.cs hx (ho _ (by simp)) (ho _ (by simp)), h.w, h.nd⟩
theorem LdV.ltm {a b q1 q2 c cl : Nat} {l : Ld} (h : LdV m a b q1 q2 c cl l) : ∀ x ∈ [a, b, q1, q2, c, cl], x < m.next := fun x hx => by
  have := h.lts
  simp at hx
  omega

end Go.Am


/- CoresR over the table of ledgerz (relayset.py). -/
set_option linter.unusedVariables false
set_option linter.unusedSimpArgs false
namespace Go.Am.Co
variable {m : Mem}

theorem RCount_spec {v : Value} {L : List Int} {x : Int} (hs : Sl m 1 L.length (intsZ L) v) (hl : L.length < 1000000) : WC R F.ref27_Count [v, .int .i64 x] m fun r m' => r = .int .i64 (L.countP (fun y => y == x) : Nat) ∧ m' = m := by
  refine WC.of R.ref27_Count rfl ?_
  simp only [RC.ref27_Count, RB.ref27_Count_1, go_sem]
  refine WL.of (fun n e m' => ∃ i : Nat, i ≤ L.length ∧ n = L.length - i ∧ e = [(0, v), (1, .int .i64 x), (5, .int .i64 ((L.take i).countP (fun y => y == x) : Nat)), (6, .int .i64 i)] ∧ m' = m) L.length ⟨0, by omega, by omega, by simp only [go_sem] <;> rfl, rfl⟩ ?_
  rintro _ _ _ ⟨i, hi, rfl, rfl, rfl⟩
  simp only [go_sem, hs.len]
  refine gT.of (fun h1 => ?_) (fun h1 => ?_)
  · simp only [decide_eq_true_eq] at h1
    have hil : i < L.length := by omega
    have e1 : IntKind.wrap .i64 ((i : Int) + 1) = ((i + 1 : Nat) : Int) := by rw [wrap_i64 (by omega) (by omega)]; rfl
    have cl : (L.take i).countP (fun y => y == x) ≤ i := Nat.le_trans List.countP_le_length (by simp; omega)
    have e2 : IntKind.wrap .i64 (((L.take i).countP (fun y => y == x) : Nat) + 1 : Int) = (((L.take i).countP (fun y => y == x) + 1 : Nat) : Int) := by rw [wrap_i64 (by omega) (by omega)]; rfl
    obtain ⟨p, a1, a2⟩ := hs.get (k := .i64) (i := i) hil
    rw [intsZ_get' hil] at a2
    simp only [go_sem, a1, a2]
    have st : (L.take (i + 1)).countP (fun y => y == x) = (L.take i).countP (fun y => y == x) + (if (L[i] == x) = true then 1 else 0) := by
      rw [List.take_succ_eq_append_getElem hil, List.countP_append]; simp [List.countP_cons]
    refine gT.of (fun h2 => ?_) (fun h2 => ?_)
    · simp only [go_sem, h2, e1, e2]
      refine ⟨L.length - (i + 1), by omega, i + 1, by omega, rfl, ?_⟩
      rw [st, if_pos h2]
    · simp only [go_sem, h2, e1, e2]
      refine ⟨L.length - (i + 1), by omega, i + 1, by omega, rfl, ?_⟩
      rw [st, h2]; simp
  · simp only [go_sem]
    simp only [decide_eq_false_iff_not] at h1
    rw [List.take_of_length_le (by omega)]

/-- A list of the document's answer. -/
def RL (fp : List Nat) (m : Mem) (L : List Int) (v : Value) : Prop := Sl m 1 L.length (intsZ L) v ∧ SlLt m v ∧ SlOff fp v

theorem RL.own {fp : List Nat} {m m' : Mem} {L : List Int} {v : Value} (h : Own m m' 1 L.length (intsZ L) v) (hf : ∀ x ∈ fp, x < m.next) : RL fp m' L v := ⟨h.sl, h.lt, h.off hf⟩
theorem RL.keep {fp : List Nat} {m m' : Mem} {L : List Int} {v : Value} (h : RL fp m L v) (hx : Ext m m') : RL fp m' L v := ⟨h.1.keep h.2.1 hx, h.2.1.keep hx, h.2.2⟩
theorem RL.upd {fp : List Nat} {m m' : Mem} {L : List Int} {v : Value} (h : RL fp m L v) (hx : Upd m m' fp) : RL fp m' L v := ⟨h.1.upd h.2.1 h.2.2 hx, h.2.1.upd hx, h.2.2⟩

theorem RNew_spec {n : Nat} (h16 : n ≤ 16) : WC R F.ref27_New [.int .i64 n] m fun r m' => Own m m' 1 n (intsZ (List.replicate n 1)) r ∧ Ext m m' := by
  refine WC.of R.ref27_New rfl ?_
  simp only [RC.ref27_New, RB.ref27_New_1, go_sem]
  refine WL.of (fun r e m' => ∃ (i : Nat) (v : Value), i ≤ n ∧ r = n - i ∧ e = [(0, .int .i64 n), (3, v), (4, .int .i64 i)] ∧ Own m m' 1 i (intsZ (List.replicate i 1)) v ∧ Ext m m') n
    ⟨0, _, by omega, by omega, by simp only [go_sem] <;> rfl, .at (all := []) (Nat.le_refl _) (by simp [Mem.new]) (Nat.le_refl _) (by simp [Mem.new]) (by simp) rfl rfl, Ext.new⟩ ?_
  rintro _ _ m1 ⟨i, v, hi, rfl, rfl, ho, hx⟩
  simp only [go_sem]
  refine gT.of (fun h1 => ?_) (fun h1 => ?_)
  · simp only [decide_eq_true_eq] at h1
    have e1 : IntKind.wrap .i64 ((i : Int) + 1) = ((i + 1 : Nat) : Int) := by rw [wrap_i64 (by omega) (by omega)]; rfl
    obtain ⟨v', m', p1, p2, p3⟩ := ho.app (es := [.int .i64 1]) (by_ := 8) hx (by omega) rfl rfl (by omega) (by omega)
    simp only [go_sem, p1, e1]
    refine ⟨n - (i + 1), by omega, i + 1, v', by omega, rfl, rfl, ?_, p3⟩
    have : intsZ (List.replicate (i + 1) 1) = intsZ (List.replicate i 1) ++ [.int .i64 1] := by unfold intsZ; rw [List.replicate_succ', List.map_append]; rfl
    rw [this]; exact p2
  · simp only [go_sem]
    simp only [decide_eq_false_iff_not] at h1
    have : i = n := by omega
    subst this
    exact ⟨ho, hx⟩

theorem with_spec {fp : List Nat} {v : Value} {L : List Int} {i : Nat} {x : Int} (hs : RL fp m L v) (hl : L.length < 1000000) (hi : i < L.length) (hf : ∀ x ∈ fp, x < m.next) : WC R F.ref27_with [v, .int .i64 i, .int .i64 x] m fun r m' => RL fp m' (L.set i x) r ∧ Ext m m' := by
  refine WC.of R.ref27_with rfl ?_
  have hs2 := hs.1.keep hs.2.1 (Ext.new (m := m) (o := .cells [] (some 1)))
  obtain ⟨m', p1, p2, p3, p4⟩ := app_copy_at (by_ := 8) hs2 ints_one (by omega) (by omega) (by omega)
  have g1 : (0 : Int) ≤ i := by omega
  have g2 : (i : Int) < L.length := by omega
  simp only [RC.ref27_with, go_sem, p1, ruBz, if_pos g1, g1, g2, Int.toNat_natCast, p2, stI hi]
  refine ⟨⟨?_, ?_, ?_⟩, p4.set (by omega)⟩
  · rw [List.length_set]
    refine .at (Nat.le_refl _) ?_
    unfold aCells
    simp only [set_blk, if_true]
    rw [if_pos (by simp [intsZ_len])]
    simp [intsZ]
    rw [List.take_of_length_le (by simp)]
  · simp only [SlLt, set_next]; omega
  · intro hm; have := hf _ hm; simp only at this; omega
end Go.Am.Co


/- CoresR2 over the table of ledgerz (relayset.py). -/
set_option linter.unusedVariables false
set_option linter.unusedSimpArgs false
namespace Go.Am.Co
variable {m : Mem}

theorem RPlug_spec {fp : List Nat} {v : Value} {L : List Int} {c : Int} (hs : RL fp m L v) (hl : L.length < 1000000) (hf : ∀ x ∈ fp, x < m.next) : WC R F.ref27_Plug [v, .int .i64 c] m fun r m' =>
    ∃ v', r = .tuple #[v', .int .i64 (chg L c 0 4).2] ∧ RL fp m' (chg L c 0 4).1 v' ∧ Ext m m' := by
  refine WC.of R.ref27_Plug rfl ?_
  simp only [RC.ref27_Plug, go_sem, hs.1.len]
  refine gT.of (fun h1 => ?_) (fun h1 => ?_)
  · simp only [go_sem, h1]
    simp only [decide_eq_true_eq] at h1
    have e : chg L c 0 4 = (L, 24) := by unfold chg; rw [dif_neg (by omega)]
    rw [e]; exact ⟨v, rfl, hs, Ext.refl _⟩
  · simp only [go_sem, h1, hs.1.len]
    refine gT.of (fun h2 => ?_) (fun h2 => ?_)
    · simp only [go_sem, h1, h2]
      simp only [decide_eq_true_eq] at h2
      have e : chg L c 0 4 = (L, 24) := by unfold chg; rw [dif_neg (by omega)]
      rw [e]; exact ⟨v, rfl, hs, Ext.refl _⟩
    · simp only [decide_eq_false_iff_not] at h1 h2
      obtain ⟨i, rfl⟩ : ∃ i : Nat, c = i := ⟨c.toNat, by omega⟩
      have hi : i < L.length := by omega
      have hc : 0 ≤ ((i : Nat) : Int) ∧ ((i : Nat) : Int).toNat < L.length := by omega
      have et : ((i : Nat) : Int).toNat = i := Int.toNat_natCast i
      obtain ⟨p, a1, a2⟩ := hs.1.get (k := .i64) (i := i) hi
      rw [intsZ_get' hi] at a2
      simp only [go_sem, a1, a2, h1, h2]
      refine gT.of (fun q => ?_) (fun q => ?_)
      · have : L[i] ≠ 0 := by simpa using q
        have e : chg L i 0 4 = (L, 15) := by unfold chg; rw [dif_pos hc]; simp only [et]; rw [if_neg this]
        simp only [go_sem]
        rw [e]; exact ⟨v, rfl, hs, Ext.refl _⟩
      · have q' : L[i] = 0 := by simpa using q
        have e : chg L i 0 4 = (L.set i 4, 0) := by unfold chg; rw [dif_pos hc]; simp only [et]; rw [if_pos q', if_neg (fun h => absurd h.1 (by decide))]
        simp only [go_sem, q]
        refine gC.of (with_spec hs hl hi hf) ?_
        rintro r m' ⟨b1, b2⟩
        simp only [go_sem]
        rw [e]; exact ⟨r, rfl, b1, b2⟩

theorem onl_eq {L : List Int} : L.countP (fun y => y == 1) = onl L := by unfold onl; congr 1; funext y; rw [Bool.eq_iff_iff]; simp

theorem RUnplug_spec {fp : List Nat} {v : Value} {L : List Int} {c : Int} (hs : RL fp m L v) (hl : L.length < 1000000) (hf : ∀ x ∈ fp, x < m.next) : WC R F.ref27_Unplug [v, .int .i64 c] m fun r m' =>
    ∃ v', r = .tuple #[v', .int .i64 (chg L c 1 2).2] ∧ RL fp m' (chg L c 1 2).1 v' ∧ Ext m m' := by
  refine WC.of R.ref27_Unplug rfl ?_
  simp only [RC.ref27_Unplug, go_sem, hs.1.len]
  refine gT.of (fun h1 => ?_) (fun h1 => ?_)
  · simp only [go_sem, h1]
    simp only [decide_eq_true_eq] at h1
    have e : chg L c 1 2 = (L, 24) := by unfold chg; rw [dif_neg (by omega)]
    rw [e]; exact ⟨v, rfl, hs, Ext.refl _⟩
  · simp only [go_sem, h1, hs.1.len]
    refine gT.of (fun h2 => ?_) (fun h2 => ?_)
    · simp only [go_sem, h1, h2]
      simp only [decide_eq_true_eq] at h2
      have e : chg L c 1 2 = (L, 24) := by unfold chg; rw [dif_neg (by omega)]
      rw [e]; exact ⟨v, rfl, hs, Ext.refl _⟩
    · simp only [decide_eq_false_iff_not] at h1 h2
      obtain ⟨i, rfl⟩ : ∃ i : Nat, c = i := ⟨c.toNat, by omega⟩
      have hi : i < L.length := by omega
      have hc : 0 ≤ ((i : Nat) : Int) ∧ ((i : Nat) : Int).toNat < L.length := by omega
      have et : ((i : Nat) : Int).toNat = i := Int.toNat_natCast i
      obtain ⟨p, a1, a2⟩ := hs.1.get (k := .i64) (i := i) hi
      rw [intsZ_get' hi] at a2
      simp only [go_sem, a1, a2, h1, h2]
      refine gT.of (fun q => ?_) (fun q => ?_)
      · have : L[i] ≠ 1 := by simpa using q
        have e : chg L i 1 2 = (L, 15) := by unfold chg; rw [dif_pos hc]; simp only [et]; rw [if_neg this]
        simp only [go_sem]
        rw [e]; exact ⟨v, rfl, hs, Ext.refl _⟩
      · have q' : L[i] = 1 := by simpa using q
        simp only [go_sem, q]
        refine gC.of (RCount_spec hs.1 hl) ?_
        rintro _ m_ ⟨rfl, hm_⟩
        replace hm_ := hm_.symm
        subst hm_
        simp only [go_sem]
        rw [onl_eq]
        refine gT.of (fun t => ?_) (fun t => ?_)
        · have t' : onl L = 1 := by simp only [beq_iff_eq] at t; omega
          have e : chg L i 1 2 = (L, 17) := by unfold chg; rw [dif_pos hc]; simp only [et]; rw [if_pos q', if_pos ⟨by first | rfl | trivial, t'⟩]
          simp only [go_sem]
          rw [e]; exact ⟨v, rfl, hs, Ext.refl _⟩
        · have t' : onl L ≠ 1 := by simp only [beq_eq_false_iff_ne] at t; omega
          have e : chg L i 1 2 = (L.set i 2, 0) := by unfold chg; rw [dif_pos hc]; simp only [et]; rw [if_pos q', if_neg (fun h => t' h.2)]
          simp only [go_sem, t]
          refine gC.of (with_spec hs hl hi hf) ?_
          rintro r m' ⟨b1, b2⟩
          simp only [go_sem]
          rw [e]; exact ⟨r, rfl, b1, b2⟩

theorem RTurn_spec {fp : List Nat} {v : Value} {L : List Int} (hs : RL fp m L v) (hl : L.length ≤ 1000) : WC R F.ref27_Turn [v] m fun r m' => Own m m' 1 L.length (intsZ (L.map turnC)) r ∧ Ext m m' := by
  refine WC.of R.ref27_Turn rfl ?_
  simp only [RC.ref27_Turn, RB.ref27_Turn_1, go_sem]
  refine WL.of (fun r e m' => ∃ (i : Nat) (w : Value), i ≤ L.length ∧ r = L.length - i ∧ e = [(0, v), (3, w), (4, .int .i64 i)] ∧ Own m m' 1 i (intsZ ((L.take i).map turnC)) w ∧ Ext m m') L.length
    ⟨0, _, by omega, by omega, by simp only [go_sem] <;> rfl, .at (all := []) (Nat.le_refl _) (by simp [Mem.new]) (Nat.le_refl _) (by simp [Mem.new]) (by simp) rfl rfl, Ext.new⟩ ?_
  rintro _ _ m1 ⟨i, w, hi, rfl, rfl, ho, hx⟩
  have hs1 := hs.keep hx
  simp only [go_sem, hs1.1.len]
  refine gT.of (fun h1 => ?_) (fun h1 => ?_)
  · simp only [decide_eq_true_eq] at h1
    have hil : i < L.length := by omega
    have e1 : IntKind.wrap .i64 ((i : Int) + 1) = ((i + 1 : Nat) : Int) := by rw [wrap_i64 (by omega) (by omega)]; rfl
    obtain ⟨p, a1, a2⟩ := hs1.1.get (k := .i64) (i := i) hil
    rw [intsZ_get' hil] at a2
    have fin : ∀ x : Int, x = turnC L[i] → ∃ v' m', aApp none 1 8 (m1.new (.cells [.int .i64 x] (some 1))) w (.slice (some ⟨m1.next, 0, none⟩) 1 1) = some (v', m') ∧ Own m m' 1 (i + 1) (intsZ ((L.take (i + 1)).map turnC)) v' ∧ Ext m m' := by
      intro x hx'
      obtain ⟨v', m', p1, p2, p3⟩ := ho.app (es := [.int .i64 x]) (by_ := 8) hx (by omega) rfl rfl (by omega) (by omega)
      refine ⟨v', m', p1, ?_, p3⟩
      have : intsZ ((L.take (i + 1)).map turnC) = intsZ ((L.take i).map turnC) ++ [.int .i64 x] := by
        unfold intsZ; rw [List.take_succ_eq_append_getElem hil, List.map_append, List.map_append, hx']; rfl
      rw [this]; exact p2
    simp only [go_sem, a1, a2]
    generalize L[i] = x at *
    refine gT.of (fun q2 => ?_) (fun q2 => ?_)
    · have q2' : x = 2 := by simpa using q2
      obtain ⟨v', m', p1, p2, p3⟩ := fin 3 (by rw [q2']; rfl)
      simp only [go_sem, q2, p1, e1]
      exact ⟨L.length - (i + 1), by omega, i + 1, v', by omega, rfl, rfl, p2, p3⟩
    · have q2' : x ≠ 2 := by simpa using q2
      simp only [go_sem, q2]
      refine gT.of (fun q3 => ?_) (fun q3 => ?_)
      · have q3' : x = 3 := by simpa using q3
        obtain ⟨v', m', p1, p2, p3⟩ := fin 0 (by rw [q3']; rfl)
        simp only [go_sem, q3, p1, e1]
        exact ⟨L.length - (i + 1), by omega, i + 1, v', by omega, rfl, rfl, p2, p3⟩
      · have q3' : x ≠ 3 := by simpa using q3
        simp only [go_sem, q3]
        refine gT.of (fun q4 => ?_) (fun q4 => ?_)
        · have q4' : x = 4 := by simpa using q4
          obtain ⟨v', m', p1, p2, p3⟩ := fin 1 (by rw [q4']; rfl)
          simp only [go_sem, q4, p1, e1]
          exact ⟨L.length - (i + 1), by omega, i + 1, v', by omega, rfl, rfl, p2, p3⟩
        · have q4' : x ≠ 4 := by simpa using q4
          obtain ⟨v', m', p1, p2, p3⟩ := fin x (by unfold turnC; rw [if_neg q4', if_neg q2', if_neg q3'])
          simp only [go_sem, q4, p1, e1]
          exact ⟨L.length - (i + 1), by omega, i + 1, v', by omega, rfl, rfl, p2, p3⟩
  · simp only [go_sem]
    simp only [decide_eq_false_iff_not] at h1
    have : i = L.length := by omega
    subst this
    rw [List.take_length] at ho
    exact ⟨ho, hx⟩
end Go.Am.Co


/- Ledgers: the document's, side by side: Free, tick, New. -/
set_option linter.unusedVariables false
set_option linter.unusedSimpArgs false
namespace Go.Am
open Classical
variable {m : Mem}

abbrev lrA (k : Cf) (f : Int) (tv gv cv : Value) (clk : Int) : Value := .agg #[.int .i64 k.fr, .int .i64 k.co, .int .i64 k.bu, .int .i64 k.re, .int .i64 f, tv, gv, cv, .int .i64 clk]
structure LrV (m : Mem) (w : Rr) (L : List Int) (tv gv cv : Value) : Prop where
  r : RrV m w tv gv
  c : Sl m 1 L.length (intsZ L) cv
  cl : SlLt m cv
theorem LrV.keep {m m' : Mem} {w : Rr} {L : List Int} {tv gv cv : Value} (h : LrV m w L tv gv cv) (hx : Ext m m') : LrV m' w L tv gv cv := ⟨h.r.keep hx, h.c.keep h.cl hx, h.cl.keep hx⟩
theorem LrV.upd {m m' : Mem} {w : Rr} {L : List Int} {tv gv cv : Value} {fq : List Nat} (h : LrV m w L tv gv cv) (hx : Upd m m' fq) (h1 : ∀ x ∈ vb tv, x ∉ fq) (h2 : ∀ x ∈ vb gv, x ∉ fq) (h3 : ∀ x ∈ vb cv, x ∉ fq) : LrV m' w L tv gv cv :=
  ⟨h.r.upd hx h1 h2, h.c.upd h.cl (SlOff.vb_iff.2 h3) hx, h.cl.upd hx⟩
theorem LrV.rl {m : Mem} {w : Rr} {L : List Int} {tv gv cv : Value} {fp : List Nat} (h : LrV m w L tv gv cv) (h3 : ∀ x ∈ vb cv, x ∉ fp) : Co.RL fp m L cv := ⟨h.c, h.cl, SlOff.vb_iff.2 h3⟩

set_option maxHeartbeats 2000000 in
theorem refFree29 {w : Rr} {L : List Int} {tv gv cv : Value} {s : Rs} {k : Cf} {clk : Int} (h : LrV m w L tv gv cv) (r : RRel s w) (hw : RsWf s) (hk : cfOk k) (hl : L.length ≤ 16) :
    WC R F.ref29_Free [lrA k w.f tv gv cv clk] m fun v m' => v = .int .i64 (k.fr * onlI L - shSumR (unitsR s)) ∧ Ext m m' := by
  refine WC.of R.ref29_Free rfl ?_
  have ct := h.r.t.cells
  have cg := h.r.g.cells
  have cc := h.c.cells
  simp only [RC.ref29_Free, go_sem, h.r.t.one, h.r.g.one, h.c.one]
  have hx1 : Ext m (m.new (.cells [.int .i64 k.fr, .int .i64 k.co, .int .i64 k.bu, .int .i64 k.re, .int .i64 w.f, tv, gv, cv, .int .i64 clk] (some 9))) := Ext.new
  have hb1 : Bk (m.new (.cells [.int .i64 k.fr, .int .i64 k.co, .int .i64 k.bu, .int .i64 k.re, .int .i64 w.f, tv, gv, cv, .int .i64 clk] (some 9))) m.next [.int .i64 k.fr, .int .i64 k.co, .int .i64 k.bu, .int .i64 k.re, .int .i64 w.f, tv, gv, cv, .int .i64 clk] 9 := Bk.new
  generalize m.new (.cells [.int .i64 k.fr, .int .i64 k.co, .int .i64 k.bu, .int .i64 k.re, .int .i64 w.f, tv, gv, cv, .int .i64 clk] (some 9)) = m1 at hx1 hb1 ⊢
  have h1 := h.keep hx1
  try simp only [go_sem, ruB, hb1.at_]
  refine gC.of (Co.RCount_spec h1.c (by omega)) ?_
  rintro _ _ ⟨rfl, hm⟩
  replace hm := hm.symm
  subst hm
  rw [Co.onl_eq]
  have ho := onl_le (L := L)
  have hb := mul_bd (f := k.fr) (n := onlI L) ⟨hk.1, hk.2.1⟩ (by unfold onlI; omega)
  have hs := shSum_bd hw
  have w1 : IntKind.wrap .i64 (k.fr * ((Co.onl L : Nat) : Int)) = k.fr * onlI L := wrap_i64 (by unfold onlI at hb; omega) (by unfold onlI at hb; omega)
  have w2 : IntKind.wrap .i64 (k.fr * onlI L - shSumR (unitsR s)) = k.fr * onlI L - shSumR (unitsR s) := wrap_i64 (by omega) (by omega)
  try simp only [go_sem, ruB, hb1.at_, watch_one, watch_nil, blk_ptr, w1]
  refine gC.of (refTotal28 h1.r r hw) ?_
  rintro _ m2 ⟨hx2, rfl⟩
  have ha : m2.blk m.next = m1.blk m.next := hx2.same _ hb1.lt
  try simp only [go_sem, ruB, watch_one, watch_nil, blk_ptr, w2, ha]
  exact hx1.trans hx2
set_option maxHeartbeats 2000000 in
theorem refTick29 {w : Rr} {L : List Int} {tv gv cv : Value} {k : Cf} {clk : Int} (h : LrV m w L tv gv cv) (hk : cfOk k) (hl : L.length ≤ 16) (hc : 0 ≤ clk ∧ clk ≤ 1000000000) :
    WC R F.ref29_tick [lrA k w.f tv gv cv clk] m fun v m' => ∃ cv', v = lrA k w.f tv gv cv' (clk + 1) ∧ LrV m' w (if clk.tmod k.fr = 0 then L.map Co.turnC else L) tv gv cv' ∧ (cv' = cv ∨ ∀ b ∈ vb cv', m.next ≤ b) ∧ Ext m m' := by
  refine WC.of R.ref29_tick rfl ?_
  have ct := h.r.t.cells
  have cg := h.r.g.cells
  have cc := h.c.cells
  simp only [RC.ref29_tick, go_sem, h.r.t.one, h.r.g.one, h.c.one]
  have hx1 : Ext m (m.new (.cells [.int .i64 k.fr, .int .i64 k.co, .int .i64 k.bu, .int .i64 k.re, .int .i64 w.f, tv, gv, cv, .int .i64 clk] (some 9))) := Ext.new
  have hb1 : Bk (m.new (.cells [.int .i64 k.fr, .int .i64 k.co, .int .i64 k.bu, .int .i64 k.re, .int .i64 w.f, tv, gv, cv, .int .i64 clk] (some 9))) m.next [.int .i64 k.fr, .int .i64 k.co, .int .i64 k.bu, .int .i64 k.re, .int .i64 w.f, tv, gv, cv, .int .i64 clk] 9 := Bk.new
  have hn1 : (m.new (.cells [.int .i64 k.fr, .int .i64 k.co, .int .i64 k.bu, .int .i64 k.re, .int .i64 w.f, tv, gv, cv, .int .i64 clk] (some 9))).next = m.next + 1 := rfl
  generalize m.new (.cells [.int .i64 k.fr, .int .i64 k.co, .int .i64 k.bu, .int .i64 k.re, .int .i64 w.f, tv, gv, cv, .int .i64 clk] (some 9)) = m1 at hx1 hb1 hn1 ⊢
  have hx2 : Ext m1 (m1.new (.cells [.int .i64 0, .int .i64 0, .int .i64 0, .int .i64 0, .int .i64 0, .slice none 0 0, .slice none 0 0, .slice none 0 0, .int .i64 0] (some 9))) := Ext.new
  have hb2 : Bk (m1.new (.cells [.int .i64 0, .int .i64 0, .int .i64 0, .int .i64 0, .int .i64 0, .slice none 0 0, .slice none 0 0, .slice none 0 0, .int .i64 0] (some 9))) m1.next [.int .i64 0, .int .i64 0, .int .i64 0, .int .i64 0, .int .i64 0, .slice none 0 0, .slice none 0 0, .slice none 0 0, .int .i64 0] 9 := Bk.new
  have hn2 : (m1.new (.cells [.int .i64 0, .int .i64 0, .int .i64 0, .int .i64 0, .int .i64 0, .slice none 0 0, .slice none 0 0, .slice none 0 0, .int .i64 0] (some 9))).next = m1.next + 1 := rfl
  generalize m1.new (.cells [.int .i64 0, .int .i64 0, .int .i64 0, .int .i64 0, .int .i64 0, .slice none 0 0, .slice none 0 0, .slice none 0 0, .int .i64 0] (some 9)) = m2 at hx2 hb2 hn2 ⊢
  have hb12 := hb1.keep hx2
  have hx02 := hx1.trans hx2
  have h2 := h.keep hx02
  have ne1 : (m1.next = m.next) = False := eq_false (by omega)
  have ne2 : (m.next = m1.next) = False := eq_false (by omega)
  have w1 : IntKind.wrap .i64 (clk + 1) = clk + 1 := wrap_i64 (by omega) (by omega)
  have f0 : (k.fr == 0) = false := by rw [beq_eq_false_iff_ne]; have := hk.1; omega
  have f1 : k.fr ≠ 0 := by have := hk.1; omega
  have tm : IntKind.wrap .i64 (clk.tmod k.fr) = clk.tmod k.fr := by
    have := Int.tmod_nonneg k.fr hc.1
    have := Int.tmod_lt_of_pos clk (show 0 < k.fr by have := hk.1; omega)
    have := hk.2.1
    exact wrap_i64 (by omega) (by omega)
  by_cases g : clk.tmod k.fr = 0
  · have e1 : (clk.tmod k.fr == 0) = true := by rw [beq_iff_eq]; exact g
    rw [if_pos g]
    try simp only [go_sem, ruB, hb12.at_, f0, f1, tm, e1]
    refine gC.of (Co.RTurn_spec (fp := []) (h2.rl (fun _ _ => by simp)) (by omega)) ?_
    rintro cv' m3 ⟨ho, hx3⟩
    have hb13 := hb12.keep hx3
    have hb23 := hb2.keep hx3
    have go := ho.ge
    have n3 := hx3.next
    have oc := ho.sl.cells
    try simp only [go_sem, ruB, hb13.at_, hb23.at_, ↓oc, ho.sl.one, w1, ne1, ne2, h.r.t.one, h.r.g.one, ↓ct, ↓cg]
    have hU : Upd m3 (((m3.set m.next (some (.cells [.int .i64 k.fr, .int .i64 k.co, .int .i64 k.bu, .int .i64 k.re, .int .i64 w.f, tv, gv, cv', .int .i64 clk] (some 9)))).set m.next (some (.cells [.int .i64 k.fr, .int .i64 k.co, .int .i64 k.bu, .int .i64 k.re, .int .i64 w.f, tv, gv, cv', .int .i64 (clk + 1)] (some 9)))).set m1.next (some (.cells [.int .i64 k.fr, .int .i64 k.co, .int .i64 k.bu, .int .i64 k.re, .int .i64 w.f, tv, gv, cv', .int .i64 (clk + 1)] (some 9)))) [m.next, m1.next] := ((Upd.set (by simp)).sameF (Upd.set (by simp))).sameF (Upd.set (by simp))
    have h3 : LrV m3 w (L.map Co.turnC) tv gv cv' := ⟨h2.r.keep hx3, by rw [List.length_map]; exact ho.sl, ho.lt⟩
    refine ⟨cv', rfl, h3.upd hU (fun x hx => ?_) (fun x hx => ?_) (fun x hx => ?_), .inr fun b hb => ?_, (((hx02.trans hx3).set (Nat.le_refl _)).set (Nat.le_refl _)).set (by omega)⟩
    · have := SlLt.vb_iff.1 h.r.tl x hx; simp; omega
    · have := SlLt.vb_iff.1 h.r.gl x hx; simp; omega
    · have := go x hx; simp; omega
    · have := go b hb; omega
  · have e1 : (clk.tmod k.fr == 0) = false := by rw [beq_eq_false_iff_ne]; exact g
    rw [if_neg g]
    try simp only [go_sem, ruB, hb12.at_, hb2.at_, f0, f1, tm, e1, w1, ne1, ne2, h.r.t.one, h.r.g.one, h.c.one, ↓ct, ↓cg, ↓cc]
    have hU : Upd m2 ((m2.set m.next (some (.cells [.int .i64 k.fr, .int .i64 k.co, .int .i64 k.bu, .int .i64 k.re, .int .i64 w.f, tv, gv, cv, .int .i64 (clk + 1)] (some 9)))).set m1.next (some (.cells [.int .i64 k.fr, .int .i64 k.co, .int .i64 k.bu, .int .i64 k.re, .int .i64 w.f, tv, gv, cv, .int .i64 (clk + 1)] (some 9)))) [m.next, m1.next] := (Upd.set (by simp)).sameF (Upd.set (by simp))
    refine ⟨cv, rfl, h2.upd hU (fun x hx => ?_) (fun x hx => ?_) (fun x hx => ?_), .inl rfl, ((hx02).set (Nat.le_refl _)).set (by omega)⟩
    · have := SlLt.vb_iff.1 h.r.tl x hx; simp; omega
    · have := SlLt.vb_iff.1 h.r.gl x hx; simp; omega
    · have := SlLt.vb_iff.1 h.cl x hx; simp; omega

def NewW (m : Mem) (v v' : Value) : Prop := ∀ b ∈ vb v', b ∈ vb v ∨ m.next ≤ b
theorem New.w {m : Mem} {v v' : Value} (h : New m v v') : NewW m v v' := fun b hb => by
  rcases h with rfl | h
  · exact .inl hb
  · exact .inr (h b hb)
theorem NewW.refl {m : Mem} {v : Value} : NewW m v v := fun b hb => .inl hb
theorem NewW.weak {m m1 : Mem} {v v' : Value} (h : NewW m1 v v') (hm : m.next ≤ m1.next) : NewW m v v' := fun b hb => (h b hb).imp_right fun h => by omega
theorem NewW.free {m : Mem} {v v' : Value} (h : NewW m v v') {fp : List Nat} (hv : ∀ x ∈ vb v, x ∉ fp) (hl : ∀ x ∈ fp, x < m.next) : ∀ x ∈ vb v', x ∉ fp := by
  intro x hx hm
  rcases h x hx with k | k
  · exact hv x k hm
  · have := hl x hm; omega
noncomputable def oldF (m : Mem) (v : Value) : List Nat := (List.range m.next).filter fun x => decide (x ∉ vb v)
theorem oldF_lt {m : Mem} {v : Value} : ∀ x ∈ oldF m v, x < m.next := fun x hx => by unfold oldF at hx; rw [List.mem_filter, List.mem_range] at hx; exact hx.1
theorem oldF_off {m : Mem} {v : Value} : ∀ x ∈ vb v, x ∉ oldF m v := fun x hx hm => by unfold oldF at hm; rw [List.mem_filter] at hm; simp [hx] at hm
theorem oldF_new {m : Mem} {v v' : Value} (h : SlOff (oldF m v) v') : NewW m v v' := fun b hb => by
  have := SlOff.vb_iff.1 h b hb
  unfold oldF at this
  rw [List.mem_filter, List.mem_range] at this
  by_cases e : b ∈ vb v
  · exact .inl e
  · right
    by_cases g : b < m.next
    · exact absurd ⟨g, by simp [e]⟩ this
    · omega

theorem kfill_lr {a b c d e : Int} {A : Option Addr} {N C : Nat} : fillL [.int .i64 0, .int .i64 0, .int .i64 0, .int .i64 0, .int .i64 0, .slice none 0 0, .slice none 0 0, .slice none 0 0, .int .i64 0] [(0, 4, .agg #[.int .i64 a, .int .i64 b, .int .i64 c, .int .i64 d]), (4, 3, .agg #[.int .i64 e, .slice none 0 0, .slice none 0 0]), (7, 1, .slice A N C)] = some [.int .i64 a, .int .i64 b, .int .i64 c, .int .i64 d, .int .i64 e, .slice none 0 0, .slice none 0 0, .slice A N C, .int .i64 0] := rfl
set_option maxHeartbeats 2000000 in
theorem refNew29 {k : Cf} {n : Nat} (hn : k.co = ((n : Nat) : Int)) (h16 : n ≤ 16) :
    WC R F.ref29_New [.agg (cfV k).toArray] m fun v m' => ∃ cv, v = lrA k k.fr (.slice none 0 0) (.slice none 0 0) cv 0 ∧ LrV m' ⟨k.fr, [], []⟩ (List.replicate n 1) (.slice none 0 0) (.slice none 0 0) cv ∧ (∀ b ∈ vb cv, m.next ≤ b) ∧ Ext m m' := by
  refine WC.of R.ref29_New rfl ?_
  simp only [RC.ref29_New, cfV, go_sem]
  have hx1 : Ext m (m.new (.cells [.int .i64 k.fr, .int .i64 k.co, .int .i64 k.bu, .int .i64 k.re] (some 4))) := Ext.new
  have hb1 : Bk (m.new (.cells [.int .i64 k.fr, .int .i64 k.co, .int .i64 k.bu, .int .i64 k.re] (some 4))) m.next [.int .i64 k.fr, .int .i64 k.co, .int .i64 k.bu, .int .i64 k.re] 4 := Bk.new
  have hn1 : (m.new (.cells [.int .i64 k.fr, .int .i64 k.co, .int .i64 k.bu, .int .i64 k.re] (some 4))).next = m.next + 1 := rfl
  generalize m.new (.cells [.int .i64 k.fr, .int .i64 k.co, .int .i64 k.bu, .int .i64 k.re] (some 4)) = m1 at hx1 hb1 hn1 ⊢
  have hx2 : Ext m1 (m1.new (.cells [.int .i64 0, .int .i64 0, .int .i64 0, .int .i64 0, .int .i64 0, .slice none 0 0, .slice none 0 0, .slice none 0 0, .int .i64 0] (some 9))) := Ext.new
  have hb2 : Bk (m1.new (.cells [.int .i64 0, .int .i64 0, .int .i64 0, .int .i64 0, .int .i64 0, .slice none 0 0, .slice none 0 0, .slice none 0 0, .int .i64 0] (some 9))) m1.next [.int .i64 0, .int .i64 0, .int .i64 0, .int .i64 0, .int .i64 0, .slice none 0 0, .slice none 0 0, .slice none 0 0, .int .i64 0] 9 := Bk.new
  have hn2 : (m1.new (.cells [.int .i64 0, .int .i64 0, .int .i64 0, .int .i64 0, .int .i64 0, .slice none 0 0, .slice none 0 0, .slice none 0 0, .int .i64 0] (some 9))).next = m1.next + 1 := rfl
  generalize m1.new (.cells [.int .i64 0, .int .i64 0, .int .i64 0, .int .i64 0, .int .i64 0, .slice none 0 0, .slice none 0 0, .slice none 0 0, .int .i64 0] (some 9)) = m2 at hx2 hb2 hn2 ⊢
  have hb12 := hb1.keep hx2
  have hx02 := hx1.trans hx2
  have ne1 : (m1.next = m.next) = False := eq_false (by omega)
  have ne2 : (m.next = m1.next) = False := eq_false (by omega)
  try simp only [go_sem, ruB, hb12.at_, ↓kfill_r]
  rw [hn]
  refine gC.of (Co.RNew_spec (n := n) h16) ?_
  rintro cv m3 ⟨ho, hx3⟩
  have hb13 := hb12.keep hx3
  have hb23 := hb2.keep hx3
  have go := ho.ge
  have n3 := hx3.next
  have ol := ho.lt
  have os := ho.sl
  obtain ⟨A, N, C, rfl⟩ : ∃ a n c, cv = .slice a n c := by cases os <;> exact ⟨_, _, _, rfl⟩
  have oc := ho.sl.cells
  try simp only [go_sem, ruB, hb13.at_, hb23.at_, hb12.at_, ↓oc, ho.sl.one, ne1, ne2, watch_one, watch_nil, blk_ptr, ↓kfill_lr]
  have hU : Upd m3 (m3.set m1.next (some (.cells [.int .i64 k.fr, .int .i64 ((n : Nat) : Int), .int .i64 k.bu, .int .i64 k.re, .int .i64 k.fr, .slice none 0 0, .slice none 0 0, .slice A N C, .int .i64 0] (some 9)))) [m1.next] := Upd.set (by simp)
  have h3 : LrV m3 ⟨k.fr, [], []⟩ (List.replicate n 1) (.slice none 0 0) (.slice none 0 0) (.slice A N C) := ⟨.new, by rw [List.length_replicate]; exact os, ol⟩
  refine ⟨_, by rw [← hn], h3.upd hU (fun x hx => by simp [vb] at hx) (fun x hx => by simp [vb] at hx) (fun x hx => ?_), fun b hb => ?_, (hx02.trans hx3).set (by omega)⟩
  · have := go x hx; simp; omega
  · have := go b hb; omega
end Go.Am


/- Ledgers: the document's commands. -/
set_option linter.unusedVariables false
set_option linter.unusedSimpArgs false
namespace Go.Am
open Classical
variable {m : Mem}

def LDo (m : Mem) (k : Cf) (tv gv cv : Value) (X : Ld × Int) (r : Value) (m' : Mem) : Prop := ∃ tv' gv' cv' w', r = .tuple #[lrA k w'.f tv' gv' cv' X.1.clk, .int .i64 X.2] ∧ LrV m' w' X.1.L tv' gv' cv' ∧ RRel X.1.s w' ∧ NewW m tv tv' ∧ NewW m gv gv' ∧ NewW m cv cv' ∧ Ext m m'
theorem LDo.same {m M : Mem} {k : Cf} {w : Rr} {tv gv cv : Value} {l : Ld} {E : Int} {q : Nat} {o : Option AObj} (h : LrV M w l.L tv gv cv) (hm : LrV m w l.L tv gv cv) (r : RRel l.s w) (hx : Ext m M) (hq : m.next ≤ q) : LDo m k tv gv cv (l, E) (.tuple #[lrA k w.f tv gv cv l.clk, .int .i64 E]) (M.set q o) := by
  have hU : Upd M (M.set q o) [q] := Upd.set (by simp)
  refine ⟨tv, gv, cv, w, rfl, h.upd hU (fun x hx => ?_) (fun x hx => ?_) (fun x hx => ?_), r, .refl, .refl, .refl, hx.set hq⟩
  · have := SlLt.vb_iff.1 hm.r.tl x hx; simp; omega
  · have := SlLt.vb_iff.1 hm.r.gl x hx; simp; omega
  · have := SlLt.vb_iff.1 hm.cl x hx; simp; omega
theorem LDo.fin {m M : Mem} {k : Cf} {w' : Rr} {tv gv cv tv' gv' cv' : Value} {l' : Ld} {E : Int} {q : Nat} {o : Option AObj} (h : LrV M w' l'.L tv' gv' cv') (r : RRel l'.s w') (hx : Ext m M) (hq : m.next ≤ q) (n1 : NewW m tv tv') (n2 : NewW m gv gv') (n3 : NewW m cv cv')
    (o1 : q ∉ vb tv') (o2 : q ∉ vb gv') (o3 : q ∉ vb cv') : LDo m k tv gv cv (l', E) (.tuple #[lrA k w'.f tv' gv' cv' l'.clk, .int .i64 E]) (M.set q o) := by
  have hU : Upd M (M.set q o) [q] := Upd.set (by simp)
  refine ⟨tv', gv', cv', w', rfl, h.upd hU (fun x hx hm => ?_) (fun x hx hm => ?_) (fun x hx hm => ?_), r, n1, n2, n3, hx.set hq⟩
  · rw [List.mem_singleton] at hm; exact o1 (hm ▸ hx)
  · rw [List.mem_singleton] at hm; exact o2 (hm ▸ hx)
  · rw [List.mem_singleton] at hm; exact o3 (hm ▸ hx)

theorem NewW.at_ {m : Mem} {v v' : Value} {q : Nat} (h : NewW m v v') (hv : ∀ x ∈ vb v, x < q) (hq : q < m.next) : q ∉ vb v' := fun hx => by
  rcases h q hx with j | j
  · have := hv q j; omega
  · omega
theorem NewW.off_ {m : Mem} {v v' : Value} {q : Nat} (h : NewW m v v') (hv : ∀ x ∈ vb v, x < q) (hq : q < m.next) : ∀ x ∈ vb v', x ∉ [q] := fun x hx hm => by
  rw [List.mem_singleton] at hm
  exact h.at_ hv hq (hm ▸ hx)
theorem ticksS_s {l : Ld} : ∀ {n : Nat}, (ticksS n l).s = l.s
  | 0 => rfl
  | n + 1 => by show (ticksS n l).s = l.s; exact ticksS_s
theorem tickS_L {l : Ld} : (tickS l).L = if l.clk.tmod l.c.fr = 0 then l.L.map Co.turnC else l.L := rfl
set_option maxHeartbeats 4000000 in
theorem refTicks_loop {m0 m : Mem} {l : Ld} {w : Rr} {tv gv cv : Value} {k : Cf} {op id grp sh wt cap co n : Int} {b3 b4 b6 : Nat} (hk : l.c = k) (h : LrV m0 w l.L tv gv cv) (r : RRel l.s w) (hw : LdWf l) (hc : 0 ≤ l.clk ∧ l.clk ≤ 100000000)
    (hb4 : Bk m b4 [.int .i64 0, .int .i64 0, .int .i64 0, .int .i64 0, .int .i64 0, .slice none 0 0, .slice none 0 0, .slice none 0 0, .int .i64 0] 9)
    (hb3 : Bk m b3 [.int .i64 op, .int .i64 id, .int .i64 grp, .int .i64 sh, .int .i64 wt, .int .i64 cap, .int .i64 co, .int .i64 n] 8)
    (hb6 : Bk m b6 [.int .i64 k.fr, .int .i64 k.co, .int .i64 k.bu, .int .i64 k.re, .int .i64 w.f, tv, gv, cv, .int .i64 l.clk] 9) (hx : Ext m0 m) (h4 : m0.next ≤ b4) (h6 : m0.next ≤ b6 ∧ b6 ≠ b3 ∧ b6 ≠ b4) (hn1 : 1 ≤ n) (hn2 : n ≤ 1024) :
    WL R [3, 4, 6, 8] RB.ref29_Do_1 [(3, pt b3), (4, pt b4), (6, pt b6), (8, .int .i64 0)] m fun y e m' => y = .exit 1 ∧ (∃ rs, e = (3, pt b3) :: (4, pt b4) :: (6, pt b6) :: rs) ∧ ∃ cv', LrV m' w (ticksS n.toNat l).L tv gv cv' ∧ NewW m cv cv' ∧ Bk m' b6 [.int .i64 k.fr, .int .i64 k.co, .int .i64 k.bu, .int .i64 k.re, .int .i64 w.f, tv, gv, cv', .int .i64 (ticksS n.toNat l).clk] 9 ∧ Bk m' b4 [.int .i64 0, .int .i64 0, .int .i64 0, .int .i64 0, .int .i64 0, .slice none 0 0, .slice none 0 0, .slice none 0 0, .int .i64 0] 9 ∧ Ext m0 m' := by
  refine WL.of (fun z e m' => ∃ (i : Nat) (cv' : Value), (i : Int) ≤ n ∧ z = n.toNat - i ∧ e = [(3, pt b3), (4, pt b4), (6, pt b6), (8, .int .i64 ((i : Nat) : Int))] ∧ LrV m' w (ticksS i l).L tv gv cv' ∧ NewW m cv cv' ∧ b6 ∉ vb cv' ∧ Bk m' b6 [.int .i64 k.fr, .int .i64 k.co, .int .i64 k.bu, .int .i64 k.re, .int .i64 w.f, tv, gv, cv', .int .i64 (ticksS i l).clk] 9 ∧ Bk m' b4 [.int .i64 0, .int .i64 0, .int .i64 0, .int .i64 0, .int .i64 0, .slice none 0 0, .slice none 0 0, .slice none 0 0, .int .i64 0] 9 ∧ Bk m' b3 [.int .i64 op, .int .i64 id, .int .i64 grp, .int .i64 sh, .int .i64 wt, .int .i64 cap, .int .i64 co, .int .i64 n] 8 ∧ Ext m0 m' ∧ m.next ≤ m'.next) n.toNat
    ⟨0, cv, by omega, by omega, by simp only [go_sem] <;> rfl, h.keep hx, .refl, fun hm => by have := SlLt.vb_iff.1 h.cl _ hm; omega, hb6, hb4, hb3, hx, Nat.le_refl _⟩ ?_
  rintro _ _ m1 ⟨i, cv', hi, rfl, rfl, hL, hN, ho, b61, b41, b31, hx1, hn⟩
  simp only [RB.ref29_Do_1, pt, go_sem]
  have s1 := st1 (show i < 1000000 by omega)
  have hwi := ticksS_wf hw (n := i)
  have hci : (ticksS i l).c = k := by rw [ticksS_c, hk]
  have hcl := ticksS_clk (l := l) (n := i)
  have ct := hL.r.t.cells
  have cg := hL.r.g.cells
  have cc := hL.c.cells
  by_cases g : (i : Int) < n
  rotate_left
  · have e1 : decide (((i : Nat) : Int) < n) = false := decide_eq_false (by omega)
    have hin : n.toNat = i := by omega
    rw [hin]
    try simp only [go_sem, ruB, b31.at_, e1]
    exact ⟨⟨_, rfl⟩, cv', hL, hN, b61, b41, hx1⟩
  have e1 : decide (((i : Nat) : Int) < n) = true := decide_eq_true (by omega)
  have hcf := hwi.c
  rw [hci] at hcf
  have b61l := b61.lt
  try simp only [go_sem, ruB, b31.at_, e1, b61.at_, hL.r.t.one, hL.r.g.one, hL.c.one]
  refine gC.of (refTick29 (k := k) (clk := (ticksS i l).clk) hL hcf hwi.l16 (by omega)) ?_
  rintro _ m2 ⟨cv2, rfl, hL2, hN2, hx2⟩
  have hn2' := hx2.next
  have hN1 : NewW m1 cv' cv2 := by rcases hN2 with rfl | k2
                                   · exact .refl
                                   · exact fun b hb => .inr (k2 b hb)
  have ct2 := hL2.r.t.cells
  have cg2 := hL2.r.g.cells
  have cc2 := hL2.c.cells
  have b62 := b61.keep hx2
  have n1 : m0.next ≤ m1.next := hx1.next
  have o6 : b6 ∉ vb cv2 := fun hm => by
    rcases hN1 _ hm with j | j
    · exact ho j
    · omega
  have o6t : b6 ∉ vb tv := fun hm => by have := SlLt.vb_iff.1 h.r.tl _ hm; omega
  have o6g : b6 ∉ vb gv := fun hm => by have := SlLt.vb_iff.1 h.r.gl _ hm; omega
  try simp only [go_sem, ruB, b62.at_, hL2.r.t.one, hL2.r.g.one, hL2.c.one, ↓ct2, ↓cg2, ↓cc2, s1]
  have hU : Upd m2 (m2.set b6 (some (.cells [.int .i64 k.fr, .int .i64 k.co, .int .i64 k.bu, .int .i64 k.re, .int .i64 w.f, tv, gv, cv2, .int .i64 ((ticksS i l).clk + 1)] (some 9)))) [b6] := Upd.set (by simp)
  refine ⟨n.toNat - (i + 1), by omega, i + 1, cv2, by omega, rfl, rfl, ?_, ?_, o6, ⟨by simp [Mem.set]; rfl, by show b6 < m2.next; omega⟩, (b41.keep hx2).upd hU (by simp; omega), (b31.keep hx2).upd hU (by simp; omega), (hx1.trans hx2).set (by omega), by show m.next ≤ m2.next; omega⟩
  · have := hL2.upd hU (fun x hx hm => by rw [List.mem_singleton] at hm; exact o6t (hm ▸ hx)) (fun x hx hm => by rw [List.mem_singleton] at hm; exact o6g (hm ▸ hx)) (fun x hx hm => by rw [List.mem_singleton] at hm; exact o6 (hm ▸ hx))
    show LrV _ w (tickS (ticksS i l)).L tv gv cv2
    rw [tickS_L, hci]; exact this
  · intro b hb
    rcases hN1 b hb with j | j
    · exact hN b j
    · exact .inr (by omega)

set_option maxHeartbeats 8000000 in
theorem refDo29 {l : Ld} {w : Rr} {tv gv cv : Value} {c : Cm} {k : Cf} (hk : l.c = k) (h : LrV m w l.L tv gv cv) (r : RRel l.s w) (hw : LdWf l) (hc : 0 ≤ l.clk ∧ l.clk ≤ 100000000) :
    WC R F.ref29_Do [lrA k w.f tv gv cv l.clk, .agg (cmV c).toArray] m (LDo m k tv gv cv (doL l c)) := by
  obtain ⟨op, id, grp, sh, wt, cap, co, n⟩ := c
  have hcf := hw.c
  rw [hk] at hcf
  have hl := hw.l16
  refine WC.of R.ref29_Do rfl ?_
  have ct := h.r.t.cells
  have cg := h.r.g.cells
  have cc := h.c.cells
  simp only [RC.ref29_Do, cmV, go_sem, h.r.t.one, h.r.g.one, h.c.one]
  have hx1 : Ext m (m.new (.cells [.int .i64 k.fr, .int .i64 k.co, .int .i64 k.bu, .int .i64 k.re, .int .i64 w.f, tv, gv, cv, .int .i64 l.clk] (some 9))) := Ext.new
  have hb1 : Bk (m.new (.cells [.int .i64 k.fr, .int .i64 k.co, .int .i64 k.bu, .int .i64 k.re, .int .i64 w.f, tv, gv, cv, .int .i64 l.clk] (some 9))) m.next [.int .i64 k.fr, .int .i64 k.co, .int .i64 k.bu, .int .i64 k.re, .int .i64 w.f, tv, gv, cv, .int .i64 l.clk] 9 := Bk.new
  have hn1 : (m.new (.cells [.int .i64 k.fr, .int .i64 k.co, .int .i64 k.bu, .int .i64 k.re, .int .i64 w.f, tv, gv, cv, .int .i64 l.clk] (some 9))).next = m.next + 1 := rfl
  generalize m.new (.cells [.int .i64 k.fr, .int .i64 k.co, .int .i64 k.bu, .int .i64 k.re, .int .i64 w.f, tv, gv, cv, .int .i64 l.clk] (some 9)) = m1 at hx1 hb1 hn1 ⊢
  have hx2 : Ext m1 (m1.new (.cells [.int .i64 op, .int .i64 id, .int .i64 grp, .int .i64 sh, .int .i64 wt, .int .i64 cap, .int .i64 co, .int .i64 n] (some 8))) := Ext.new
  have hb2 : Bk (m1.new (.cells [.int .i64 op, .int .i64 id, .int .i64 grp, .int .i64 sh, .int .i64 wt, .int .i64 cap, .int .i64 co, .int .i64 n] (some 8))) m1.next [.int .i64 op, .int .i64 id, .int .i64 grp, .int .i64 sh, .int .i64 wt, .int .i64 cap, .int .i64 co, .int .i64 n] 8 := Bk.new
  have hn2 : (m1.new (.cells [.int .i64 op, .int .i64 id, .int .i64 grp, .int .i64 sh, .int .i64 wt, .int .i64 cap, .int .i64 co, .int .i64 n] (some 8))).next = m1.next + 1 := rfl
  generalize m1.new (.cells [.int .i64 op, .int .i64 id, .int .i64 grp, .int .i64 sh, .int .i64 wt, .int .i64 cap, .int .i64 co, .int .i64 n] (some 8)) = m2 at hx2 hb2 hn2 ⊢
  have hx3 : Ext m2 (m2.new (.cells [.int .i64 0, .int .i64 0, .int .i64 0, .int .i64 0, .int .i64 0, .slice none 0 0, .slice none 0 0, .slice none 0 0, .int .i64 0] (some 9))) := Ext.new
  have hb3 : Bk (m2.new (.cells [.int .i64 0, .int .i64 0, .int .i64 0, .int .i64 0, .int .i64 0, .slice none 0 0, .slice none 0 0, .slice none 0 0, .int .i64 0] (some 9))) m2.next [.int .i64 0, .int .i64 0, .int .i64 0, .int .i64 0, .int .i64 0, .slice none 0 0, .slice none 0 0, .slice none 0 0, .int .i64 0] 9 := Bk.new
  have hn3 : (m2.new (.cells [.int .i64 0, .int .i64 0, .int .i64 0, .int .i64 0, .int .i64 0, .slice none 0 0, .slice none 0 0, .slice none 0 0, .int .i64 0] (some 9))).next = m2.next + 1 := rfl
  generalize m2.new (.cells [.int .i64 0, .int .i64 0, .int .i64 0, .int .i64 0, .int .i64 0, .slice none 0 0, .slice none 0 0, .slice none 0 0, .int .i64 0] (some 9)) = m3 at hx3 hb3 hn3 ⊢
  have b13 := (hb1.keep hx2).keep hx3
  have ne1 : (m3.next = m.next) = False := eq_false (by omega)
  have ne2 : (m3.next = m1.next) = False := eq_false (by omega)
  have ne3 : (m3.next = m2.next) = False := eq_false (by omega)
  have ne4 : (m.next = m3.next) = False := eq_false (by omega)
  have ne5 : (m1.next = m3.next) = False := eq_false (by omega)
  have ne6 : (m2.next = m3.next) = False := eq_false (by omega)
  have ne7 : (m2.next = m.next) = False := eq_false (by omega)
  have ne8 : (m.next = m2.next) = False := eq_false (by omega)
  have ne9 : (m2.next = m1.next) = False := eq_false (by omega)
  have b23 := hb2.keep hx3
  try simp only [go_sem, ruB, b13.at_, b23.at_, ne1, ne2, ne3, ne4, ne5, ne6, ne7, ne8, ne9, h.r.t.one, h.r.g.one, h.c.one, ↓ct, ↓cg, ↓cc]
  have hx4 : Ext m3 (m3.new (.cells [.int .i64 k.fr, .int .i64 k.co, .int .i64 k.bu, .int .i64 k.re, .int .i64 w.f, tv, gv, cv, .int .i64 l.clk] (some 9))) := Ext.new
  have hb4 : Bk (m3.new (.cells [.int .i64 k.fr, .int .i64 k.co, .int .i64 k.bu, .int .i64 k.re, .int .i64 w.f, tv, gv, cv, .int .i64 l.clk] (some 9))) m3.next [.int .i64 k.fr, .int .i64 k.co, .int .i64 k.bu, .int .i64 k.re, .int .i64 w.f, tv, gv, cv, .int .i64 l.clk] 9 := Bk.new
  have hn4 : (m3.new (.cells [.int .i64 k.fr, .int .i64 k.co, .int .i64 k.bu, .int .i64 k.re, .int .i64 w.f, tv, gv, cv, .int .i64 l.clk] (some 9))).next = m3.next + 1 := rfl
  generalize m3.new (.cells [.int .i64 k.fr, .int .i64 k.co, .int .i64 k.bu, .int .i64 k.re, .int .i64 w.f, tv, gv, cv, .int .i64 l.clk] (some 9)) = m4 at hx4 hb4 hn4 ⊢
  have b14 := b13.keep hx4
  have b24 := (hb2.keep hx3).keep hx4
  have b34 := hb3.keep hx4
  have hX4 := ((hx1.trans hx2).trans hx3).trans hx4
  have h4 := h.keep hX4
  have e00 : ((0 : Int) != 0) = false := rfl
  have tl := SlLt.vb_iff.1 h.r.tl
  have gl := SlLt.vb_iff.1 h.r.gl
  have cl := SlLt.vb_iff.1 h.cl
  by_cases g13 : op = 13
  · have f13 : (op == 13) = true := by rw [beq_iff_eq]; exact g13
    have hD0 : doL l ⟨op, id, grp, sh, wt, cap, co, n⟩ = plugS l ⟨op, id, grp, sh, wt, cap, co, n⟩ := by unfold doL; simp only []; rw [if_neg (by omega), if_pos (by omega)]
    have hP0 : plugC l ⟨op, id, grp, sh, wt, cap, co, n⟩ = Co.chg l.L co 0 4 := by unfold plugC; simp only []; rw [if_pos g13]
    rw [hD0]
    try simp only [go_sem, ruB, b14.at_, b24.at_, ne1, ne2, ne3, ne4, ne5, ne6, ne7, ne8, ne9, f13]
    refine gC.of (Co.RPlug_spec (fp := oldF m4 cv) (h4.rl oldF_off) (by omega) oldF_lt) ?_
    rintro _ m5 ⟨cv', rfl, ⟨s5, l5, o5⟩, hx5⟩
    have hN5 := (oldF_new o5).weak hX4.next
    have hN4 := oldF_new o5
    have h5 := h4.keep hx5
    have cc5 := s5.cells
    have lnc : (Co.chg l.L co 0 4).1.length = l.L.length := Co.chg_ln
    have b45 := hb4.keep hx5
    have b15 := b14.keep hx5
    have b35 := b34.keep hx5
    have n5 := hx5.next
    try simp only [go_sem, ruB, aExt0, aExt1, b45.at_, ne1, ne2, ne3, ne4, ne5, ne6, ne7, ne8, ne9, h.r.t.one, h.r.g.one, h.c.one, ↓ct, ↓cg, ↓cc, s5.one, ↓cc5]
    have hU6 : Upd m5 (m5.set m3.next (some (.cells [.int .i64 k.fr, .int .i64 k.co, .int .i64 k.bu, .int .i64 k.re, .int .i64 w.f, tv, gv, cv', .int .i64 l.clk] (some 9)))) [m3.next] := Upd.set (by simp)
    have hx6 : Ext m (m5.set m3.next (some (.cells [.int .i64 k.fr, .int .i64 k.co, .int .i64 k.bu, .int .i64 k.re, .int .i64 w.f, tv, gv, cv', .int .i64 l.clk] (some 9)))) := (hX4.trans hx5).set (by omega)
    have b46 : Bk (m5.set m3.next (some (.cells [.int .i64 k.fr, .int .i64 k.co, .int .i64 k.bu, .int .i64 k.re, .int .i64 w.f, tv, gv, cv', .int .i64 l.clk] (some 9)))) m3.next [.int .i64 k.fr, .int .i64 k.co, .int .i64 k.bu, .int .i64 k.re, .int .i64 w.f, tv, gv, cv', .int .i64 l.clk] 9 := ⟨by simp [Mem.set], by show m3.next < m5.next; omega⟩
    have b16 := b15.upd hU6 (by simp; omega)
    have b36 := b35.upd hU6 (by simp; omega)
    have h6 : LrV (m5.set m3.next (some (.cells [.int .i64 k.fr, .int .i64 k.co, .int .i64 k.bu, .int .i64 k.re, .int .i64 w.f, tv, gv, cv', .int .i64 l.clk] (some 9)))) w (Co.chg l.L co 0 4).1 tv gv cv' := ⟨h5.r.upd hU6 (fun x hx => by have := tl x hx; simp; omega) (fun x hx => by have := gl x hx; simp; omega), s5.upd l5 (SlOff.vb_iff.2 (hN4.off_ (fun x hx => by have := cl x hx; omega) (by omega))) hU6, l5.upd hU6⟩
    generalize m5.set m3.next (some (.cells [.int .i64 k.fr, .int .i64 k.co, .int .i64 k.bu, .int .i64 k.re, .int .i64 w.f, tv, gv, cv', .int .i64 l.clk] (some 9))) = m6 at hx6 b46 b16 b36 h6 ⊢
    have ct6 := h6.r.t.cells
    have cg6 := h6.r.g.cells
    have cc6 := h6.c.cells
    by_cases gE : (Co.chg l.L co 0 4).2 = 0
    rotate_left
    · have eE : ((Co.chg l.L co 0 4).2 != 0) = true := by rw [bne_iff_ne]; exact gE
      have hD : plugS l ⟨op, id, grp, sh, wt, cap, co, n⟩ = (l, (Co.chg l.L co 0 4).2) := by unfold plugS; rw [hP0]; rw [if_pos gE]
      rw [hD]
      have h06 := h.keep hx6
      try simp only [go_sem, ruB, eE, b16.at_, b36.at_, ne1, ne2, ne3, ne4, ne5, ne6, ne7, ne8, ne9, h.r.t.one, h.r.g.one, h.c.one, ↓ct, ↓cg, ↓cc]
      exact LDo.same h06 h r hx6 (by omega)
    have eE : ((Co.chg l.L co 0 4).2 != 0) = false := by rw [bne_eq_false_iff_eq]; exact gE
    try simp only [go_sem, ruB, eE, b46.at_, ne1, ne2, ne3, ne4, ne5, ne6, ne7, ne8, ne9, h6.r.t.one, h6.r.g.one, h6.c.one, ↓ct6, ↓cg6, ↓cc6]
    refine gC.of (refFree29 (clk := l.clk) h6 r hw.s hcf (by rw [lnc]; exact hl)) ?_
    rintro _ m7 ⟨rfl, hx7⟩
    have b47 := b46.keep hx7
    have b17 := b16.keep hx7
    have b37 := b36.keep hx7
    have h7 := h6.keep hx7
    have hx07 := hx6.trans hx7
    by_cases gF : shSumR (unitsR l.s) ≤ k.fr * onlI (Co.chg l.L co 0 4).1
    · have eF : decide (k.fr * onlI (Co.chg l.L co 0 4).1 - shSumR (unitsR l.s) < 0) = false := decide_eq_false (by omega)
      have hD : plugS l ⟨op, id, grp, sh, wt, cap, co, n⟩ = ({ l with s := l.s, L := (Co.chg l.L co 0 4).1 }, 0) := by unfold plugS; rw [hP0]; rw [if_neg (fun e => e gE), hk, if_pos gF]
      rw [hD]
      try simp only [go_sem, ruB, eF, b47.at_, b37.at_, ne1, ne2, ne3, ne4, ne5, ne6, ne7, ne8, ne9, h6.r.t.one, h6.r.g.one, h6.c.one, ↓ct6, ↓cg6, ↓cc6]
      exact LDo.fin (l' := { l with s := l.s, L := (Co.chg l.L co 0 4).1 }) h7 r hx07 (by omega) .refl .refl hN5 (fun hx => by have := tl _ hx; omega) (fun hx => by have := gl _ hx; omega) (hN4.at_ (q := m2.next) (fun x hx => by have := cl x hx; omega) (by omega))
    · have eF : decide (k.fr * onlI (Co.chg l.L co 0 4).1 - shSumR (unitsR l.s) < 0) = true := decide_eq_true (by omega)
      have hD : plugS l ⟨op, id, grp, sh, wt, cap, co, n⟩ = (l, 12) := by unfold plugS; rw [hP0]; rw [if_neg (fun e => e gE), hk, if_neg gF]
      rw [hD]
      have h07 := h.keep hx07
      try simp only [go_sem, ruB, eF, b17.at_, b37.at_, ne1, ne2, ne3, ne4, ne5, ne6, ne7, ne8, ne9, h.r.t.one, h.r.g.one, h.c.one, ↓ct, ↓cg, ↓cc]
      exact LDo.same h07 h r hx07 (by omega)
  have f13 : (op == 13) = false := by rw [beq_eq_false_iff_ne]; exact g13
  by_cases g14 : op = 14
  · have f14 : (op == 14) = true := by rw [beq_iff_eq]; exact g14
    have hD0 : doL l ⟨op, id, grp, sh, wt, cap, co, n⟩ = plugS l ⟨op, id, grp, sh, wt, cap, co, n⟩ := by unfold doL; simp only []; rw [if_neg (by omega), if_pos (by omega)]
    have hP0 : plugC l ⟨op, id, grp, sh, wt, cap, co, n⟩ = Co.chg l.L co 1 2 := by unfold plugC; simp only []; rw [if_neg g13]
    rw [hD0]
    try simp only [go_sem, ruB, b14.at_, b24.at_, ne1, ne2, ne3, ne4, ne5, ne6, ne7, ne8, ne9, f13, f14]
    refine gC.of (Co.RUnplug_spec (fp := oldF m4 cv) (h4.rl oldF_off) (by omega) oldF_lt) ?_
    rintro _ m5 ⟨cv', rfl, ⟨s5, l5, o5⟩, hx5⟩
    have hN5 := (oldF_new o5).weak hX4.next
    have hN4 := oldF_new o5
    have h5 := h4.keep hx5
    have cc5 := s5.cells
    have lnc : (Co.chg l.L co 1 2).1.length = l.L.length := Co.chg_ln
    have b45 := hb4.keep hx5
    have b15 := b14.keep hx5
    have b35 := b34.keep hx5
    have n5 := hx5.next
    try simp only [go_sem, ruB, aExt0, aExt1, b45.at_, ne1, ne2, ne3, ne4, ne5, ne6, ne7, ne8, ne9, h.r.t.one, h.r.g.one, h.c.one, ↓ct, ↓cg, ↓cc, s5.one, ↓cc5]
    have hU6 : Upd m5 (m5.set m3.next (some (.cells [.int .i64 k.fr, .int .i64 k.co, .int .i64 k.bu, .int .i64 k.re, .int .i64 w.f, tv, gv, cv', .int .i64 l.clk] (some 9)))) [m3.next] := Upd.set (by simp)
    have hx6 : Ext m (m5.set m3.next (some (.cells [.int .i64 k.fr, .int .i64 k.co, .int .i64 k.bu, .int .i64 k.re, .int .i64 w.f, tv, gv, cv', .int .i64 l.clk] (some 9)))) := (hX4.trans hx5).set (by omega)
    have b46 : Bk (m5.set m3.next (some (.cells [.int .i64 k.fr, .int .i64 k.co, .int .i64 k.bu, .int .i64 k.re, .int .i64 w.f, tv, gv, cv', .int .i64 l.clk] (some 9)))) m3.next [.int .i64 k.fr, .int .i64 k.co, .int .i64 k.bu, .int .i64 k.re, .int .i64 w.f, tv, gv, cv', .int .i64 l.clk] 9 := ⟨by simp [Mem.set], by show m3.next < m5.next; omega⟩
    have b16 := b15.upd hU6 (by simp; omega)
    have b36 := b35.upd hU6 (by simp; omega)
    have h6 : LrV (m5.set m3.next (some (.cells [.int .i64 k.fr, .int .i64 k.co, .int .i64 k.bu, .int .i64 k.re, .int .i64 w.f, tv, gv, cv', .int .i64 l.clk] (some 9)))) w (Co.chg l.L co 1 2).1 tv gv cv' := ⟨h5.r.upd hU6 (fun x hx => by have := tl x hx; simp; omega) (fun x hx => by have := gl x hx; simp; omega), s5.upd l5 (SlOff.vb_iff.2 (hN4.off_ (fun x hx => by have := cl x hx; omega) (by omega))) hU6, l5.upd hU6⟩
    generalize m5.set m3.next (some (.cells [.int .i64 k.fr, .int .i64 k.co, .int .i64 k.bu, .int .i64 k.re, .int .i64 w.f, tv, gv, cv', .int .i64 l.clk] (some 9))) = m6 at hx6 b46 b16 b36 h6 ⊢
    have ct6 := h6.r.t.cells
    have cg6 := h6.r.g.cells
    have cc6 := h6.c.cells
    by_cases gE : (Co.chg l.L co 1 2).2 = 0
    rotate_left
    · have eE : ((Co.chg l.L co 1 2).2 != 0) = true := by rw [bne_iff_ne]; exact gE
      have hD : plugS l ⟨op, id, grp, sh, wt, cap, co, n⟩ = (l, (Co.chg l.L co 1 2).2) := by unfold plugS; rw [hP0]; rw [if_pos gE]
      rw [hD]
      have h06 := h.keep hx6
      try simp only [go_sem, ruB, eE, b16.at_, b36.at_, ne1, ne2, ne3, ne4, ne5, ne6, ne7, ne8, ne9, h.r.t.one, h.r.g.one, h.c.one, ↓ct, ↓cg, ↓cc]
      exact LDo.same h06 h r hx6 (by omega)
    have eE : ((Co.chg l.L co 1 2).2 != 0) = false := by rw [bne_eq_false_iff_eq]; exact gE
    try simp only [go_sem, ruB, eE, b46.at_, ne1, ne2, ne3, ne4, ne5, ne6, ne7, ne8, ne9, h6.r.t.one, h6.r.g.one, h6.c.one, ↓ct6, ↓cg6, ↓cc6]
    refine gC.of (refFree29 (clk := l.clk) h6 r hw.s hcf (by rw [lnc]; exact hl)) ?_
    rintro _ m7 ⟨rfl, hx7⟩
    have b47 := b46.keep hx7
    have b17 := b16.keep hx7
    have b37 := b36.keep hx7
    have h7 := h6.keep hx7
    have hx07 := hx6.trans hx7
    by_cases gF : shSumR (unitsR l.s) ≤ k.fr * onlI (Co.chg l.L co 1 2).1
    · have eF : decide (k.fr * onlI (Co.chg l.L co 1 2).1 - shSumR (unitsR l.s) < 0) = false := decide_eq_false (by omega)
      have hD : plugS l ⟨op, id, grp, sh, wt, cap, co, n⟩ = ({ l with s := l.s, L := (Co.chg l.L co 1 2).1 }, 0) := by unfold plugS; rw [hP0]; rw [if_neg (fun e => e gE), hk, if_pos gF]
      rw [hD]
      try simp only [go_sem, ruB, eF, b47.at_, b37.at_, ne1, ne2, ne3, ne4, ne5, ne6, ne7, ne8, ne9, h6.r.t.one, h6.r.g.one, h6.c.one, ↓ct6, ↓cg6, ↓cc6]
      exact LDo.fin (l' := { l with s := l.s, L := (Co.chg l.L co 1 2).1 }) h7 r hx07 (by omega) .refl .refl hN5 (fun hx => by have := tl _ hx; omega) (fun hx => by have := gl _ hx; omega) (hN4.at_ (q := m2.next) (fun x hx => by have := cl x hx; omega) (by omega))
    · have eF : decide (k.fr * onlI (Co.chg l.L co 1 2).1 - shSumR (unitsR l.s) < 0) = true := decide_eq_true (by omega)
      have hD : plugS l ⟨op, id, grp, sh, wt, cap, co, n⟩ = (l, 12) := by unfold plugS; rw [hP0]; rw [if_neg (fun e => e gE), hk, if_neg gF]
      rw [hD]
      have h07 := h.keep hx07
      try simp only [go_sem, ruB, eF, b17.at_, b37.at_, ne1, ne2, ne3, ne4, ne5, ne6, ne7, ne8, ne9, h.r.t.one, h.r.g.one, h.c.one, ↓ct, ↓cg, ↓cc]
      exact LDo.same h07 h r hx07 (by omega)
  have f14 : (op == 14) = false := by rw [beq_eq_false_iff_ne]; exact g14
  by_cases g16 : op = 16
  · have f16 : (op == 16) = true := by rw [beq_iff_eq]; exact g16
    have hD0 : doL l ⟨op, id, grp, sh, wt, cap, co, n⟩ = tkS l n := by unfold doL; simp only []; rw [if_neg (by omega), if_neg (by omega), if_pos g16]
    rw [hD0]
    unfold tkS
    by_cases gn : n < 1 ∨ 1024 < n
    · rw [if_pos gn]
      by_cases gn1 : n < 1
      · try simp only [go_sem, ruB, b14.at_, b24.at_, b34.at_, ne1, ne2, ne3, ne4, ne5, ne6, ne7, ne8, ne9, f13, f14, f16, decide_eq_true gn1, h.r.t.one, h.r.g.one, h.c.one, ↓ct, ↓cg, ↓cc]
        exact LDo.same h4 h r hX4 (by omega)
      · try simp only [go_sem, ruB, b14.at_, b24.at_, b34.at_, ne1, ne2, ne3, ne4, ne5, ne6, ne7, ne8, ne9, f13, f14, f16, decide_eq_false gn1, decide_eq_true (show 1024 < n by omega), h.r.t.one, h.r.g.one, h.c.one, ↓ct, ↓cg, ↓cc]
        exact LDo.same h4 h r hX4 (by omega)
    · rw [if_neg gn]
      have gn1 : decide (n < 1) = false := decide_eq_false (by omega)
      have gn2 : decide (1024 < n) = false := decide_eq_false (by omega)
      try simp only [go_sem, ruB, b14.at_, b24.at_, ne1, ne2, ne3, ne4, ne5, ne6, ne7, ne8, ne9, f13, f14, f16, gn1, gn2]
      refine WL.mono (refTicks_loop hk h r hw hc b34 b24 hb4 hX4 (by omega) (by omega) (by omega) (by omega)) ?_
      rintro _ _ m9 ⟨rfl, ⟨rs, rfl⟩, cv', hL9, hN9, b49, b39, hx9⟩
      have ct9 := hL9.r.t.cells
      have cg9 := hL9.r.g.cells
      have cc9 := hL9.c.cells
      simp only [pt]
      try simp only [go_sem, ruB, b49.at_, b39.at_, ne1, ne2, ne3, ne4, ne5, ne6, ne7, ne8, ne9, hL9.r.t.one, hL9.r.g.one, hL9.c.one, ↓ct9, ↓cg9, ↓cc9]
      exact LDo.fin (l' := ticksS n.toNat l) hL9 (by rw [ticksS_s]; exact r) hx9 (by omega) .refl .refl (hN9.weak hX4.next) (fun hx => by have := tl _ hx; omega) (fun hx => by have := gl _ hx; omega) (hN9.at_ (q := m2.next) (fun x hx => by have := cl x hx; omega) (by omega))
  have f16 : (op == 16) = false := by rw [beq_eq_false_iff_ne]; exact g16
  by_cases g17 : op = 17
  · have f17 : (op == 17) = true := by rw [beq_iff_eq]; exact g17
    have hD0 : doL l ⟨op, id, grp, sh, wt, cap, co, n⟩ = (l, if (lkp l.s.T id).isSome then 0 else 10) := by unfold doL; simp only []; rw [if_neg (by omega), if_neg (by omega), if_neg g16, if_pos g17]
    rw [hD0]
    try simp only [go_sem, ruB, b14.at_, b24.at_, ne1, ne2, ne3, ne4, ne5, ne6, ne7, ne8, ne9, f13, f14, f16, f17]
    refine gC.of (refFindT (id := id) h4.r r hw.s) ?_
    rintro _ m5 ⟨hx5, rfl⟩
    have b15 := b14.keep hx5
    have b35 := b34.keep hx5
    have h5 := h4.keep hx5
    have n5 := hx5.next
    simp only [tvA, tkV]
    cases hlk : lkp l.s.T id with
    | none =>
      simp only [Option.getD_none, Option.isSome_none]
      have nb15 := b15.ne
      have nb35 := b35.ne
      try simp only [go_sem, ruB, aExt0, aExt1, b15.at_, nb15, nb35]
      have hx6 : Ext m5 (m5.new (.cells [.int .i64 zT.id, .int .i64 zT.grp, .int .i64 zT.share, .int .i64 zT.weight, .int .i64 zT.cap, .bool zT.off] (some 6))) := Ext.new
      have hb6 : Bk (m5.new (.cells [.int .i64 zT.id, .int .i64 zT.grp, .int .i64 zT.share, .int .i64 zT.weight, .int .i64 zT.cap, .bool zT.off] (some 6))) m5.next [.int .i64 zT.id, .int .i64 zT.grp, .int .i64 zT.share, .int .i64 zT.weight, .int .i64 zT.cap, .bool zT.off] 6 := Bk.new
      generalize m5.new (.cells [.int .i64 zT.id, .int .i64 zT.grp, .int .i64 zT.share, .int .i64 zT.weight, .int .i64 zT.cap, .bool zT.off] (some 6)) = m6 at hx6 hb6 ⊢
      have b16 := b15.keep hx6
      have b36 := b35.keep hx6
      have h6 := h5.keep hx6
      try simp only [go_sem, ruB, b16.at_, b36.at_, b15.at_, b35.at_, ne1, ne2, ne3, ne4, ne5, ne6, ne7, ne8, ne9, h.r.t.one, h.r.g.one, h.c.one, ↓ct, ↓cg, ↓cc]
      exact LDo.same h6 h r ((hX4.trans hx5).trans hx6) (by omega)
    | some t =>
      simp only [Option.getD_some, Option.isSome_some]
      have nb15 := b15.ne
      have nb35 := b35.ne
      try simp only [go_sem, ruB, aExt0, aExt1, b15.at_, nb15, nb35]
      have hx6 : Ext m5 (m5.new (.cells [.int .i64 t.id, .int .i64 t.grp, .int .i64 t.share, .int .i64 t.weight, .int .i64 t.cap, .bool t.off] (some 6))) := Ext.new
      have hb6 : Bk (m5.new (.cells [.int .i64 t.id, .int .i64 t.grp, .int .i64 t.share, .int .i64 t.weight, .int .i64 t.cap, .bool t.off] (some 6))) m5.next [.int .i64 t.id, .int .i64 t.grp, .int .i64 t.share, .int .i64 t.weight, .int .i64 t.cap, .bool t.off] 6 := Bk.new
      generalize m5.new (.cells [.int .i64 t.id, .int .i64 t.grp, .int .i64 t.share, .int .i64 t.weight, .int .i64 t.cap, .bool t.off] (some 6)) = m6 at hx6 hb6 ⊢
      have b16 := b15.keep hx6
      have b36 := b35.keep hx6
      have h6 := h5.keep hx6
      try simp only [go_sem, ruB, b16.at_, b36.at_, b15.at_, b35.at_, ne1, ne2, ne3, ne4, ne5, ne6, ne7, ne8, ne9, h.r.t.one, h.r.g.one, h.c.one, ↓ct, ↓cg, ↓cc]
      exact LDo.same h6 h r ((hX4.trans hx5).trans hx6) (by omega)
  have f17 : (op == 17) = false := by rw [beq_eq_false_iff_ne]; exact g17
  by_cases g15 : op = 15
  · have f15 : (op == 15) = true := by rw [beq_iff_eq]; exact g15
    have hD0 : doL l ⟨op, id, grp, sh, wt, cap, co, n⟩ = (l, 0) := by unfold doL; simp only []; rw [if_neg (by omega), if_neg (by omega), if_neg g16, if_neg g17, if_pos g15]
    rw [hD0]
    try simp only [go_sem, ruB, b14.at_, b24.at_, b34.at_, ne1, ne2, ne3, ne4, ne5, ne6, ne7, ne8, ne9, f13, f14, f16, f17, f15, h.r.t.one, h.r.g.one, h.c.one, ↓ct, ↓cg, ↓cc]
    exact LDo.same h4 h r hX4 (by omega)
  have f15 : (op == 15) = false := by rw [beq_eq_false_iff_ne]; exact g15
  by_cases gd : 1 ≤ op ∧ op ≤ 12
  rotate_left
  · have hD0 : doL l ⟨op, id, grp, sh, wt, cap, co, n⟩ = (l, 1) := by unfold doL; simp only []; rw [if_neg gd, if_neg (by omega), if_neg g16, if_neg g17, if_neg g15]
    rw [hD0]
    by_cases gd1 : op < 1
    · try simp only [go_sem, ruB, b14.at_, b24.at_, b34.at_, ne1, ne2, ne3, ne4, ne5, ne6, ne7, ne8, ne9, f13, f14, f16, f17, f15, decide_eq_true gd1, h.r.t.one, h.r.g.one, h.c.one, ↓ct, ↓cg, ↓cc]
      exact LDo.same h4 h r hX4 (by omega)
    · try simp only [go_sem, ruB, b14.at_, b24.at_, b34.at_, ne1, ne2, ne3, ne4, ne5, ne6, ne7, ne8, ne9, f13, f14, f16, f17, f15, decide_eq_false gd1, decide_eq_true (show 12 < op by omega), h.r.t.one, h.r.g.one, h.c.one, ↓ct, ↓cg, ↓cc]
      exact LDo.same h4 h r hX4 (by omega)
  have gd1 : decide (op < 1) = false := decide_eq_false (by omega)
  have gd2 : decide (12 < op) = false := decide_eq_false (by omega)
  have hD0 : doL l ⟨op, id, grp, sh, wt, cap, co, n⟩ = tasksS l ⟨op, id, grp, sh, wt, cap, co, n⟩ := by unfold doL; simp only []; rw [if_pos gd]
  rw [hD0]
  try simp only [go_sem, ruB, b14.at_, b24.at_, ne1, ne2, ne3, ne4, ne5, ne6, ne7, ne8, ne9, f13, f14, f16, f17, f15, gd1, gd2, h.r.t.one, h.r.g.one, h.c.one, ↓ct, ↓cg, ↓cc]
  refine gC.of (refDo28 (c := ⟨op, id, grp, sh, wt, cap, co, n⟩) h4.r r hw.s) ?_
  rintro _ m5 ⟨hx5, tv', gv', w', rfl, hv', hr', ht', hg'⟩
  have ct5 := hv'.t.cells
  have cg5 := hv'.g.cells
  have hwf := hw.s.do_ (c := ⟨op, id, grp, sh, wt, cap, co, n⟩)
  have h5 := h4.keep hx5
  have hT4 := ht'.w
  have hG4 := hg'.w
  have hT5 := hT4.weak hX4.next
  have hG5 := hG4.weak hX4.next
  have ff : w'.f = w.f := by rw [hr'.f, doS_f, r.f]
  have b45 := hb4.keep hx5
  have b15 := b14.keep hx5
  have b35 := b34.keep hx5
  have n5 := hx5.next
  try simp only [go_sem, ruB, aExt0, aExt1, b45.at_, ne1, ne2, ne3, ne4, ne5, ne6, ne7, ne8, ne9, h.r.t.one, h.r.g.one, h.c.one, ↓ct, ↓cg, ↓cc, hv'.t.one, hv'.g.one, ↓ct5, ↓cg5]
  have hU6 : Upd m5 (m5.set m3.next (some (.cells [.int .i64 k.fr, .int .i64 k.co, .int .i64 k.bu, .int .i64 k.re, .int .i64 w'.f, tv', gv', cv, .int .i64 l.clk] (some 9)))) [m3.next] := Upd.set (by simp)
  have hx6 : Ext m (m5.set m3.next (some (.cells [.int .i64 k.fr, .int .i64 k.co, .int .i64 k.bu, .int .i64 k.re, .int .i64 w'.f, tv', gv', cv, .int .i64 l.clk] (some 9)))) := (hX4.trans hx5).set (by omega)
  have b46 : Bk (m5.set m3.next (some (.cells [.int .i64 k.fr, .int .i64 k.co, .int .i64 k.bu, .int .i64 k.re, .int .i64 w'.f, tv', gv', cv, .int .i64 l.clk] (some 9)))) m3.next [.int .i64 k.fr, .int .i64 k.co, .int .i64 k.bu, .int .i64 k.re, .int .i64 w'.f, tv', gv', cv, .int .i64 l.clk] 9 := ⟨by simp [Mem.set], by show m3.next < m5.next; omega⟩
  have b16 := b15.upd hU6 (by simp; omega)
  have b36 := b35.upd hU6 (by simp; omega)
  have h6 : LrV (m5.set m3.next (some (.cells [.int .i64 k.fr, .int .i64 k.co, .int .i64 k.bu, .int .i64 k.re, .int .i64 w'.f, tv', gv', cv, .int .i64 l.clk] (some 9)))) w' l.L tv' gv' cv := ⟨hv'.upd hU6 (hT4.off_ (fun x hx => by have := tl x hx; omega) (by omega)) (hG4.off_ (fun x hx => by have := gl x hx; omega) (by omega)), h5.c.upd h5.cl (SlOff.vb_iff.2 fun x hx => by have := cl x hx; simp; omega) hU6, h5.cl.upd hU6⟩
  generalize m5.set m3.next (some (.cells [.int .i64 k.fr, .int .i64 k.co, .int .i64 k.bu, .int .i64 k.re, .int .i64 w'.f, tv', gv', cv, .int .i64 l.clk] (some 9))) = m6 at hx6 b46 b16 b36 h6 ⊢
  have ct6 := h6.r.t.cells
  have cg6 := h6.r.g.cells
  have cc6 := h6.c.cells
  by_cases gE : (doS l.s ⟨op, id, grp, sh, wt, cap, co, n⟩).2 = 0
  rotate_left
  · have eE : ((doS l.s ⟨op, id, grp, sh, wt, cap, co, n⟩).2 != 0) = true := by rw [bne_iff_ne]; exact gE
    have hD : tasksS l ⟨op, id, grp, sh, wt, cap, co, n⟩ = (l, (doS l.s ⟨op, id, grp, sh, wt, cap, co, n⟩).2) := by unfold tasksS; rw [if_pos gE]
    rw [hD]
    have h06 := h.keep hx6
    try simp only [go_sem, ruB, eE, b16.at_, b36.at_, ne1, ne2, ne3, ne4, ne5, ne6, ne7, ne8, ne9, h.r.t.one, h.r.g.one, h.c.one, ↓ct, ↓cg, ↓cc]
    exact LDo.same h06 h r hx6 (by omega)
  have eE : ((doS l.s ⟨op, id, grp, sh, wt, cap, co, n⟩).2 != 0) = false := by rw [bne_eq_false_iff_eq]; exact gE
  try simp only [go_sem, ruB, eE, b46.at_, ne1, ne2, ne3, ne4, ne5, ne6, ne7, ne8, ne9, h6.r.t.one, h6.r.g.one, h6.c.one, ↓ct6, ↓cg6, ↓cc6]
  refine gC.of (refFree29 (clk := l.clk) h6 hr' hwf hcf hl) ?_
  rintro _ m7 ⟨rfl, hx7⟩
  have b47 := b46.keep hx7
  have b17 := b16.keep hx7
  have b37 := b36.keep hx7
  have h7 := h6.keep hx7
  have hx07 := hx6.trans hx7
  by_cases gF : shSumR (unitsR (doS l.s ⟨op, id, grp, sh, wt, cap, co, n⟩).1) ≤ k.fr * onlI l.L
  · have eF : decide (k.fr * onlI l.L - shSumR (unitsR (doS l.s ⟨op, id, grp, sh, wt, cap, co, n⟩).1) < 0) = false := decide_eq_false (by omega)
    have hD : tasksS l ⟨op, id, grp, sh, wt, cap, co, n⟩ = ({ l with s := (doS l.s ⟨op, id, grp, sh, wt, cap, co, n⟩).1, L := l.L }, 0) := by unfold tasksS; rw [if_neg (fun e => e gE), hk, if_pos gF]
    rw [hD]
    try simp only [go_sem, ruB, eF, b47.at_, b37.at_, ne1, ne2, ne3, ne4, ne5, ne6, ne7, ne8, ne9, h6.r.t.one, h6.r.g.one, h6.c.one, ↓ct6, ↓cg6, ↓cc6]
    exact LDo.fin (l' := { l with s := (doS l.s ⟨op, id, grp, sh, wt, cap, co, n⟩).1, L := l.L }) h7 hr' hx07 (by omega) hT5 hG5 .refl (hT4.at_ (q := m2.next) (fun x hx => by have := tl x hx; omega) (by omega)) (hG4.at_ (q := m2.next) (fun x hx => by have := gl x hx; omega) (by omega)) (fun hx => by have := cl _ hx; omega)
  · have eF : decide (k.fr * onlI l.L - shSumR (unitsR (doS l.s ⟨op, id, grp, sh, wt, cap, co, n⟩).1) < 0) = true := decide_eq_true (by omega)
    have hD : tasksS l ⟨op, id, grp, sh, wt, cap, co, n⟩ = (l, 12) := by unfold tasksS; rw [if_neg (fun e => e gE), hk, if_neg gF]
    rw [hD]
    have h07 := h.keep hx07
    try simp only [go_sem, ruB, eF, b17.at_, b37.at_, ne1, ne2, ne3, ne4, ne5, ne6, ne7, ne8, ne9, h.r.t.one, h.r.g.one, h.c.one, ↓ct, ↓cg, ↓cc]
    exact LDo.same h07 h r hx07 (by omega)
end Go.Am
