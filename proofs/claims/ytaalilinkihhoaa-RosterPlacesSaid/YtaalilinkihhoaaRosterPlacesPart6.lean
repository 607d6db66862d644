/- Parts of the proofs of the statements of this seat: RosterX1, RosterCms, WRosterPlaces. No conditions. -/
import Derived.Test.YtaalilinkihhoaaRosterPlacesPart5
import Derived.Test.YtaalilinkihhoaaRosterPlacesPart3
set_option linter.unusedVariables false
set_option linter.unusedSimpArgs false

/- RosterPlaces. -/
set_option linter.unusedVariables false
set_option linter.unusedSimpArgs false
namespace Go.Am
open Classical
variable {m : Mem}

/-- A roster that is ours. -/
structure RI (m0 m : Mem) (b q1 q2 : Nat) (s : Rs) : Prop where
  v : RosV m b q1 q2 s
  w : RsWf s
  g1 : m0.next ≤ q1
  g2 : m0.next ≤ q2
  g0 : m0.next ≤ b
  x : Ext m0 m
theorem RI.keep {m0 m m' : Mem} {b q1 q2 : Nat} {s : Rs} (h : RI m0 m b q1 q2 s) (hx : Ext m m') : RI m0 m' b q1 q2 s := ⟨h.v.keep hx, h.w, h.g1, h.g2, h.g0, h.x.trans hx⟩
theorem RI.do_ {m0 m m' : Mem} {b q1 q2 : Nat} {s : Rs} {c : Cm} {r : Value} (h : RI m0 m b q1 q2 s) (hp : Post m b q1 q2 (doS s c) r m') : RI m0 m' b q1 q2 (doS s c).1 :=
  ⟨hp.2.1, h.w.do_, h.g1, h.g2, h.g0, hp.2.2.ext_of h.x fun x hx => by
    rcases List.mem_cons.1 hx with rfl | hx
    · exact h.g1
    · rw [List.mem_singleton] at hx; rw [hx]; exact h.g2⟩
structure CmsV (m : Mem) (l : List Cm) (v : Value) : Prop where
  sl : Sl m 8 l.length (l.flatMap cmV) v
  lt : SlLt m v
  ok : ∀ c ∈ l, cmIn c
theorem CmsV.keep {m m' : Mem} {l : List Cm} {v : Value} (h : CmsV m l v) (hx : Ext m m') : CmsV m' l v := ⟨h.sl.keep h.lt hx, h.lt.keep hx, h.ok⟩

set_option maxHeartbeats 1000000 in
theorem Places_cmds {m0 : Mem} {l : List Cm} {lv : Value} (hl : CmsV m0 l lv) {b q1 q2 : Nat} {s0 : Rs} (h0 : RI m0 m b q1 q2 s0) :
    WL R [0, 3, 5] RB.law28_RosterPlaces_3 [(0, lv), (3, pt b), (5, .int .i64 0)] m fun y e m' => y = .exit 0 ∧ (∃ rs, e = (0, lv) :: (3, pt b) :: rs) ∧ ∃ s, RI m0 m' b q1 q2 s := by
  refine WL.of (fun n e m' => ∃ (i : Nat) (s : Rs), i ≤ l.length ∧ i ≤ 100 ∧ n = l.length - i ∧ e = [(0, lv), (3, pt b), (5, .int .i64 ((i : Nat) : Int))] ∧ RI m0 m' b q1 q2 s) l.length
    ⟨0, s0, by omega, by omega, by omega, by simp only [go_sem] <;> rfl, h0⟩ ?_
  rintro _ _ m1 ⟨i, s, hi, hi2, rfl, rfl, h⟩
  have hl1 := hl.keep h.x
  simp only [RB.law28_RosterPlaces_3, pt, go_sem, hl1.sl.len]
  have s1 := st1 (show i < 1000000 by omega)
  by_cases g1 : i < l.length
  · have e1 : decide (((i : Nat) : Int) < ((l.length : Nat) : Int)) = true := decide_eq_true (by omega)
    by_cases g2 : i < 100
    · have e2 : decide (((i : Nat) : Int) < 100) = true := decide_eq_true (by omega)
      obtain ⟨bb, oo, a1, a2, -, -⟩ := hl1.sl.elem cmV_len (k := .i64) g1
      try simp only [go_sem, ruB, e1, e2, a1, a2]
      refine gC.of (Do_spec (c := l[i]) h.v h.w.memOk (hl.ok _ (List.getElem_mem g1))) ?_
      rintro r m2 hp
      have h2 := h.do_ hp
      try simp only [go_sem, ruB, s1]
      exact ⟨l.length - (i + 1), by omega, i + 1, _, by omega, by omega, rfl, rfl, h2⟩
    · have e2 : decide (((i : Nat) : Int) < 100) = false := decide_eq_false (by omega)
      try simp only [go_sem, ruB, e1, e2]
      exact ⟨⟨_, rfl⟩, _, h⟩
  · have e1 : decide (((i : Nat) : Int) < ((l.length : Nat) : Int)) = false := decide_eq_false (by omega)
    try simp only [go_sem, ruB, e1]
    exact ⟨⟨_, rfl⟩, _, h⟩

set_option maxHeartbeats 2000000 in
theorem Places_tasks {m0 : Mem} {b q1 q2 : Nat} {s : Rs} (h0 : RI m0 m b q1 q2 s) {tv : Value} (ht : Sl m 6 (tasksL s).length ((tasksL s).flatMap tkV) tv) (hb : SlLt m tv) :
    WL R [3, 6, 40, 41, 42] RB.law28_RosterPlaces_2 [(3, pt b), (6, .int .i64 0), (40, tv), (41, .int .i64 (((tasksL s).length : Nat) : Int)), (42, .int .i64 0)] m fun y e m' => y = .exit 2 ∧ (∃ rs, e = (3, pt b) :: (6, .int .i64 ((memN (tasksL s) : Nat) : Int)) :: rs) ∧ Ext m m' := by
  have htl : (tasksL s).length ≤ 96 := by rw [tasksL_len]; exact h0.w.k.tl
  have hgr := fun (t : Tk) (ht : t ∈ tasksL s) => h0.w.grpOf ht
  have hs0 := fun (t : Tk) (ht : t ∈ tasksL s) => h0.w.sh0 _ (tasksL_mem h0.w ht)
  have hs1 := fun (t : Tk) (ht : t ∈ tasksL s) => h0.w.sh1 _ (tasksL_mem h0.w ht)
  generalize tasksL s = U at *
  refine WL.of (fun n e m' => ∃ (i : Nat), i ≤ U.length ∧ n = U.length - i ∧ e = [(3, pt b), (6, .int .i64 ((memN (U.take i) : Nat) : Int)), (40, tv), (41, .int .i64 ((U.length : Nat) : Int)), (42, .int .i64 ((i : Nat) : Int))] ∧ Ext m m') U.length
    ⟨0, by omega, by omega, by simp only [go_sem] <;> rfl, Ext.refl _⟩ ?_
  rintro _ _ m1 ⟨i, hi, rfl, rfl, hx1⟩
  simp only [RB.law28_RosterPlaces_2, pt, go_sem]
  have s1 := st1 (show i < 1000000 by omega)
  have hmn := memN_le (l := U.take i)
  rw [List.length_take] at hmn
  have s2 := st1 (show memN (U.take i) < 1000000 by omega)
  by_cases g1 : i < U.length
  · have e1 : decide (((i : Nat) : Int) < ((U.length : Nat) : Int)) = true := decide_eq_true (by omega)
    obtain ⟨bb, oo, a1, a2, -, -⟩ := (ht.keep hb hx1).elem tkV_len (k := .i64) g1
    have htk := memN_take g1
    have q0 := hgr _ (List.getElem_mem g1)
    have p0 := hs0 _ (List.getElem_mem g1)
    have p1 := hs1 _ (List.getElem_mem g1)
    generalize U[i] = t at *
    simp only [tkV] at a2
    try simp only [go_sem, ruB, e1, a1, a2]
    have hx2 : Ext m1 (m1.new (.cells [.int .i64 t.id, .int .i64 t.grp, .int .i64 t.share, .int .i64 t.weight, .int .i64 t.cap, .bool t.off] (some 6))) := Ext.new
    have hb2 : Bk (m1.new (.cells [.int .i64 t.id, .int .i64 t.grp, .int .i64 t.share, .int .i64 t.weight, .int .i64 t.cap, .bool t.off] (some 6))) m1.next [.int .i64 t.id, .int .i64 t.grp, .int .i64 t.share, .int .i64 t.weight, .int .i64 t.cap, .bool t.off] 6 := Bk.new
    generalize m1.new (.cells [.int .i64 t.id, .int .i64 t.grp, .int .i64 t.share, .int .i64 t.weight, .int .i64 t.cap, .bool t.off] (some 6)) = m2 at hx2 hb2 ⊢
    have h2 := (h0.keep hx1).keep hx2
    try simp only [go_sem, ruB, hb2.at_]
    refine gC.of (Group_spec (id := t.grp) h2.v) ?_
    rintro _ m3 ⟨rfl, hx3⟩
    have hb3 := hb2.keep hx3
    have hn3 := hb3.ne
    by_cases g2 : t.grp = 0
    · have e2 : (t.grp == 0) = true := by rw [beq_iff_eq]; exact g2
      have e3 : (t.grp != 0) = false := by rw [bne_eq_false_iff_eq]; exact g2
      have c1 := p0 g2
      simp only at c1
      have e4 : decide (t.share < 1) = false := decide_eq_false (by omega)
      have e5 : (t.weight != 0) = false := by rw [bne_eq_false_iff_eq]; exact c1.2.2.1
      have e6 : (t.cap != 0) = false := by rw [bne_eq_false_iff_eq]; exact c1.2.2.2
      have htk : memN (U.take (i + 1)) = memN (U.take i) := by rw [htk, if_pos g2]; rfl
      generalize (lkp s.G t.grp).getD zG = g
      simp only [gvA, gpV]
      try simp only [go_sem, ruB, aExt0, aExt1, e2, e3, e4, e5, e6, hb3.at_, hn3, s1]
      exact ⟨U.length - (i + 1), by omega, i + 1, by omega, rfl, by rw [htk], ((hx1.trans hx2).trans hx3).trans Ext.new⟩
    · have e2 : (t.grp == 0) = false := by rw [beq_eq_false_iff_ne]; exact g2
      have e3 : (t.grp != 0) = true := by rw [bne_iff_ne]; exact g2
      have c1 := p1 g2
      simp only at c1
      obtain ⟨g, hg, hg1⟩ := q0 g2
      have e4 : decide (g.mem < 1) = false := decide_eq_false (by omega)
      have e5 : (t.share != 0) = false := by rw [bne_eq_false_iff_eq]; exact c1.1
      have e6 : decide (t.weight < 1) = false := decide_eq_false (by omega)
      rw [if_neg g2] at htk
      rw [hg]
      simp only [gvA, gpV, Option.getD_some, Option.isSome_some]
      try simp only [go_sem, ruB, aExt0, aExt1, e2, e3, e4, e5, e6, hb3.at_, hn3, s1, s2]
      exact ⟨U.length - (i + 1), by omega, i + 1, by omega, rfl, by rw [htk], ((hx1.trans hx2).trans hx3).trans Ext.new⟩
  · have e1 : decide (((i : Nat) : Int) < ((U.length : Nat) : Int)) = false := decide_eq_false (by omega)
    have hi2 : i = U.length := by omega
    subst hi2
    rw [List.take_length]
    try simp only [go_sem, ruB, e1]
    exact ⟨⟨_, rfl⟩, hx1⟩

set_option maxHeartbeats 2000000 in
theorem Places_groups {s : Rs} (hw : RsWf s) {gv : Value} (ht : Sl m 3 (groupsL s).length ((groupsL s).flatMap gpV) gv) (hb : SlLt m gv) {n : Int} (hn : 0 ≤ n ∧ n ≤ 96) :
    WL R [6, 102, 103, 104] RB.law28_RosterPlaces_1 [(6, .int .i64 n), (102, gv), (103, .int .i64 (((groupsL s).length : Nat) : Int)), (104, .int .i64 0)] m fun y e m' => y = .exit 4 ∧ (∃ rs, e = (6, .int .i64 (n - memS (groupsL s))) :: rs) := by
  have htl : (groupsL s).length ≤ 40 := by rw [groupsL_len]; exact hw.k.gl
  have hgr := fun (t : Gp) (ht : t ∈ groupsL s) => groupsL_bd hw ht
  generalize groupsL s = U at *
  refine WL.of (fun k e m' => ∃ (i : Nat), i ≤ U.length ∧ k = U.length - i ∧ e = [(6, .int .i64 (n - memS (U.take i))), (102, gv), (103, .int .i64 ((U.length : Nat) : Int)), (104, .int .i64 ((i : Nat) : Int))] ∧ Ext m m') U.length
    ⟨0, by omega, by omega, by simp only [go_sem]; simp [memS], Ext.refl _⟩ ?_
  rintro _ _ m1 ⟨i, hi, rfl, rfl, hx1⟩
  simp only [RB.law28_RosterPlaces_1, go_sem]
  have s1 := st1 (show i < 1000000 by omega)
  by_cases g1 : i < U.length
  · have e1 : decide (((i : Nat) : Int) < ((U.length : Nat) : Int)) = true := decide_eq_true (by omega)
    obtain ⟨bb, oo, a1, a2, -, -⟩ := (ht.keep hb hx1).elem gpV_len (k := .i64) g1
    have htk := memS_take g1
    have hb1 := memS_le (l := U.take i) fun g hg => hgr g (List.mem_of_mem_take hg)
    rw [List.length_take] at hb1
    have hg1 := hgr _ (List.getElem_mem g1)
    generalize U[i] = t at *
    simp only [gpV] at a2
    have s2 : IntKind.wrap .i64 (n - memS (U.take i) - t.mem) = n - (memS (U.take i) + t.mem) := by rw [wrap_i64 (by omega) (by omega)]; omega
    try simp only [go_sem, ruB, e1, a1, a2, s1, s2]
    exact ⟨U.length - (i + 1), by omega, i + 1, by omega, rfl, by rw [htk], hx1.trans Ext.new⟩
  · have e1 : decide (((i : Nat) : Int) < ((U.length : Nat) : Int)) = false := decide_eq_false (by omega)
    have hi2 : i = U.length := by omega
    subst hi2
    rw [List.take_length]
    try simp only [go_sem, ruB, e1]
    exact ⟨_, rfl⟩

set_option maxHeartbeats 2000000 in
theorem Places_spec {l : List Cm} {lv : Value} (hl : CmsV m l lv) : WC R F.law28_RosterPlaces [lv] m fun r m' => r = .bool true := by
  refine WC.of R.law28_RosterPlaces rfl ?_
  simp only [RC.law28_RosterPlaces, go_sem]
  refine gC.of (New_spec (f := 16)) ?_
  rintro _ m1 (⟨hn, -⟩ | ⟨-, -, b, q1, q2, rfl, hV, k0, k1, k2, hx1⟩)
  · exact absurd ⟨by omega, by omega⟩ hn
  have h1 : RI m m1 b q1 q2 ⟨16, [], []⟩ := ⟨hV, .new (by omega), k1, k2, k0, hx1⟩
  simp only [pt]
  try simp only [go_sem, ruB, aExt0, aExt1]
  refine WL.mono (Places_cmds hl h1) ?_
  rintro _ _ m2 ⟨rfl, ⟨rs, rfl⟩, s, h2⟩
  simp only [pt]
  try simp only [go_sem, ruB]
  refine gC.of (Tasks_spec h2.v h2.w.k) ?_
  rintro tv m3 ⟨ho, hx3⟩
  have h3 := h2.keep hx3
  try simp only [go_sem, ruB, ho.sl.len]
  refine WL.mono (Places_tasks h3 ho.sl ho.lt) ?_
  rintro _ _ m4 ⟨rfl, ⟨rs2, rfl⟩, hx4⟩
  have h4 := h3.keep hx4
  simp only [pt]
  try simp only [go_sem, ruB]
  refine gC.of (Groups_spec h4.v h4.w.k) ?_
  rintro gv m5 ⟨ho2, hx5⟩
  try simp only [go_sem, ruB, ho2.sl.len]
  have hmn := memN_le (l := tasksL s)
  have htl := h2.w.k.tl
  rw [tasksL_len] at hmn
  refine WL.mono (Places_groups h2.w ho2.sl ho2.lt (n := ((memN (tasksL s) : Nat) : Int)) (by omega)) ?_
  rintro _ _ m6 ⟨rfl, rs3, rfl⟩
  have hz : (((memN (tasksL s) : Nat) : Int) - memS (groupsL s) == 0) = true := by rw [beq_iff_eq, members_sum h2.w]; omega
  try simp only [go_sem, ruB, hz]
  refine gC.of (ok_spec R.law28_awake) ?_
  rintro _ m_ ⟨rfl, hm_⟩
  replace hm_ := hm_.symm
  subst hm_
  simp only [go_sem]
  try simp only [go_sem, ruB]
end Go.Am


/- Commands as they are read. -/
set_option linter.unusedVariables false
namespace Go.Am
theorem cms_read {m : Mem} {v : Value} (h : Rd m (.sl [.int .i64, .int .i64, .int .i64, .int .i64, .int .i64, .int .i64, .int .i64, .int .i64]) v) : ∃ l : List Cm, CmsV m l v := by
  obtain ⟨l, h1, h2, -⟩ := Rd.slice (f := fun c : { c : Cm // cmIn c } => cmV c.1) (fun cs hc => by
    obtain ⟨a, r, rfl, h1, k1⟩ := hc.one
    obtain ⟨b, r, rfl, h2, k2⟩ := k1.one
    obtain ⟨c, r, rfl, h3, k3⟩ := k2.one
    obtain ⟨d, r, rfl, h4, k4⟩ := k3.one
    obtain ⟨e, r, rfl, h5, k5⟩ := k4.one
    obtain ⟨f, r, rfl, h6, k6⟩ := k5.one
    obtain ⟨g, r, rfl, h7, k7⟩ := k6.one
    obtain ⟨i, r, rfl, h8, k8⟩ := k7.one
    cases k8.none
    obtain ⟨x1, rfl, -⟩ := h1.i64
    obtain ⟨x2, rfl, b2⟩ := h2.i64
    obtain ⟨x3, rfl, b3⟩ := h3.i64
    obtain ⟨x4, rfl, -⟩ := h4.i64
    obtain ⟨x5, rfl, -⟩ := h5.i64
    obtain ⟨x6, rfl, -⟩ := h6.i64
    obtain ⟨x7, rfl, -⟩ := h7.i64
    obtain ⟨x8, rfl, -⟩ := h8.i64
    exact ⟨⟨⟨x1, x2, x3, x4, x5, x6, x7, x8⟩, b2, b3⟩, rfl⟩) h
  refine ⟨l.map Subtype.val, ?_, h2, fun c hc => ?_⟩
  · rw [List.length_map, List.flatMap_map]; exact h1
  · obtain ⟨c', -, rfl⟩ := List.mem_map.1 hc; exact c'.2
end Go.Am


/- RosterPlaces, of arguments as they are read. -/
set_option linter.unusedVariables false
namespace Go.Am
theorem law28_RosterPlaces_walk (m : Mem) (us : List Value) (h : RdAs m [(false, [.sl [.int .i64, .int .i64, .int .i64, .int .i64, .int .i64, .int .i64, .int .i64, .int .i64]])] us) : WC R F.law28_RosterPlaces us m fun v _ => v = .bool true := by
  obtain ⟨_, _, rfl, h1, h⟩ := h.one; cases h.none
  obtain ⟨l, hl⟩ := cms_read h1.rd
  exact Places_spec hl
end Go.Am
