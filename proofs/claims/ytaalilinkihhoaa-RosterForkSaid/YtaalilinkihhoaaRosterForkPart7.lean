/- Parts of the proofs of the statements of this seat: RosterX2, RosterX3, RosterX4, RosterX5, RosterCms, WRosterFork. No conditions. -/
import Derived.Test.YtaalilinkihhoaaRosterForkPart6
import Derived.Test.YtaalilinkihhoaaRosterForkPart3
set_option linter.unusedVariables false
set_option linter.unusedSimpArgs false

/- RosterFull. -/
set_option linter.unusedVariables false
set_option linter.unusedSimpArgs false
namespace Go.Am
open Classical
variable {m : Mem}

theorem RI.to {m0 m m' : Mem} {b q1 q2 : Nat} {s : Rs} {X : Rs × Int} {r : Value} (h : RI m0 m b q1 q2 s) (hw : RsWf X.1) (hp : Post m b q1 q2 X r m') : RI m0 m' b q1 q2 X.1 :=
  ⟨hp.2.1, hw, h.g1, h.g2, h.g0, hp.2.2.ext_of h.x fun x hx => by
    rcases List.mem_cons.1 hx with rfl | hx
    · exact h.g1
    · rw [List.mem_singleton] at hx; rw [hx]; exact h.g2⟩

end Go.Am


/- A roster and the document's, side by side. -/
set_option linter.unusedVariables false
set_option linter.unusedSimpArgs false
namespace Go.Am
open Classical
variable {m : Mem}

structure RE (m : Mem) (p : Nat) (fp : List Nat) (w : Rr) (tv gv : Value) : Prop where
  rv : RrV m w tv gv
  bk : Bk m p [.int .i64 w.f, tv, gv] 3
  ft : ∀ x ∈ vb tv, x ∉ fp
  fg : ∀ x ∈ vb gv, x ∉ fp
  lt : ∀ x ∈ fp, x < m.next
  pin : p ∈ fp
theorem RrV.upd {m m' : Mem} {w : Rr} {tv gv : Value} {fq : List Nat} (h : RrV m w tv gv) (hx : Upd m m' fq) (h1 : ∀ x ∈ vb tv, x ∉ fq) (h2 : ∀ x ∈ vb gv, x ∉ fq) : RrV m' w tv gv :=
  ⟨h.t.upd h.tl (SlOff.vb_iff.2 h1) hx, h.tl.upd hx, h.g.upd h.gl (SlOff.vb_iff.2 h2) hx, h.gl.upd hx, h.tn, h.gn⟩
theorem RE.keep {m m' : Mem} {p : Nat} {fp : List Nat} {w : Rr} {tv gv : Value} (h : RE m p fp w tv gv) (hx : Ext m m') : RE m' p fp w tv gv :=
  ⟨h.rv.keep hx, h.bk.keep hx, h.ft, h.fg, fun x hm => Nat.lt_of_lt_of_le (h.lt x hm) hx.next, h.pin⟩
theorem RE.upd {m m' : Mem} {p : Nat} {fp fq : List Nat} {w : Rr} {tv gv : Value} (h : RE m p fp w tv gv) (hx : Upd m m' fq) (hs : ∀ x ∈ fq, x ∈ fp) (hp : p ∉ fq) : RE m' p fp w tv gv :=
  ⟨h.rv.upd hx (fun x hx hm => h.ft x hx (hs x hm)) (fun x hx hm => h.fg x hx (hs x hm)), h.bk.upd hx hp, h.ft, h.fg, fun x hm => Nat.lt_of_lt_of_le (h.lt x hm) hx.next, h.pin⟩
theorem New.free {m : Mem} {v v' : Value} (h : New m v v') {fp : List Nat} (hv : ∀ x ∈ vb v, x ∉ fp) (hl : ∀ x ∈ fp, x < m.next) : ∀ x ∈ vb v', x ∉ fp := by
  rcases h with rfl | h
  · exact hv
  · intro x hx hm
    have := h x hx; have := hl x hm; omega
theorem RE.put {m M : Mem} {p : Nat} {fp : List Nat} {w w' : Rr} {tv gv tv' gv' : Value} (h : RE m p fp w tv gv) (hn : m.next ≤ M.next) (k : RrV M w' tv' gv') (f1 : ∀ x ∈ vb tv', x ∉ fp) (f2 : ∀ x ∈ vb gv', x ∉ fp) :
    RE (M.set p (some (.cells [.int .i64 w'.f, tv', gv'] (some 3)))) p fp w' tv' gv' := by
  have hp := h.lt p h.pin
  have hU : Upd M (M.set p (some (.cells [.int .i64 w'.f, tv', gv'] (some 3)))) [p] := Upd.set (by simp)
  refine ⟨k.upd hU (fun x hx hm => ?_) (fun x hx hm => ?_), ⟨by simp [Mem.set], by show p < M.next; omega⟩, f1, f2, fun x hm => Nat.lt_of_lt_of_le (h.lt x hm) hn, h.pin⟩
  · rw [List.mem_singleton] at hm; rw [hm] at hx; exact f1 p hx h.pin
  · rw [List.mem_singleton] at hm; rw [hm] at hx; exact f2 p hx h.pin
theorem RE.fork {m M : Mem} {p : Nat} {fp fq : List Nat} {w : Rr} {tv gv : Value} (h : RE m p fp w tv gv) (hx : Ext m M) (hq : ∀ x ∈ fq, m.next ≤ x ∧ x < M.next) : RE M p (fq ++ fp) w tv gv := by
  have k := h.keep hx
  refine ⟨k.rv, k.bk, fun x hx hm => ?_, fun x hx hm => ?_, fun x hm => ?_, List.mem_append_right _ h.pin⟩
  · rcases List.mem_append.1 hm with hm | hm
    · have := SlLt.vb_iff.1 h.rv.tl x hx; have := hq x hm; omega
    · exact h.ft x hx hm
  · rcases List.mem_append.1 hm with hm | hm
    · have := SlLt.vb_iff.1 h.rv.gl x hx; have := hq x hm; omega
    · exact h.fg x hx hm
  · rcases List.mem_append.1 hm with hm | hm
    · exact (hq x hm).2
    · exact k.lt x hm
theorem RI.set {m0 m : Mem} {b q1 q2 p : Nat} {s : Rs} {o : Option AObj} (h : RI m0 m b q1 q2 s) (hp : m0.next ≤ p) (h0 : p ≠ b) (h1 : p ≠ q1) (h2 : p ≠ q2) : RI m0 (m.set p o) b q1 q2 s := by
  have hU : Upd m (m.set p o) [p] := Upd.set (by simp)
  exact ⟨h.v.upd hU (by simpa using fun e => h0 e.symm) (by simpa using fun e => h1 e.symm) (by simpa using fun e => h2 e.symm), h.w, h.g1, h.g2, h.g0, h.x.set hp⟩
theorem RI.upd {m0 m m' : Mem} {b q1 q2 : Nat} {s : Rs} {fq : List Nat} (h : RI m0 m b q1 q2 s) (hx : Upd m m' fq) (hb : b ∉ fq) (h1 : q1 ∉ fq) (h2 : q2 ∉ fq) (hf : ∀ x ∈ fq, m0.next ≤ x) : RI m0 m' b q1 q2 s :=
  ⟨h.v.upd hx hb h1 h2, h.w, h.g1, h.g2, h.g0, hx.ext_of h.x hf⟩
theorem RRel.new {f : Int} : RRel ⟨f, [], []⟩ ⟨f, [], []⟩ := ⟨rfl, List.Perm.refl _, List.Perm.refl _⟩
theorem RrV.new {f : Int} : RrV m ⟨f, [], []⟩ (.slice none 0 0) (.slice none 0 0) := ⟨.nil rfl rfl, trivial, .nil rfl rfl, trivial, by simp, by simp⟩
theorem RE.new {p : Nat} {fp : List Nat} {f : Int} (hb : Bk m p [.int .i64 f, .slice none 0 0, .slice none 0 0] 3) (hl : ∀ x ∈ fp, x < m.next) (hp : p ∈ fp) : RE m p fp ⟨f, [], []⟩ (.slice none 0 0) (.slice none 0 0) :=
  ⟨.new, hb, fun x hx => by simp [vb] at hx, fun x hx => by simp [vb] at hx, hl, hp⟩
theorem RI.lts {m0 m : Mem} {b q1 q2 : Nat} {s : Rs} (h : RI m0 m b q1 q2 s) : b < m.next ∧ q1 < m.next ∧ q2 < m.next := ⟨h.v.bk.lt, h.v.t.lt, h.v.g.lt⟩
theorem kfill_r {a : Int} : fillL [.int .i64 0, .slice none 0 0, .slice none 0 0] [(0, 1, .int .i64 a)] = some [.int .i64 a, .slice none 0 0, .slice none 0 0] := rfl
end Go.Am


/- RosterPlays. -/
set_option linter.unusedVariables false
set_option linter.unusedSimpArgs false
namespace Go.Am
open Classical
variable {m : Mem}

theorem New.at_ {m : Mem} {N k : Nat} {v v' : Value} (h : New (m.bump N) v v') (hl : SlLt m v) (hk : k < N) : ∀ x ∈ vb v', x ∉ [m.next + k] := by
  intro x hx hm
  rw [List.mem_singleton] at hm
  rcases h with rfl | h
  · have := SlLt.vb_iff.1 hl x hx; omega
  · have := h x hx; simp only [Mem.bump_next] at this; omega
end Go.Am


/- RosterFork. -/
set_option linter.unusedVariables false
set_option linter.unusedSimpArgs false
namespace Go.Am
open Classical
variable {m : Mem}

set_option maxHeartbeats 4000000 in
theorem Fork_l3 {m0 : Mem} {l : List Cm} {lv mv : Value} (hl : CmsV m0 l lv) {b q1 q2 p : Nat} {s0 : Rs} (h0 : RI m0 m b q1 q2 s0) {w0 : Rr} {tv0 gv0 : Value} (hE0 : RE m p [p, b, q1, q2] w0 tv0 gv0) (hR0 : RRel s0 w0) (hp0 : m0.next ≤ p) (hpb : p ≠ b) (hp1 : p ≠ q1) (hp2 : p ≠ q2) :
    WL R [0, 1, 5, 7, 8] RB.law28_RosterFork_3 [(0, lv), (1, mv), (5, pt b), (7, pt p), (8, .int .i64 0)] m fun y e m' => y = .exit 0 ∧ (∃ rs, e = (0, lv) :: (1, mv) :: (5, pt b) :: (7, pt p) :: rs) ∧ ∃ s w tv gv, RI m0 m' b q1 q2 s ∧ RE m' p [p, b, q1, q2] w tv gv ∧ RRel s w := by
  refine WL.of (fun n e m' => ∃ (i : Nat) (s : Rs) (w : Rr) (tv gv : Value), i ≤ l.length ∧ i ≤ 40 ∧ n = l.length - i ∧ e = [(0, lv), (1, mv), (5, pt b), (7, pt p), (8, .int .i64 ((i : Nat) : Int))] ∧ RI m0 m' b q1 q2 s ∧ RE m' p [p, b, q1, q2] w tv gv ∧ RRel s w) l.length
    ⟨0, s0, w0, tv0, gv0, by omega, by omega, by omega, by simp only [go_sem] <;> rfl, h0, hE0, hR0⟩ ?_
  rintro _ _ m1 ⟨i, s, w, tv, gv, hi, hi2, rfl, rfl, h, hE, hR⟩
  have hl1 := hl.keep h.x
  simp only [RB.law28_RosterFork_3, pt, go_sem, hl1.sl.len]
  have s1 := st1 (show i < 1000000 by omega)
  by_cases g1 : i < l.length
  rotate_left
  · have e1 : decide (((i : Nat) : Int) < ((l.length : Nat) : Int)) = false := decide_eq_false (by omega)
    try simp only [go_sem, ruB, e1]
    exact ⟨⟨_, rfl⟩, s, w, ⟨tv, gv, h, hE, hR⟩⟩
  have e1 : decide (((i : Nat) : Int) < ((l.length : Nat) : Int)) = true := decide_eq_true (by omega)
  by_cases g2 : i < 40
  rotate_left
  · have e2 : decide (((i : Nat) : Int) < 40) = false := decide_eq_false (by omega)
    try simp only [go_sem, ruB, e1, e2]
    exact ⟨⟨_, rfl⟩, s, w, ⟨tv, gv, h, hE, hR⟩⟩
  have e2 : decide (((i : Nat) : Int) < 40) = true := decide_eq_true (by omega)
  obtain ⟨bb, oo, a1, a2, -, -⟩ := hl1.sl.elem cmV_len (k := .i64) g1
  have hc := hl.ok _ (List.getElem_mem g1)
  have hlts := h.lts
  have hplt := hE.lt p (by simp)
  have hm0 := h.x.next
  try simp only [go_sem, ruB, e1, e2, a1, a2]
  refine gC.of (Do_spec (c := l[i]) h.v h.w.memOk hc) ?_
  rintro v m2 hp
  have h2 := h.do_ hp
  have hw := h.w
  obtain ⟨rfl, -, hU2⟩ := hp
  have sub : ∀ x ∈ [q1, q2], x ∈ [p, b, q1, q2] := fun x hx => by simp at hx ⊢; omega
  have hE2 := hE.upd hU2 sub (by simp; exact ⟨hp1, hp2⟩)
  obtain ⟨bb3, oo3, c1, c2, -, -⟩ := (hl.keep h2.x).sl.elem cmV_len (k := .i64) g1
  try simp only [go_sem, ruB, hE2.bk.at_, c1, c2]
  refine gC.of (refDo28 (c := l[i]) hE2.rv hR hw) ?_
  rintro v m3 ⟨hx3, tv', gv', w', rfl, hv', hr', ht', hg'⟩
  have ct' := hv'.t.cells
  have cg' := hv'.g.cells
  have hE3 := hE2.keep hx3
  have h3 := h2.keep hx3
  try simp only [go_sem, ruB, aExt0, aExt1, hE3.bk.at_, ↓ct', ↓cg', hv'.t.one, hv'.g.one, s1]
  have f1 := ht'.free hE2.ft hE2.lt
  have f2 := hg'.free hE2.fg hE2.lt
  have E5 := hE3.put (Nat.le_refl _) hv' f1 f2
  have h5 := h3.set (p := p) (o := some (.cells [.int .i64 w'.f, tv', gv'] (some 3))) hp0 hpb hp1 hp2
  exact ⟨l.length - (i + 1), by omega, i + 1, _, w', tv', gv', by omega, by omega, rfl, rfl, h5, E5, hr'⟩

set_option maxHeartbeats 4000000 in
/-- The fork's commands: the first one stays. -/
theorem Fork_l2 {m0 m1 : Mem} {l : List Cm} {lv : Value} (hl : CmsV m0 l lv) {b q1 q2 p b' r1 r2 : Nat} {s : Rs} {s0 : Rs} (h0 : RI m0 m b q1 q2 s) (hx0 : Ext m0 m1) (k0 : RI m1 m b' r1 r2 s0) {w : Rr} {tv gv : Value} (hE0 : RE m p ([b', r1, r2] ++ [p, b, q1, q2]) w tv gv) (hR0 : RRel s0 w) (hlt : p < m1.next ∧ b < m1.next ∧ q1 < m1.next ∧ q2 < m1.next) :
    WL R [1, 5, 7, 9, 10] RB.law28_RosterFork_2 [(1, lv), (5, pt b), (7, pt p), (9, pt b'), (10, .int .i64 0)] m fun y e m' => y = .exit 2 ∧ (∃ rs, e = (1, lv) :: (5, pt b) :: (7, pt p) :: (9, pt b') :: rs) ∧ RI m0 m' b q1 q2 s ∧ RI m1 m' b' r1 r2 ((l.take (min l.length 20)).foldl (fun s c => (doS s c).1) s0) ∧ RE m' p ([b', r1, r2] ++ [p, b, q1, q2]) w tv gv := by
  refine WL.of (fun n e m' => ∃ (i : Nat), i ≤ l.length ∧ i ≤ 20 ∧ n = l.length - i ∧ e = [(1, lv), (5, pt b), (7, pt p), (9, pt b'), (10, .int .i64 ((i : Nat) : Int))] ∧ RI m0 m' b q1 q2 s ∧ RI m1 m' b' r1 r2 ((l.take i).foldl (fun s c => (doS s c).1) s0) ∧ RE m' p ([b', r1, r2] ++ [p, b, q1, q2]) w tv gv) l.length
    ⟨0, by omega, by omega, by omega, by simp only [go_sem] <;> rfl, h0, k0, hE0⟩ ?_
  rintro _ _ m2 ⟨i, hi, hi2, rfl, rfl, h, k, hE⟩
  have hl1 := hl.keep h.x
  simp only [RB.law28_RosterFork_2, pt, go_sem, hl1.sl.len]
  have s1 := st1 (show i < 1000000 by omega)
  by_cases g1 : i < l.length
  rotate_left
  · have e1 : decide (((i : Nat) : Int) < ((l.length : Nat) : Int)) = false := decide_eq_false (by omega)
    have hm : min l.length 20 = i := by omega
    rw [hm]
    try simp only [go_sem, ruB, e1]
    exact ⟨⟨_, rfl⟩, h, k, hE⟩
  have e1 : decide (((i : Nat) : Int) < ((l.length : Nat) : Int)) = true := decide_eq_true (by omega)
  by_cases g2 : i < 20
  rotate_left
  · have e2 : decide (((i : Nat) : Int) < 20) = false := decide_eq_false (by omega)
    have hm : min l.length 20 = i := by omega
    rw [hm]
    try simp only [go_sem, ruB, e1, e2]
    exact ⟨⟨_, rfl⟩, h, k, hE⟩
  have e2 : decide (((i : Nat) : Int) < 20) = true := decide_eq_true (by omega)
  obtain ⟨bb, oo, a1, a2, -, -⟩ := hl1.sl.elem cmV_len (k := .i64) g1
  have hc := hl.ok _ (List.getElem_mem g1)
  have htk : (l.take (i + 1)).foldl (fun s c => (doS s c).1) s0 = (doS ((l.take i).foldl (fun s c => (doS s c).1) s0) l[i]).1 := by rw [List.take_succ_eq_append_getElem g1, List.foldl_append]; rfl
  try simp only [go_sem, ruB, e1, e2, a1, a2]
  refine gC.of (Do_spec (c := l[i]) k.v k.w.memOk hc) ?_
  rintro v m3 hp
  have k2 := k.do_ hp
  obtain ⟨rfl, -, hU⟩ := hp
  have j0 := k.g0; have j1 := k.g1; have j2 := k.g2; have j3 := hx0.next
  have hE2 := hE.upd hU (fun x hx => by simp at hx ⊢; omega) (by simp; omega)
  have h2 := h.upd hU (by simp; omega) (by simp; omega) (by simp; omega) (fun x hx => by simp at hx; omega)
  try simp only [go_sem, ruB, s1]
  exact ⟨l.length - (i + 1), by omega, i + 1, by omega, by omega, rfl, rfl, h2, by rw [htk]; exact k2, hE2⟩

set_option maxHeartbeats 4000000 in
/-- The document's commands alone. -/
theorem Fork_l1 {m0 m1 : Mem} {l : List Cm} {lv : Value} (hl : CmsV m0 l lv) {p b' r1 r2 : Nat} {fp : List Nat} {s s0 : Rs} (hx0 : Ext m0 m) (k0 : RosV m b' r1 r2 s) (hw0 : RsWf s0) {w : Rr} {tv gv : Value} (hE0 : RE m p fp w tv gv) (hR0 : RRel s0 w) (hm1 : m0.next ≤ p) (hd : p ≠ b' ∧ p ≠ r1 ∧ p ≠ r2) :
    WL R [1, 7, 9, 11] RB.law28_RosterFork_1 [(1, lv), (7, pt p), (9, pt b'), (11, .int .i64 0)] m fun y e m' => y = .exit 4 ∧ (∃ rs, e = (1, lv) :: (7, pt p) :: (9, pt b') :: rs) ∧ RosV m' b' r1 r2 s ∧ ∃ w tv gv, RE m' p fp w tv gv ∧ RRel ((l.take (min l.length 20)).foldl (fun s c => (doS s c).1) s0) w := by
  have hwf : ∀ i, RsWf ((l.take i).foldl (fun s c => (doS s c).1) s0) := fun i => by
    generalize l.take i = L
    clear hE0 hR0
    induction L generalizing s0 with
    | nil => exact hw0
    | cons c r ih => exact ih hw0.do_
  refine WL.of (fun n e m' => ∃ (i : Nat) (w : Rr) (tv gv : Value), i ≤ l.length ∧ i ≤ 20 ∧ n = l.length - i ∧ e = [(1, lv), (7, pt p), (9, pt b'), (11, .int .i64 ((i : Nat) : Int))] ∧ Ext m0 m' ∧ RosV m' b' r1 r2 s ∧ RE m' p fp w tv gv ∧ RRel ((l.take i).foldl (fun s c => (doS s c).1) s0) w) l.length
    ⟨0, w, tv, gv, by omega, by omega, by omega, by simp only [go_sem] <;> rfl, hx0, k0, hE0, hR0⟩ ?_
  rintro _ _ m2 ⟨i, w, tv, gv, hi, hi2, rfl, rfl, hX, k, hE, hR⟩
  have hl1 := hl.keep hX
  simp only [RB.law28_RosterFork_1, pt, go_sem, hl1.sl.len]
  have s1 := st1 (show i < 1000000 by omega)
  by_cases g1 : i < l.length
  rotate_left
  · have e1 : decide (((i : Nat) : Int) < ((l.length : Nat) : Int)) = false := decide_eq_false (by omega)
    have hm : min l.length 20 = i := by omega
    rw [hm]
    try simp only [go_sem, ruB, e1]
    exact ⟨⟨_, rfl⟩, k, w, tv, gv, hE, hR⟩
  have e1 : decide (((i : Nat) : Int) < ((l.length : Nat) : Int)) = true := decide_eq_true (by omega)
  by_cases g2 : i < 20
  rotate_left
  · have e2 : decide (((i : Nat) : Int) < 20) = false := decide_eq_false (by omega)
    have hm : min l.length 20 = i := by omega
    rw [hm]
    try simp only [go_sem, ruB, e1, e2]
    exact ⟨⟨_, rfl⟩, k, w, tv, gv, hE, hR⟩
  have e2 : decide (((i : Nat) : Int) < 20) = true := decide_eq_true (by omega)
  obtain ⟨bb, oo, a1, a2, -, -⟩ := hl1.sl.elem cmV_len (k := .i64) g1
  have htk : (l.take (i + 1)).foldl (fun s c => (doS s c).1) s0 = (doS ((l.take i).foldl (fun s c => (doS s c).1) s0) l[i]).1 := by rw [List.take_succ_eq_append_getElem g1, List.foldl_append]; rfl
  try simp only [go_sem, ruB, e1, e2, a1, a2, hE.bk.at_]
  refine gC.of (refDo28 (c := l[i]) hE.rv hR (hwf i)) ?_
  rintro v m3 ⟨hx3, tv', gv', w', rfl, hv', hr', ht', hg'⟩
  have ct' := hv'.t.cells
  have cg' := hv'.g.cells
  have hE3 := hE.keep hx3
  try simp only [go_sem, ruB, aExt0, aExt1, hE3.bk.at_, ↓ct', ↓cg', hv'.t.one, hv'.g.one, s1]
  have f1 := ht'.free hE.ft hE.lt
  have f2 := hg'.free hE.fg hE.lt
  have E5 := hE3.put (Nat.le_refl _) hv' f1 f2
  have hU : Upd m3 (m3.set p (some (.cells [.int .i64 w'.f, tv', gv'] (some 3)))) [p] := Upd.set (by simp)
  have k5 := (k.keep hx3).upd hU (by simp; omega) (by simp; omega) (by simp; omega)
  exact ⟨l.length - (i + 1), by omega, i + 1, w', tv', gv', by omega, by omega, rfl, rfl, (hX.trans hx3).set hm1, k5, E5, by rw [htk]; exact hr'⟩

set_option maxHeartbeats 4000000 in
theorem ForkLaw_spec {l more : List Cm} {lv mv : Value} (hl : CmsV m l lv) (hmo : CmsV m more mv) : WC R F.law28_RosterFork [lv, mv] m fun r m' => r = .bool true := by
  refine WC.of R.law28_RosterFork rfl ?_
  simp only [RC.law28_RosterFork, go_sem]
  refine gC.of (New_spec (f := 16)) ?_
  rintro _ m1 (⟨hn, -⟩ | ⟨k4, k5, b, q1, q2, rfl, hV, k0, k1, k2, hx1⟩)
  · exact absurd ⟨by omega, by omega⟩ hn
  have r1 : RI m m1 b q1 q2 ⟨16, [], []⟩ := ⟨hV, .new ⟨k4, k5⟩, k1, k2, k0, hx1⟩
  simp only [pt]
  try simp only [go_sem, ruB, aExt0, aExt1, ↓kfill_r]
  have hx2 : Ext m1 (m1.new (.cells [.int .i64 16, .slice none 0 0, .slice none 0 0] (some 3))) := Ext.new
  have hb2 : Bk (m1.new (.cells [.int .i64 16, .slice none 0 0, .slice none 0 0] (some 3))) m1.next [.int .i64 16, .slice none 0 0, .slice none 0 0] 3 := Bk.new
  have hn2 : (m1.new (.cells [.int .i64 16, .slice none 0 0, .slice none 0 0] (some 3))).next = m1.next + 1 := rfl
  generalize m1.new (.cells [.int .i64 16, .slice none 0 0, .slice none 0 0] (some 3)) = m2 at hx2 hb2 hn2 ⊢
  have r2 := r1.keep hx2
  have hlt := r1.lts
  have hn1 := hx1.next
  refine WL.mono (Fork_l3 hl r2 (RE.new (fp := [m1.next, b, q1, q2]) hb2 (fun x hx => by simp at hx; omega) (by simp)) .new (by omega) (by omega) (by omega) (by omega)) ?_
  rintro _ _ m3 ⟨rfl, ⟨rs, rfl⟩, s3, w3, tv3, gv3, r3, E3, R3⟩
  have hl3 := r3.lts
  have hp3 := E3.lt m1.next (by simp)
  simp only [pt]
  try simp only [go_sem, ruB]
  refine gC.of (Fork_spec r3.v) ?_
  rintro _ m4 ⟨c, c1, c2, rfl, hc, j0, j1, j2, hx4⟩
  have r4 := r3.keep hx4
  have K4 : RI m3 m4 c c1 c2 s3 := ⟨hc, r3.w, j1, j2, j0, hx4⟩
  have hl4 := K4.lts
  have E4 := E3.fork (fq := [c, c1, c2]) hx4 (fun x hx => by simp at hx; omega)
  simp only [pt]
  try simp only [go_sem, ruB]
  refine WL.mono (Fork_l2 hmo r4 r3.x K4 E4 R3 ⟨hp3, hl3.1, hl3.2.1, hl3.2.2⟩) ?_
  rintro _ _ m5 ⟨rfl, ⟨rs2, rfl⟩, r5, K5, E5⟩
  simp only [pt]
  try simp only [go_sem, ruB, E5.bk.at_]
  refine gC.of (Alike_spec r5.v r5.w E5.rv R3) ?_
  rintro _ m6 ⟨rfl, hx6⟩
  have K6 := K5.keep hx6
  have E6 := E5.keep hx6
  try simp only [go_sem, ruB]
  refine WL.mono (Fork_l1 (m1 := m3) hmo (r5.x.trans hx6) K6.v r3.w E6 R3 (by omega) ⟨by omega, by omega, by omega⟩) ?_
  rintro _ _ m7 ⟨rfl, ⟨rs3, rfl⟩, K7, w7, tv7, gv7, E7, R7⟩
  simp only [pt]
  try simp only [go_sem, ruB, E7.bk.at_]
  refine gC.of (Alike_spec K7 K6.w E7.rv R7) ?_
  rintro _ m8 ⟨rfl, hx8⟩
  try simp only [go_sem, ruB]
  refine gC.of (ok_spec R.law28_awake) ?_
  rintro _ m_ ⟨rfl, hm_⟩
  replace hm_ := hm_.symm
  subst hm_
  simp only [go_sem]
  try simp only [go_sem, ruB]
end Go.Am


/- Commands as they are read. -/
set_option linter.unusedVariables false
namespace Go.Am
theorem cms_read {m : Mem} {v : Value} (h : Rd m (.sl [.int .i64, .int .i64, .int .i64, .int .i64, .int .i64, .int .i64, .int .i64, .int .i64]) v) : ∃ l : List Cm, CmsV m l v := by
  obtain ⟨l, h1, h2, -⟩ := Rd.slice (f := fun c : { c : Cm // cmIn c } => cmV c.1) (fun cs hc => by
    obtain ⟨a, r, rfl, h1, k1⟩ := hc.one
    obtain ⟨b, r, rfl, h2, k2⟩ := k1.one
    obtain ⟨c, r, rfl, h3, k3⟩ := k2.one
    obtain ⟨d, r, rfl, h4, k4⟩ := k3.one
    obtain ⟨e, r, rfl, h5, k5⟩ := k4.one
    obtain ⟨f, r, rfl, h6, k6⟩ := k5.one
    obtain ⟨g, r, rfl, h7, k7⟩ := k6.one
    obtain ⟨i, r, rfl, h8, k8⟩ := k7.one
    cases k8.none
    obtain ⟨x1, rfl, -⟩ := h1.i64
    obtain ⟨x2, rfl, b2⟩ := h2.i64
    obtain ⟨x3, rfl, b3⟩ := h3.i64
    obtain ⟨x4, rfl, -⟩ := h4.i64
    obtain ⟨x5, rfl, -⟩ := h5.i64
    obtain ⟨x6, rfl, -⟩ := h6.i64
    obtain ⟨x7, rfl, -⟩ := h7.i64
    obtain ⟨x8, rfl, -⟩ := h8.i64
    exact ⟨⟨⟨x1, x2, x3, x4, x5, x6, x7, x8⟩, b2, b3⟩, rfl⟩) h
  refine ⟨l.map Subtype.val, ?_, h2, fun c hc => ?_⟩
  · rw [List.length_map, List.flatMap_map]; exact h1
  · obtain ⟨c', -, rfl⟩ := List.mem_map.1 hc; exact c'.2
end Go.Am


/- RosterFork, of arguments as they are read. -/
set_option linter.unusedVariables false
namespace Go.Am
theorem law28_RosterFork_walk (m : Mem) (us : List Value) (h : RdAs m [(false, [.sl [.int .i64, .int .i64, .int .i64, .int .i64, .int .i64, .int .i64, .int .i64, .int .i64]]), (false, [.sl [.int .i64, .int .i64, .int .i64, .int .i64, .int .i64, .int .i64, .int .i64, .int .i64]])] us) : WC R F.law28_RosterFork us m fun v _ => v = .bool true := by
  obtain ⟨_, _, rfl, h1, h⟩ := h.one; obtain ⟨_, _, rfl, h2, h⟩ := h.one; cases h.none
  obtain ⟨l, hl⟩ := cms_read h1.rd
  obtain ⟨more, hm⟩ := cms_read h2.rd
  exact ForkLaw_spec hl hm
end Go.Am
