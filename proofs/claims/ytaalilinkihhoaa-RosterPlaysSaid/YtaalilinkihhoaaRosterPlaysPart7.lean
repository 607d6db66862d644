/- Parts of the proofs of the statements of this seat: RosterX2, RosterX3, RosterX4, RosterCms, WRosterPlays. No conditions. -/
import Derived.Test.YtaalilinkihhoaaRosterPlaysPart6
import Derived.Test.YtaalilinkihhoaaRosterPlaysPart3
set_option linter.unusedVariables false
set_option linter.unusedSimpArgs false

/- RosterFull. -/
set_option linter.unusedVariables false
set_option linter.unusedSimpArgs false
namespace Go.Am
open Classical
variable {m : Mem}

theorem RI.to {m0 m m' : Mem} {b q1 q2 : Nat} {s : Rs} {X : Rs × Int} {r : Value} (h : RI m0 m b q1 q2 s) (hw : RsWf X.1) (hp : Post m b q1 q2 X r m') : RI m0 m' b q1 q2 X.1 :=
  ⟨hp.2.1, hw, h.g1, h.g2, h.g0, hp.2.2.ext_of h.x fun x hx => by
    rcases List.mem_cons.1 hx with rfl | hx
    · exact h.g1
    · rw [List.mem_singleton] at hx; rw [hx]; exact h.g2⟩

end Go.Am


/- A roster and the document's, side by side. -/
set_option linter.unusedVariables false
set_option linter.unusedSimpArgs false
namespace Go.Am
open Classical
variable {m : Mem}

structure RE (m : Mem) (p : Nat) (fp : List Nat) (w : Rr) (tv gv : Value) : Prop where
  rv : RrV m w tv gv
  bk : Bk m p [.int .i64 w.f, tv, gv] 3
  ft : ∀ x ∈ vb tv, x ∉ fp
  fg : ∀ x ∈ vb gv, x ∉ fp
  lt : ∀ x ∈ fp, x < m.next
  pin : p ∈ fp
theorem RrV.upd {m m' : Mem} {w : Rr} {tv gv : Value} {fq : List Nat} (h : RrV m w tv gv) (hx : Upd m m' fq) (h1 : ∀ x ∈ vb tv, x ∉ fq) (h2 : ∀ x ∈ vb gv, x ∉ fq) : RrV m' w tv gv :=
  ⟨h.t.upd h.tl (SlOff.vb_iff.2 h1) hx, h.tl.upd hx, h.g.upd h.gl (SlOff.vb_iff.2 h2) hx, h.gl.upd hx, h.tn, h.gn⟩
theorem RE.keep {m m' : Mem} {p : Nat} {fp : List Nat} {w : Rr} {tv gv : Value} (h : RE m p fp w tv gv) (hx : Ext m m') : RE m' p fp w tv gv :=
  ⟨h.rv.keep hx, h.bk.keep hx, h.ft, h.fg, fun x hm => Nat.lt_of_lt_of_le (h.lt x hm) hx.next, h.pin⟩
theorem RE.upd {m m' : Mem} {p : Nat} {fp fq : List Nat} {w : Rr} {tv gv : Value} (h : RE m p fp w tv gv) (hx : Upd m m' fq) (hs : ∀ x ∈ fq, x ∈ fp) (hp : p ∉ fq) : RE m' p fp w tv gv :=
  ⟨h.rv.upd hx (fun x hx hm => h.ft x hx (hs x hm)) (fun x hx hm => h.fg x hx (hs x hm)), h.bk.upd hx hp, h.ft, h.fg, fun x hm => Nat.lt_of_lt_of_le (h.lt x hm) hx.next, h.pin⟩
theorem New.free {m : Mem} {v v' : Value} (h : New m v v') {fp : List Nat} (hv : ∀ x ∈ vb v, x ∉ fp) (hl : ∀ x ∈ fp, x < m.next) : ∀ x ∈ vb v', x ∉ fp := by
  rcases h with rfl | h
  · exact hv
  · intro x hx hm
    have := h x hx; have := hl x hm; omega
theorem RE.put {m M : Mem} {p : Nat} {fp : List Nat} {w w' : Rr} {tv gv tv' gv' : Value} (h : RE m p fp w tv gv) (hn : m.next ≤ M.next) (k : RrV M w' tv' gv') (f1 : ∀ x ∈ vb tv', x ∉ fp) (f2 : ∀ x ∈ vb gv', x ∉ fp) :
    RE (M.set p (some (.cells [.int .i64 w'.f, tv', gv'] (some 3)))) p fp w' tv' gv' := by
  have hp := h.lt p h.pin
  have hU : Upd M (M.set p (some (.cells [.int .i64 w'.f, tv', gv'] (some 3)))) [p] := Upd.set (by simp)
  refine ⟨k.upd hU (fun x hx hm => ?_) (fun x hx hm => ?_), ⟨by simp [Mem.set], by show p < M.next; omega⟩, f1, f2, fun x hm => Nat.lt_of_lt_of_le (h.lt x hm) hn, h.pin⟩
  · rw [List.mem_singleton] at hm; rw [hm] at hx; exact f1 p hx h.pin
  · rw [List.mem_singleton] at hm; rw [hm] at hx; exact f2 p hx h.pin
theorem RE.fork {m M : Mem} {p : Nat} {fp fq : List Nat} {w : Rr} {tv gv : Value} (h : RE m p fp w tv gv) (hx : Ext m M) (hq : ∀ x ∈ fq, m.next ≤ x ∧ x < M.next) : RE M p (fq ++ fp) w tv gv := by
  have k := h.keep hx
  refine ⟨k.rv, k.bk, fun x hx hm => ?_, fun x hx hm => ?_, fun x hm => ?_, List.mem_append_right _ h.pin⟩
  · rcases List.mem_append.1 hm with hm | hm
    · have := SlLt.vb_iff.1 h.rv.tl x hx; have := hq x hm; omega
    · exact h.ft x hx hm
  · rcases List.mem_append.1 hm with hm | hm
    · have := SlLt.vb_iff.1 h.rv.gl x hx; have := hq x hm; omega
    · exact h.fg x hx hm
  · rcases List.mem_append.1 hm with hm | hm
    · exact (hq x hm).2
    · exact k.lt x hm
theorem RI.set {m0 m : Mem} {b q1 q2 p : Nat} {s : Rs} {o : Option AObj} (h : RI m0 m b q1 q2 s) (hp : m0.next ≤ p) (h0 : p ≠ b) (h1 : p ≠ q1) (h2 : p ≠ q2) : RI m0 (m.set p o) b q1 q2 s := by
  have hU : Upd m (m.set p o) [p] := Upd.set (by simp)
  exact ⟨h.v.upd hU (by simpa using fun e => h0 e.symm) (by simpa using fun e => h1 e.symm) (by simpa using fun e => h2 e.symm), h.w, h.g1, h.g2, h.g0, h.x.set hp⟩
theorem RI.upd {m0 m m' : Mem} {b q1 q2 : Nat} {s : Rs} {fq : List Nat} (h : RI m0 m b q1 q2 s) (hx : Upd m m' fq) (hb : b ∉ fq) (h1 : q1 ∉ fq) (h2 : q2 ∉ fq) (hf : ∀ x ∈ fq, m0.next ≤ x) : RI m0 m' b q1 q2 s :=
  ⟨h.v.upd hx hb h1 h2, h.w, h.g1, h.g2, h.g0, hx.ext_of h.x hf⟩
theorem RRel.new {f : Int} : RRel ⟨f, [], []⟩ ⟨f, [], []⟩ := ⟨rfl, List.Perm.refl _, List.Perm.refl _⟩
theorem RrV.new {f : Int} : RrV m ⟨f, [], []⟩ (.slice none 0 0) (.slice none 0 0) := ⟨.nil rfl rfl, trivial, .nil rfl rfl, trivial, by simp, by simp⟩
theorem RE.new {p : Nat} {fp : List Nat} {f : Int} (hb : Bk m p [.int .i64 f, .slice none 0 0, .slice none 0 0] 3) (hl : ∀ x ∈ fp, x < m.next) (hp : p ∈ fp) : RE m p fp ⟨f, [], []⟩ (.slice none 0 0) (.slice none 0 0) :=
  ⟨.new, hb, fun x hx => by simp [vb] at hx, fun x hx => by simp [vb] at hx, hl, hp⟩
theorem RI.lts {m0 m : Mem} {b q1 q2 : Nat} {s : Rs} (h : RI m0 m b q1 q2 s) : b < m.next ∧ q1 < m.next ∧ q2 < m.next := ⟨h.v.bk.lt, h.v.t.lt, h.v.g.lt⟩
theorem kfill_r {a : Int} : fillL [.int .i64 0, .slice none 0 0, .slice none 0 0] [(0, 1, .int .i64 a)] = some [.int .i64 a, .slice none 0 0, .slice none 0 0] := rfl
theorem kfill_z3 : fillL [.int .i64 0, .int .i64 0, .int .i64 0] [] = some [.int .i64 0, .int .i64 0, .int .i64 0] := rfl
end Go.Am


/- RosterPlays. -/
set_option linter.unusedVariables false
set_option linter.unusedSimpArgs false
namespace Go.Am
open Classical
variable {m : Mem}

theorem New.at_ {m : Mem} {N k : Nat} {v v' : Value} (h : New (m.bump N) v v') (hl : SlLt m v) (hk : k < N) : ∀ x ∈ vb v', x ∉ [m.next + k] := by
  intro x hx hm
  rw [List.mem_singleton] at hm
  rcases h with rfl | h
  · have := SlLt.vb_iff.1 hl x hx; omega
  · have := h x hx; simp only [Mem.bump_next] at this; omega
theorem New.unb {m : Mem} {N : Nat} {v v' : Value} (h : New (m.bump N) v v') : New m v v' := h.imp_right fun h b hb => by have := h b hb; simp only [Mem.bump_next] at this; omega
theorem bne_selfI (a : Int) : (a != a) = false := by rw [bne_eq_false_iff_eq]

set_option maxHeartbeats 8000000 in
theorem Plays_loop {m0 : Mem} {l : List Cm} {lv : Value} (hl : CmsV m0 l lv) {b q1 q2 p : Nat} {s0 : Rs} {id grp : Int} (h0 : RI m0 m b q1 q2 s0) {w0 : Rr} {tv0 gv0 : Value} (hE0 : RE m p [p, b, q1, q2] w0 tv0 gv0) (hR0 : RRel s0 w0) (hp0 : m0.next ≤ p) (hpb : p ≠ b) (hp1 : p ≠ q1) (hp2 : p ≠ q2) :
    WL R [1, 2, 3, 9, 11, 12] RB.law28_RosterPlays_1 [(1, lv), (2, .int .i64 id), (3, .int .i64 grp), (9, pt b), (11, pt p), (12, .int .i64 0)] m fun y e m' => y = .exit 0 := by
  refine WL.of (fun n e m' => ∃ (i : Nat) (s : Rs) (w : Rr) (tv gv : Value), i ≤ l.length ∧ i ≤ 60 ∧ n = l.length - i ∧ e = [(1, lv), (2, .int .i64 id), (3, .int .i64 grp), (9, pt b), (11, pt p), (12, .int .i64 ((i : Nat) : Int))] ∧ RI m0 m' b q1 q2 s ∧ RE m' p [p, b, q1, q2] w tv gv ∧ RRel s w) l.length
    ⟨0, s0, w0, tv0, gv0, by omega, by omega, by omega, by simp only [go_sem] <;> rfl, h0, hE0, hR0⟩ ?_
  rintro _ _ m1 ⟨i, s, w, tv, gv, hi, hi2, rfl, rfl, h, hE, hR⟩
  have hl1 := hl.keep h.x
  simp only [RB.law28_RosterPlays_1, pt, go_sem, hl1.sl.len]
  have s1 := st1 (show i < 1000000 by omega)
  by_cases g1 : i < l.length
  rotate_left
  · have e1 : decide (((i : Nat) : Int) < ((l.length : Nat) : Int)) = false := decide_eq_false (by omega)
    try simp only [go_sem, ruB, e1]
  have e1 : decide (((i : Nat) : Int) < ((l.length : Nat) : Int)) = true := decide_eq_true (by omega)
  by_cases g2 : i < 60
  rotate_left
  · have e2 : decide (((i : Nat) : Int) < 60) = false := decide_eq_false (by omega)
    try simp only [go_sem, ruB, e1, e2]
  have e2 : decide (((i : Nat) : Int) < 60) = true := decide_eq_true (by omega)
  obtain ⟨bb, oo, a1, a2, -, -⟩ := hl1.sl.elem cmV_len (k := .i64) g1
  have hc := hl.ok _ (List.getElem_mem g1)
  have hlts := h.lts
  have hplt := hE.lt p (by simp)
  have hm0 := h.x.next
  try simp only [go_sem, ruB, e1, e2, hE.bk.at_, a1, a2]
  refine gC.of (refDo28 (c := l[i]) (hE.rv.keep (Ext.bump (n := 12))) hR h.w) ?_
  rintro v m2 ⟨hx2, tv', gv', w', rfl, hv', hr', ht', hg'⟩
  have n2 := hx2.next
  simp only [Mem.bump_next] at n2
  have ht2 := ht'.unb
  have hg2 := hg'.unb
  have ct' := hv'.t.cells
  have cg' := hv'.g.cells
  have cz : Value.cells (.slice none 0 0) = #[.slice none 0 0] := rfl
  try simp only [go_sem, ruB, aExt0, aExt1, ↓ct', ↓cg', hv'.t.one, hv'.g.one]
  have hU3 : Upd m2 ((m2.set (m1.next + 9) (some (.cells [.int .i64 0, .slice none 0 0, .slice none 0 0] (some 3)))).set (m1.next + 9) (some (.cells [.int .i64 w'.f, tv', gv'] (some 3)))) [m1.next + 9] := (Upd.set (by simp)).sameF (Upd.set (by simp))
  have hx3 : Ext m1 ((m2.set (m1.next + 9) (some (.cells [.int .i64 0, .slice none 0 0, .slice none 0 0] (some 3)))).set (m1.next + 9) (some (.cells [.int .i64 w'.f, tv', gv'] (some 3)))) := ((Ext.bump.trans hx2).set (by omega)).set (by omega)
  have P3 : Bk ((m2.set (m1.next + 9) (some (.cells [.int .i64 0, .slice none 0 0, .slice none 0 0] (some 3)))).set (m1.next + 9) (some (.cells [.int .i64 w'.f, tv', gv'] (some 3)))) (m1.next + 9) [.int .i64 w'.f, tv', gv'] 3 := ⟨by simp [Mem.set], by show m1.next + 9 < m2.next; omega⟩
  have V3 := hv'.upd hU3 (ht'.at_ hE.rv.tl (by omega)) (hg'.at_ hE.rv.gl (by omega))
  generalize (m2.set (m1.next + 9) (some (.cells [.int .i64 0, .slice none 0 0, .slice none 0 0] (some 3)))).set (m1.next + 9) (some (.cells [.int .i64 w'.f, tv', gv'] (some 3))) = m3 at hx3 P3 V3 ⊢
  have h3 := h.keep hx3
  have hE3 := hE.keep hx3
  obtain ⟨bb3, oo3, c1, c2, -, -⟩ := (hl.keep h3.x).sl.elem cmV_len (k := .i64) g1
  try simp only [go_sem, ruB, c1, c2]
  refine gC.of (Do_spec (c := l[i]) h3.v h3.w.memOk hc) ?_
  rintro v m4 hp
  have h4 := h3.do_ hp
  obtain ⟨rfl, -, hU4⟩ := hp
  have f1 := ht2.free hE.ft hE.lt
  have f2 := hg2.free hE.fg hE.lt
  have sub : ∀ x ∈ [q1, q2], x ∈ [p, b, q1, q2] := fun x hx => by simp at hx ⊢; omega
  have hE4 := hE3.upd hU4 sub (by simp; exact ⟨hp1, hp2⟩)
  have V4 := V3.upd hU4 (fun x hx hm => f1 x hx (sub x hm)) (fun x hx hm => f2 x hx (sub x hm))
  have P4 := P3.upd hU4 (by simp; omega)
  have ef : ((doS s l[i]).2 != (doS s l[i]).2) = false := by rw [bne_eq_false_iff_eq]
  have n4 : m1.next ≤ m4.next := Nat.le_trans hx3.next hU4.next
  try simp only [go_sem, ruB, ef, P4.at_, hE4.bk.at_, ↓ct', ↓cg', hv'.t.one, hv'.g.one]
  have E5 := hE4.put (Nat.le_refl _) V4 f1 f2
  have h5 := h4.set (p := p) (o := some (.cells [.int .i64 w'.f, tv', gv'] (some 3))) hp0 hpb hp1 hp2
  generalize m4.set p (some (.cells [.int .i64 w'.f, tv', gv'] (some 3))) = m5 at E5 h5 ⊢
  generalize (doS s l[i]).1 = t at *
  refine gC.of (Task_spec (id := id) h5.v) ?_
  rintro _ m6 ⟨rfl, hx6⟩
  have h6 := h5.keep hx6
  have E6 := E5.keep hx6
  simp only [tvA, tkV]
  have pn6 := E6.bk.ne
  try simp only [go_sem, ruB, aExt0, aExt1, E6.bk.at_, pn6]
  have hx7 : Ext m6 (m6.new (.cells [.int .i64 ((lkp t.T id).getD zT).id, .int .i64 ((lkp t.T id).getD zT).grp, .int .i64 ((lkp t.T id).getD zT).share, .int .i64 ((lkp t.T id).getD zT).weight, .int .i64 ((lkp t.T id).getD zT).cap, .bool ((lkp t.T id).getD zT).off] (some 6))) := Ext.new
  have hb7 : Bk (m6.new (.cells [.int .i64 ((lkp t.T id).getD zT).id, .int .i64 ((lkp t.T id).getD zT).grp, .int .i64 ((lkp t.T id).getD zT).share, .int .i64 ((lkp t.T id).getD zT).weight, .int .i64 ((lkp t.T id).getD zT).cap, .bool ((lkp t.T id).getD zT).off] (some 6))) m6.next [.int .i64 ((lkp t.T id).getD zT).id, .int .i64 ((lkp t.T id).getD zT).grp, .int .i64 ((lkp t.T id).getD zT).share, .int .i64 ((lkp t.T id).getD zT).weight, .int .i64 ((lkp t.T id).getD zT).cap, .bool ((lkp t.T id).getD zT).off] 6 := Bk.new
  generalize m6.new (.cells [.int .i64 ((lkp t.T id).getD zT).id, .int .i64 ((lkp t.T id).getD zT).grp, .int .i64 ((lkp t.T id).getD zT).share, .int .i64 ((lkp t.T id).getD zT).weight, .int .i64 ((lkp t.T id).getD zT).cap, .bool ((lkp t.T id).getD zT).off] (some 6)) = m7 at hx7 hb7 ⊢
  have h7 := h6.keep hx7
  have E7 := E6.keep hx7
  refine gC.of (refFindT (id := id) E7.rv hr' h7.w) ?_
  rintro _ m8 ⟨hx8, rfl⟩
  have h8 := h7.keep hx8
  have E8 := E7.keep hx8
  simp only [tvA, tkV]
  try simp only [go_sem, ruB, aExt0, aExt1]
  have hx9 : Ext m8 (m8.new (.cells [.int .i64 ((lkp t.T id).getD zT).id, .int .i64 ((lkp t.T id).getD zT).grp, .int .i64 ((lkp t.T id).getD zT).share, .int .i64 ((lkp t.T id).getD zT).weight, .int .i64 ((lkp t.T id).getD zT).cap, .bool ((lkp t.T id).getD zT).off] (some 6))) := Ext.new
  have hb9 : Bk (m8.new (.cells [.int .i64 ((lkp t.T id).getD zT).id, .int .i64 ((lkp t.T id).getD zT).grp, .int .i64 ((lkp t.T id).getD zT).share, .int .i64 ((lkp t.T id).getD zT).weight, .int .i64 ((lkp t.T id).getD zT).cap, .bool ((lkp t.T id).getD zT).off] (some 6))) m8.next [.int .i64 ((lkp t.T id).getD zT).id, .int .i64 ((lkp t.T id).getD zT).grp, .int .i64 ((lkp t.T id).getD zT).share, .int .i64 ((lkp t.T id).getD zT).weight, .int .i64 ((lkp t.T id).getD zT).cap, .bool ((lkp t.T id).getD zT).off] 6 := Bk.new
  generalize m8.new (.cells [.int .i64 ((lkp t.T id).getD zT).id, .int .i64 ((lkp t.T id).getD zT).grp, .int .i64 ((lkp t.T id).getD zT).share, .int .i64 ((lkp t.T id).getD zT).weight, .int .i64 ((lkp t.T id).getD zT).cap, .bool ((lkp t.T id).getD zT).off] (some 6)) = m9 at hx9 hb9 ⊢
  have h9 := h8.keep hx9
  have E9 := E8.keep hx9
  try simp only [go_sem, ruB]
  refine gC.of (Group_spec (id := grp) h9.v) ?_
  rintro _ m10 ⟨rfl, hx10⟩
  have h10 := h9.keep hx10
  have E10 := E9.keep hx10
  simp only [gvA, gpV]
  have pn10 := E10.bk.ne
  try simp only [go_sem, ruB, aExt0, aExt1, E10.bk.at_, pn10]
  have hx11 : Ext m10 (m10.new (.cells [.int .i64 ((lkp t.G grp).getD zG).id, .int .i64 ((lkp t.G grp).getD zG).share, .int .i64 ((lkp t.G grp).getD zG).mem] (some 3))) := Ext.new
  have hb11 : Bk (m10.new (.cells [.int .i64 ((lkp t.G grp).getD zG).id, .int .i64 ((lkp t.G grp).getD zG).share, .int .i64 ((lkp t.G grp).getD zG).mem] (some 3))) m10.next [.int .i64 ((lkp t.G grp).getD zG).id, .int .i64 ((lkp t.G grp).getD zG).share, .int .i64 ((lkp t.G grp).getD zG).mem] 3 := Bk.new
  generalize m10.new (.cells [.int .i64 ((lkp t.G grp).getD zG).id, .int .i64 ((lkp t.G grp).getD zG).share, .int .i64 ((lkp t.G grp).getD zG).mem] (some 3)) = m11 at hx11 hb11 ⊢
  have h11 := h10.keep hx11
  have E11 := E10.keep hx11
  refine gC.of (refGroupR (id := grp) E11.rv hr' h11.w) ?_
  rintro v m12 ⟨hx12, hv⟩
  have h12 := h11.keep hx12
  have E12 := E11.keep hx12
  try simp only [go_sem, ruB, E12.bk.at_]
  refine gC.of (Alike_spec h12.v h12.w E12.rv hr') ?_
  rintro _ m13 ⟨rfl, hx13⟩
  have h13 := h12.keep hx13
  have E13 := E12.keep hx13
  have B7 := ((((((hb7.keep hx8).keep hx9).keep hx10).keep hx11).keep hx12).keep hx13)
  have B9 := ((((hb9.keep hx10).keep hx11).keep hx12).keep hx13)
  have B11 := ((hb11.keep hx12).keep hx13)
  rcases hv with ⟨j, hj, g, hg, -, rfl⟩ | ⟨hg, rfl⟩
  · have e3 : decide ((0 : Int) ≤ ((j : Nat) : Int)) = true := decide_eq_true (by omega)
    rw [hg] at B11 ⊢
    simp only [Option.getD_some, Option.isSome_some] at B11 ⊢
    try simp only [go_sem, ruB, e3, B7.at_, B9.at_, B11.at_, beq_selfB, beq_selfI, bne_selfI, s1]
    exact ⟨l.length - (i + 1), by omega, i + 1, t, w', tv', gv', by omega, by omega, rfl, rfl, h13, E13, hr'⟩
  · have e3 : decide ((0 : Int) ≤ -1) = false := rfl
    rw [hg] at B11 ⊢
    simp only [Option.getD_none, Option.isSome_none, zG] at B11 ⊢
    try simp only [go_sem, ruB, e3, B7.at_, B9.at_, B11.at_, beq_selfB, beq_selfI, bne_selfI, ↓kfill_z3, s1]
    exact ⟨l.length - (i + 1), by omega, i + 1, t, w', tv', gv', by omega, by omega, rfl, rfl, h13, E13, hr'⟩

set_option maxHeartbeats 2000000 in
theorem Plays_spec {l : List Cm} {lv : Value} {f id grp : Int} (hl : CmsV m l lv) : WC R F.law28_RosterPlays [.int .i64 f, lv, .int .i64 id, .int .i64 grp] m fun r m' => r = .bool true := by
  refine WC.of R.law28_RosterPlays rfl ?_
  simp only [RC.law28_RosterPlays, go_sem]
  refine gC.of (New_spec (f := f)) ?_
  rintro _ m1 (⟨hn, rfl, hx1⟩ | ⟨k4, k5, b, q1, q2, rfl, hV, k0, k1, k2, hx1⟩)
  · by_cases g1 : f < 2
    · try simp only [go_sem, ruB, aExt0, aExt1, decide_eq_true g1, Option.isNone_none]
      refine gC.of (ok_spec R.law28_awake) ?_
      rintro _ m_ ⟨rfl, hm_⟩
      replace hm_ := hm_.symm
      subst hm_
      simp only [go_sem]
      try simp only [go_sem, ruB]
    · have g2 : 64 < f := by omega
      try simp only [go_sem, ruB, aExt0, aExt1, decide_eq_false g1, decide_eq_true g2, Option.isNone_none]
      refine gC.of (ok_spec R.law28_awake) ?_
      rintro _ m_ ⟨rfl, hm_⟩
      replace hm_ := hm_.symm
      subst hm_
      simp only [go_sem]
      try simp only [go_sem, ruB]
  · have e1 : decide (f < 2) = false := decide_eq_false (by omega)
    have e2 : decide (64 < f) = false := decide_eq_false (by omega)
    have r1 : RI m m1 b q1 q2 ⟨f, [], []⟩ := ⟨hV, .new ⟨k4, k5⟩, k1, k2, k0, hx1⟩
    simp only [pt]
    try simp only [go_sem, ruB, aExt0, aExt1, e1, e2, ↓kfill_r]
    have hx2 : Ext m1 (m1.new (.cells [.int .i64 f, .slice none 0 0, .slice none 0 0] (some 3))) := Ext.new
    have hb2 : Bk (m1.new (.cells [.int .i64 f, .slice none 0 0, .slice none 0 0] (some 3))) m1.next [.int .i64 f, .slice none 0 0, .slice none 0 0] 3 := Bk.new
    have hn2 : (m1.new (.cells [.int .i64 f, .slice none 0 0, .slice none 0 0] (some 3))).next = m1.next + 1 := rfl
    generalize m1.new (.cells [.int .i64 f, .slice none 0 0, .slice none 0 0] (some 3)) = m2 at hx2 hb2 hn2 ⊢
    have r2 := r1.keep hx2
    have hlt := r1.lts
    have hn1 := hx1.next
    refine WL.mono (Plays_loop hl r2 (RE.new (fp := [m1.next, b, q1, q2]) hb2 (fun x hx => by simp at hx; omega) (by simp)) .new (by omega) (by omega) (by omega) (by omega)) ?_
    rintro _ _ m3 rfl
    try simp only [go_sem, ruB]
    refine gC.of (ok_spec R.law28_awake) ?_
    rintro _ m_ ⟨rfl, hm_⟩
    replace hm_ := hm_.symm
    subst hm_
    simp only [go_sem]
    try simp only [go_sem, ruB]
end Go.Am


/- Commands as they are read. -/
set_option linter.unusedVariables false
namespace Go.Am
theorem cms_read {m : Mem} {v : Value} (h : Rd m (.sl [.int .i64, .int .i64, .int .i64, .int .i64, .int .i64, .int .i64, .int .i64, .int .i64]) v) : ∃ l : List Cm, CmsV m l v := by
  obtain ⟨l, h1, h2, -⟩ := Rd.slice (f := fun c : { c : Cm // cmIn c } => cmV c.1) (fun cs hc => by
    obtain ⟨a, r, rfl, h1, k1⟩ := hc.one
    obtain ⟨b, r, rfl, h2, k2⟩ := k1.one
    obtain ⟨c, r, rfl, h3, k3⟩ := k2.one
    obtain ⟨d, r, rfl, h4, k4⟩ := k3.one
    obtain ⟨e, r, rfl, h5, k5⟩ := k4.one
    obtain ⟨f, r, rfl, h6, k6⟩ := k5.one
    obtain ⟨g, r, rfl, h7, k7⟩ := k6.one
    obtain ⟨i, r, rfl, h8, k8⟩ := k7.one
    cases k8.none
    obtain ⟨x1, rfl, -⟩ := h1.i64
    obtain ⟨x2, rfl, b2⟩ := h2.i64
    obtain ⟨x3, rfl, b3⟩ := h3.i64
    obtain ⟨x4, rfl, -⟩ := h4.i64
    obtain ⟨x5, rfl, -⟩ := h5.i64
    obtain ⟨x6, rfl, -⟩ := h6.i64
    obtain ⟨x7, rfl, -⟩ := h7.i64
    obtain ⟨x8, rfl, -⟩ := h8.i64
    exact ⟨⟨⟨x1, x2, x3, x4, x5, x6, x7, x8⟩, b2, b3⟩, rfl⟩) h
  refine ⟨l.map Subtype.val, ?_, h2, fun c hc => ?_⟩
  · rw [List.length_map, List.flatMap_map]; exact h1
  · obtain ⟨c', -, rfl⟩ := List.mem_map.1 hc; exact c'.2
end Go.Am


/- RosterPlays, of arguments as they are read. -/
set_option linter.unusedVariables false
namespace Go.Am
theorem law28_RosterPlays_walk (m : Mem) (us : List Value) (h : RdAs m [(false, [.int .i64]), (false, [.sl [.int .i64, .int .i64, .int .i64, .int .i64, .int .i64, .int .i64, .int .i64, .int .i64]]), (false, [.int .i64]), (false, [.int .i64])] us) : WC R F.law28_RosterPlays us m fun v _ => v = .bool true := by
  obtain ⟨_, _, rfl, h1, h⟩ := h.one; obtain ⟨_, _, rfl, h2, h⟩ := h.one; obtain ⟨_, _, rfl, h3, h⟩ := h.one; obtain ⟨_, _, rfl, h4, h⟩ := h.one; cases h.none
  obtain ⟨f, rfl, -⟩ := h1.rd.i64
  obtain ⟨l, hl⟩ := cms_read h2.rd
  obtain ⟨id, rfl, -⟩ := h3.rd.i64
  obtain ⟨grp, rfl, -⟩ := h4.rd.i64
  exact Plays_spec hl
end Go.Am
