/- Parts of the proofs of the statements of this seat: LedgerzM3, LedgerzM4, WLedgerPlays. No conditions. -/
import Derived.Test.YtapnnihajniakaaGreatLedgerPlaysPart7
set_option linter.unusedVariables false
set_option linter.unusedSimpArgs false

/- Ledgers: a ledger and the document's, alike; forks. -/
set_option linter.unusedVariables false
set_option linter.unusedSimpArgs false
namespace Go.Am
open Classical
variable {m : Mem}

theorem Clock_spec {a b q1 q2 c cl : Nat} {l : Ld} (h : LdV m a b q1 q2 c cl l) : WC R F.ledger_Ledger_Clock [pt a] m fun r m' => r = .int .i64 l.clk ∧ m' = m := by
  refine WC.of R.ledger_Ledger_Clock rfl ?_
  simp only [RC.ledger_Ledger_Clock, pt, go_sem]
  refine gC.of (ldnone_spec h) ?_
  rintro _ _ ⟨rfl, hm⟩
  replace hm := hm.symm
  subst hm
  try simp only [go_sem, ruB, h.bk.at_]

set_option maxHeartbeats 2000000 in
theorem Alike29_loop {d dl q : Nat} {L : List Int} {w : Rr} {tv gv cv : Value} {k : Cf} {clk : Int} (hC : Co.CS m d dl L) (h : LrV m w L tv gv cv) (hl : L.length ≤ 16) (hb : Bk m q [.int .i64 k.fr, .int .i64 k.co, .int .i64 k.bu, .int .i64 k.re, .int .i64 w.f, tv, gv, cv, .int .i64 clk] 9) :
    WL R [3, 5, 6] RB.law29_Alike_1 [(3, pt q), (5, pt d), (6, .int .i64 0)] m fun y e m' => y = .exit 0 ∧ m' = m := by
  refine WL.of (fun n e m' => ∃ i : Nat, i ≤ L.length ∧ n = L.length - i ∧ e = [(3, pt q), (5, pt d), (6, .int .i64 ((i : Nat) : Int))] ∧ m' = m) L.length
    ⟨0, by omega, by omega, by simp only [go_sem] <;> rfl, rfl⟩ ?_
  rintro _ _ _ ⟨i, hi, rfl, rfl, rfl⟩
  simp only [RB.law29_Alike_1, pt, go_sem]
  have s1 := st1 (show i < 1000000 by omega)
  try simp only [go_sem, ruB, hb.at_, h.c.len]
  by_cases g : i < L.length
  · have e1 : decide (((i : Nat) : Int) < ((L.length : Nat) : Int)) = true := decide_eq_true (by omega)
    try simp only [go_sem, ruB, e1]
    refine gC.of (Co.State_spec hC) ?_
    rintro _ _ ⟨⟨j, hj, hji, rfl⟩ | ⟨hn, -⟩, hm⟩
    rotate_left
    · exfalso; omega
    replace hm := hm.symm
    subst hm
    have hij : j = i := by omega
    subst hij
    obtain ⟨p, a1, a2⟩ := h.c.get (k := .i64) (i := j) hj
    rw [Co.intsZ_get' hj] at a2
    have e2 : (L[j] != L[j]) = false := by rw [bne_eq_false_iff_eq]
    try simp only [go_sem, ruB, aExt0, aExt1, hb.at_, a1, a2, e2, s1]
    exact ⟨L.length - (j + 1), by omega, j + 1, by omega, rfl, rfl⟩
  · have e1 : decide (((i : Nat) : Int) < ((L.length : Nat) : Int)) = false := decide_eq_false (by omega)
    try simp only [go_sem, ruB, e1]

set_option maxHeartbeats 4000000 in
theorem Alike29_spec {a b q1 q2 c cl : Nat} {l : Ld} {w : Rr} {tv gv cv : Value} (hv : LdV m a b q1 q2 c cl l) (h : LrV m w l.L tv gv cv) (r : RRel l.s w) : WC R F.law29_Alike [pt a, lrA l.c w.f tv gv cv l.clk] m fun v m' => v = .bool true ∧ Ext m m' := by
  refine WC.of R.law29_Alike rfl ?_
  have ct := h.r.t.cells
  have cg := h.r.g.cells
  have cc := h.c.cells
  have hw := hv.w
  generalize hk : l.c = k
  generalize hclk : l.clk = clk
  simp only [RC.law29_Alike, pt, go_sem, h.r.t.one, h.r.g.one, h.c.one]
  have hx1 : Ext m (m.new (.cells [.int .i64 k.fr, .int .i64 k.co, .int .i64 k.bu, .int .i64 k.re, .int .i64 w.f, tv, gv, cv, .int .i64 clk] (some 9))) := Ext.new
  have hb1 : Bk (m.new (.cells [.int .i64 k.fr, .int .i64 k.co, .int .i64 k.bu, .int .i64 k.re, .int .i64 w.f, tv, gv, cv, .int .i64 clk] (some 9))) m.next [.int .i64 k.fr, .int .i64 k.co, .int .i64 k.bu, .int .i64 k.re, .int .i64 w.f, tv, gv, cv, .int .i64 clk] 9 := Bk.new
  have hn1 : (m.new (.cells [.int .i64 k.fr, .int .i64 k.co, .int .i64 k.bu, .int .i64 k.re, .int .i64 w.f, tv, gv, cv, .int .i64 clk] (some 9))).next = m.next + 1 := rfl
  generalize m.new (.cells [.int .i64 k.fr, .int .i64 k.co, .int .i64 k.bu, .int .i64 k.re, .int .i64 w.f, tv, gv, cv, .int .i64 clk] (some 9)) = m1 at hx1 hb1 hn1 ⊢
  refine gC.of (Cores_spec (hv.keep hx1)) ?_
  rintro _ m2 ⟨d, dl, rfl, hC, i1, i2, hx2⟩
  have hx02 := hx1.trans hx2
  have b12 := hb1.keep hx2
  have v2 := hv.keep hx02
  have h2 := h.keep hx02
  simp only [pt]
  try simp only [go_sem, ruB, b12.at_]
  refine gC.of (Clock_spec v2) ?_
  rintro _ _ ⟨rfl, hm⟩
  replace hm := hm.symm
  subst hm
  have e1 : (clk != clk) = false := by rw [bne_eq_false_iff_eq]
  rw [hclk]
  try simp only [go_sem, ruB, b12.at_, watch_one, watch_nil, blk_ptr, e1]
  refine gC.of (Free_spec v2) ?_
  rintro _ m3 ⟨rfl, hx3⟩
  have b13 := b12.keep hx3
  have h3 := h2.keep hx3
  have q3 : m3.blk m.next = m2.blk m.next := hx3.same _ b12.lt
  have hcf := hw.c
  rw [hk] at hcf
  try simp only [go_sem, ruB, b13.at_, watch_one, watch_nil, blk_ptr, q3, h.r.t.one, h.r.g.one, h.c.one, ↓ct, ↓cg, ↓cc]
  refine ⟨b12.at_.symm, gC.of (refFree29 (k := k) (clk := clk) h3 r hw.s hcf hw.l16) ?_⟩
  rintro _ m4 ⟨rfl, hx4⟩
  have hx24 := hx3.trans hx4
  have b14 := b13.keep hx4
  have h4 := h3.keep hx4
  have q4 : m4.blk m.next = m3.blk m.next := hx4.same _ b13.lt
  have e2 : (freeL l != k.fr * onlI l.L - shSumR (unitsR l.s)) = false := by rw [bne_eq_false_iff_eq, ← hk]; rfl
  try simp only [go_sem, ruB, watch_one, watch_nil, blk_ptr, q4, e2, b13.at_, b14.at_, h.r.t.one, h.r.g.one]
  refine gC.of (Roster_spec (v2.keep hx24)) ?_
  rintro _ m5 ⟨x, r1, r2, rfl, hV, -, -, -, hx5⟩
  have hx25 := hx24.trans hx5
  have b15 := b14.keep hx5
  have h5 := h4.keep hx5
  have q5 : m5.blk m.next = m4.blk m.next := hx5.same _ b14.lt
  simp only [pt]
  try simp only [go_sem, ruB, b15.at_, watch_one, watch_nil, blk_ptr, q5, h.r.t.one, h.r.g.one]
  refine ⟨b14.at_.symm, gC.of (Alike_spec hV hw.s h5.r r) ?_⟩
  rintro _ m6 ⟨rfl, hx6⟩
  have hx26 := hx25.trans hx6
  have b16 := b15.keep hx6
  have h6 := h5.keep hx6
  have C6 := Co.CS.keep hC hx26
  have k6 := h6.c.len
  have q6 : m6.blk m.next = m5.blk m.next := hx6.same _ b15.lt
  try simp only [go_sem, ruB, watch_one, watch_nil, blk_ptr, q6, b15.at_, b16.at_, k6]
  refine gC.of (Co.Len_spec C6) ?_
  rintro _ _ ⟨rfl, hm⟩
  replace hm := hm.symm
  subst hm
  have e3 : ((((l.L.length : Nat) : Int)) != ((l.L.length : Nat) : Int)) = false := by rw [bne_eq_false_iff_eq]
  try simp only [go_sem, ruB, b16.at_, watch_one, watch_nil, blk_ptr, h6.c.len, e3]
  refine WL.mono (Alike29_loop C6 h6 hw.l16 b16) ?_
  rintro _ _ _ ⟨rfl, hm⟩
  replace hm := hm.symm
  subst hm
  try simp only [go_sem, ruB]
  exact hx02.trans hx26

end Go.Am


/- LedgerPlays. -/
set_option linter.unusedVariables false
set_option linter.unusedSimpArgs false
namespace Go.Am
open Classical
variable {m : Mem}

/-- The document's ledger in its cell. -/
structure LE (m : Mem) (p : Nat) (fp : List Nat) (k : Cf) (w : Rr) (L : List Int) (tv gv cv : Value) (clk : Int) : Prop where
  v : LrV m w L tv gv cv
  bk : Bk m p [.int .i64 k.fr, .int .i64 k.co, .int .i64 k.bu, .int .i64 k.re, .int .i64 w.f, tv, gv, cv, .int .i64 clk] 9
  ft : ∀ x ∈ vb tv, x ∉ fp
  fg : ∀ x ∈ vb gv, x ∉ fp
  fc : ∀ x ∈ vb cv, x ∉ fp
  lt : ∀ x ∈ fp, x < m.next
  pin : p ∈ fp
theorem LE.keep {m m' : Mem} {p : Nat} {fp : List Nat} {k : Cf} {w : Rr} {L : List Int} {tv gv cv : Value} {clk : Int} (h : LE m p fp k w L tv gv cv clk) (hx : Ext m m') : LE m' p fp k w L tv gv cv clk :=
  ⟨h.v.keep hx, h.bk.keep hx, h.ft, h.fg, h.fc, fun x hm => Nat.lt_of_lt_of_le (h.lt x hm) hx.next, h.pin⟩
theorem LE.upd {m m' : Mem} {p : Nat} {fp fq : List Nat} {k : Cf} {w : Rr} {L : List Int} {tv gv cv : Value} {clk : Int} (h : LE m p fp k w L tv gv cv clk) (hx : Upd m m' fq) (hs : ∀ x ∈ fq, x ∈ fp) (hp : p ∉ fq) : LE m' p fp k w L tv gv cv clk :=
  ⟨h.v.upd hx (fun x hx hm => h.ft x hx (hs x hm)) (fun x hx hm => h.fg x hx (hs x hm)) (fun x hx hm => h.fc x hx (hs x hm)), h.bk.upd hx hp, h.ft, h.fg, h.fc, fun x hm => Nat.lt_of_lt_of_le (h.lt x hm) hx.next, h.pin⟩
/-- Other blocks are kept off, too: new ones. -/
theorem LE.more {m m' : Mem} {p : Nat} {fp fq : List Nat} {k : Cf} {w : Rr} {L : List Int} {tv gv cv : Value} {clk : Int} (h : LE m p fp k w L tv gv cv clk) (hx : Ext m m') (hq : ∀ x ∈ fq, x ∈ fp ∨ (m.next ≤ x ∧ x < m'.next)) (hp : p ∈ fq) : LE m' p fq k w L tv gv cv clk := by
  have K := h.keep hx
  have t := SlLt.vb_iff.1 h.v.r.tl
  have g := SlLt.vb_iff.1 h.v.r.gl
  have c := SlLt.vb_iff.1 h.v.cl
  refine ⟨K.v, K.bk, fun x hx hm => ?_, fun x hx hm => ?_, fun x hx hm => ?_, fun x hm => ?_, hp⟩
  · rcases hq x hm with j | j
    · exact h.ft x hx j
    · have := t x hx; omega
  · rcases hq x hm with j | j
    · exact h.fg x hx j
    · have := g x hx; omega
  · rcases hq x hm with j | j
    · exact h.fc x hx j
    · have := c x hx; omega
  · rcases hq x hm with j | j
    · exact K.lt x j
    · exact j.2
theorem LE.put {m M : Mem} {p : Nat} {fp : List Nat} {k : Cf} {w w' : Rr} {L L' : List Int} {tv gv cv tv' gv' cv' : Value} {clk clk' : Int} (h : LE m p fp k w L tv gv cv clk) (hn : m.next ≤ M.next) (q : LrV M w' L' tv' gv' cv') (f1 : ∀ x ∈ vb tv', x ∉ fp) (f2 : ∀ x ∈ vb gv', x ∉ fp) (f3 : ∀ x ∈ vb cv', x ∉ fp) :
    LE (M.set p (some (.cells [.int .i64 k.fr, .int .i64 k.co, .int .i64 k.bu, .int .i64 k.re, .int .i64 w'.f, tv', gv', cv', .int .i64 clk'] (some 9)))) p fp k w' L' tv' gv' cv' clk' := by
  have hp := h.lt p h.pin
  have hU : Upd M (M.set p (some (.cells [.int .i64 k.fr, .int .i64 k.co, .int .i64 k.bu, .int .i64 k.re, .int .i64 w'.f, tv', gv', cv', .int .i64 clk'] (some 9)))) [p] := Upd.set (by simp)
  refine ⟨q.upd hU (fun x hx hm => ?_) (fun x hx hm => ?_) (fun x hx hm => ?_), ⟨by simp [Mem.set], by show p < M.next; omega⟩, f1, f2, f3, fun x hm => Nat.lt_of_lt_of_le (h.lt x hm) hn, h.pin⟩
  · rw [List.mem_singleton] at hm; rw [hm] at hx; exact f1 p hx h.pin
  · rw [List.mem_singleton] at hm; rw [hm] at hx; exact f2 p hx h.pin
  · rw [List.mem_singleton] at hm; rw [hm] at hx; exact f3 p hx h.pin
theorem LI.set {m0 m : Mem} {a b q1 q2 c cl p : Nat} {l : Ld} {o : Option AObj} (h : LI m0 m a b q1 q2 c cl l) (hp : m0.next ≤ p) (hn : p ∉ [a, b, q1, q2, c, cl]) : LI m0 (m.set p o) a b q1 q2 c cl l := by
  have hU : Upd m (m.set p o) [p] := Upd.set (by simp)
  exact ⟨h.v.updq hU (fun x hx hm => by rw [List.mem_singleton] at hm; exact hn (hm ▸ hx)), h.own, h.x.set hp⟩
theorem NewW.unb {m : Mem} {N : Nat} {v v' : Value} (h : NewW (m.bump N) v v') : NewW m v v' := h.weak (by simp only [Mem.bump_next]; omega)
theorem LdV.wf {a b q1 q2 c cl : Nat} {l : Ld} (h : LdV m a b q1 q2 c cl l) : LdWf l := h.w

set_option maxHeartbeats 8000000 in
theorem Plays_loop {m0 : Mem} {l : List Cm} {lv : Value} (hl : CmsV m0 l lv) {m9 : Mem} (hx9 : Ext m0 m9) {k : Cf} {p a b q1 q2 c cl : Nat} {d0 : Ld} (h0 : LI m9 m a b q1 q2 c cl d0) {w0 : Rr} {tv0 gv0 cv0 : Value} (hE0 : LE m p [p, a, b, q1, q2, c, cl] k w0 d0.L tv0 gv0 cv0 d0.clk) (hR0 : RRel d0.s w0) (hk : d0.c = k) (hclk : d0.clk = 0) (hp9 : m9.next ≤ p) (hpn : p ∉ [a, b, q1, q2, c, cl]) :
    WL R [1, 5, 7, 8] RB.law29_LedgerPlays_1 [(1, lv), (5, pt a), (7, pt p), (8, .int .i64 0)] m fun y e m' => y = .exit 0 := by
  refine WL.of (fun n e m' => ∃ (i : Nat) (d : Ld) (b q1 q2 c cl : Nat) (w : Rr) (tv gv cv : Value), i ≤ l.length ∧ i ≤ 40 ∧ n = l.length - i ∧ e = [(1, lv), (5, pt a), (7, pt p), (8, .int .i64 ((i : Nat) : Int))] ∧ LI m9 m' a b q1 q2 c cl d ∧ LE m' p [p, a, b, q1, q2, c, cl] k w d.L tv gv cv d.clk ∧ RRel d.s w ∧ d.c = k ∧ 0 ≤ d.clk ∧ d.clk ≤ 1024 * i ∧ p ∉ [a, b, q1, q2, c, cl]) l.length
    ⟨0, d0, b, q1, q2, c, cl, w0, tv0, gv0, cv0, by omega, by omega, by omega, by simp only [go_sem] <;> rfl, h0, hE0, hR0, hk, by omega, by omega, hpn⟩ ?_
  rintro _ _ m1 ⟨i, d, b, q1, q2, c, cl, w, tv, gv, cv, hi, hi2, rfl, rfl, h, hE, hR, hk, hc1, hc2, hpn⟩
  have hl1 := (hl.keep hx9).keep h.x
  simp only [RB.law29_LedgerPlays_1, pt, go_sem, hl1.sl.len]
  have s1 := st1 (show i < 1000000 by omega)
  by_cases g1 : i < l.length
  rotate_left
  · have e1 : decide (((i : Nat) : Int) < ((l.length : Nat) : Int)) = false := decide_eq_false (by omega)
    try simp only [go_sem, ruB, e1]
  have e1 : decide (((i : Nat) : Int) < ((l.length : Nat) : Int)) = true := decide_eq_true (by omega)
  by_cases g2 : i < 40
  rotate_left
  · have e2 : decide (((i : Nat) : Int) < 40) = false := decide_eq_false (by omega)
    try simp only [go_sem, ruB, e1, e2]
  have e2 : decide (((i : Nat) : Int) < 40) = true := decide_eq_true (by omega)
  obtain ⟨bb, oo, a1, a2, -, -⟩ := hl1.sl.elem cmV_len (k := .i64) g1
  have hc := hl.ok _ (List.getElem_mem g1)
  have hplt := hE.lt p (by simp)
  have hm0 := h.x.next
  have hwf := h.v.w
  try simp only [go_sem, ruB, e1, e2, hE.bk.at_, a1, a2, hE.v.r.t.one, hE.v.r.g.one, hE.v.c.one]
  refine gC.of (refDo29 (c := l[i]) hk (hE.v.keep (Ext.bump (n := 12))) hR hwf ⟨hc1, by omega⟩) ?_
  rintro v m2 ⟨tv', gv', cv', w', rfl, hv', hr', ht', hg', hcn', hx2⟩
  have n2 := hx2.next
  simp only [Mem.bump_next] at n2
  have ht2 := ht'.unb
  have hg2 := hg'.unb
  have hc2' := hcn'.unb
  have ct' := hv'.r.t.cells
  have cg' := hv'.r.g.cells
  have cc' := hv'.c.cells
  try simp only [go_sem, ruB, aExt0, aExt1, ↓ct', ↓cg', ↓cc', hv'.r.t.one, hv'.r.g.one, hv'.c.one]
  have hU3 : Upd m2 ((m2.set (m1.next + 9) (some (.cells [.int .i64 0, .int .i64 0, .int .i64 0, .int .i64 0, .int .i64 0, .slice none 0 0, .slice none 0 0, .slice none 0 0, .int .i64 0] (some 9)))).set (m1.next + 9) (some (.cells [.int .i64 k.fr, .int .i64 k.co, .int .i64 k.bu, .int .i64 k.re, .int .i64 w'.f, tv', gv', cv', .int .i64 (doL d l[i]).1.clk] (some 9)))) [m1.next + 9] := (Upd.set (by simp)).sameF (Upd.set (by simp))
  have hx3 : Ext m1 ((m2.set (m1.next + 9) (some (.cells [.int .i64 0, .int .i64 0, .int .i64 0, .int .i64 0, .int .i64 0, .slice none 0 0, .slice none 0 0, .slice none 0 0, .int .i64 0] (some 9)))).set (m1.next + 9) (some (.cells [.int .i64 k.fr, .int .i64 k.co, .int .i64 k.bu, .int .i64 k.re, .int .i64 w'.f, tv', gv', cv', .int .i64 (doL d l[i]).1.clk] (some 9)))) := ((Ext.bump.trans hx2).set (by omega)).set (by omega)
  have P3 : Bk ((m2.set (m1.next + 9) (some (.cells [.int .i64 0, .int .i64 0, .int .i64 0, .int .i64 0, .int .i64 0, .slice none 0 0, .slice none 0 0, .slice none 0 0, .int .i64 0] (some 9)))).set (m1.next + 9) (some (.cells [.int .i64 k.fr, .int .i64 k.co, .int .i64 k.bu, .int .i64 k.re, .int .i64 w'.f, tv', gv', cv', .int .i64 (doL d l[i]).1.clk] (some 9)))) (m1.next + 9) [.int .i64 k.fr, .int .i64 k.co, .int .i64 k.bu, .int .i64 k.re, .int .i64 w'.f, tv', gv', cv', .int .i64 (doL d l[i]).1.clk] 9 := ⟨by simp [Mem.set], by show m1.next + 9 < m2.next; omega⟩
  have oft := SlLt.vb_iff.1 hE.v.r.tl
  have ofg := SlLt.vb_iff.1 hE.v.r.gl
  have ofc := SlLt.vb_iff.1 hE.v.cl
  have V3 := hv'.upd hU3 (ht'.off_ (fun x hx => by have := oft x hx; omega) (by simp only [Mem.bump_next]; omega)) (hg'.off_ (fun x hx => by have := ofg x hx; omega) (by simp only [Mem.bump_next]; omega)) (hcn'.off_ (fun x hx => by have := ofc x hx; omega) (by simp only [Mem.bump_next]; omega))
  generalize (m2.set (m1.next + 9) (some (.cells [.int .i64 0, .int .i64 0, .int .i64 0, .int .i64 0, .int .i64 0, .slice none 0 0, .slice none 0 0, .slice none 0 0, .int .i64 0] (some 9)))).set (m1.next + 9) (some (.cells [.int .i64 k.fr, .int .i64 k.co, .int .i64 k.bu, .int .i64 k.re, .int .i64 w'.f, tv', gv', cv', .int .i64 (doL d l[i]).1.clk] (some 9))) = m3 at hx3 P3 V3 ⊢
  have h3 := h.keep hx3
  have hE3 := hE.keep hx3
  obtain ⟨bb3, oo3, c1, c2, -, -⟩ := ((hl.keep hx9).keep h3.x).sl.elem cmV_len (k := .i64) g1
  try simp only [go_sem, ruB, c1, c2]
  refine gC.of (DoL_spec (k := l[i]) h3.v ⟨hc1, by omega⟩ hc) ?_
  rintro v m4 ⟨rfl, hU4, b', q1', q2', c', cl', hV4, ho4⟩
  have hE4' := hU4.ext_of h3.x h3.own
  have n3 := hx3.next
  have n4 := hU4.next
  have f1 := ht2.free hE.ft hE.lt
  have f2 := hg2.free hE.fg hE.lt
  have f3 := hc2'.free hE.fc hE.lt
  have sub : ∀ x ∈ [a, b, q1, q2, c, cl], x ∈ [p, a, b, q1, q2, c, cl] := fun x hx => List.mem_cons_of_mem _ hx
  have hE4 := hE3.upd hU4 sub hpn
  have V4 := V3.upd hU4 (fun x hx hm => f1 x hx (sub x hm)) (fun x hx hm => f2 x hx (sub x hm)) (fun x hx hm => f3 x hx (sub x hm))
  have hoff : m1.next + 9 ∉ [a, b, q1, q2, c, cl] := fun hm => by have := hE.lt _ (sub _ hm); omega
  have P4 := P3.upd hU4 hoff
  have h4 : LI m9 m4 a b' q1' q2' c' cl' (doL d l[i]).1 := ⟨hV4, fun x hx => by
    rcases List.mem_cons.1 hx with rfl | hx
    · exact h.own _ (by simp)
    · rcases ho4 x hx with j | j
      · exact h.own x (List.mem_cons_of_mem _ j)
      · omega, hE4'⟩
  have hE5 := hE4
  have hp1 : p < m1.next := hplt
  have hpn' : p ∉ [a, b', q1', q2', c', cl'] := fun hm => by
    rcases List.mem_cons.1 hm with e | hm
    · exact hpn (by rw [e]; simp)
    · rcases ho4 _ hm with j | j
      · exact hpn (List.mem_cons_of_mem _ j)
      · omega
  have hk2 : (doL d l[i]).1.c = k := doL_c.trans hk
  have hclk2 := doL_clk (l := d) (c := l[i]) hc1
  have ef : ((doL d l[i]).2 != (doL d l[i]).2) = false := by rw [bne_eq_false_iff_eq]
  -- what is new is off the new blocks of the ledger, too
  have hlt4 := hV4.ltm
  have V4t := SlLt.vb_iff.1 V3.r.tl
  have V4g := SlLt.vb_iff.1 V3.r.gl
  have V4c := SlLt.vb_iff.1 V3.cl
  have F1 : ∀ x ∈ vb tv', x ∉ [p, a, b', q1', q2', c', cl'] := fun x hx hm => by
    have hx' := V4t x hx
    rcases List.mem_cons.1 hm with e | hm
    · exact f1 x hx (by rw [e]; simp)
    rcases List.mem_cons.1 hm with e | hm
    · exact f1 x hx (by rw [e]; simp)
    rcases ho4 x hm with j | j
    · exact f1 x hx (List.mem_cons_of_mem _ (List.mem_cons_of_mem _ j))
    · omega
  have F2 : ∀ x ∈ vb gv', x ∉ [p, a, b', q1', q2', c', cl'] := fun x hx hm => by
    have hx' := V4g x hx
    rcases List.mem_cons.1 hm with e | hm
    · exact f2 x hx (by rw [e]; simp)
    rcases List.mem_cons.1 hm with e | hm
    · exact f2 x hx (by rw [e]; simp)
    rcases ho4 x hm with j | j
    · exact f2 x hx (List.mem_cons_of_mem _ (List.mem_cons_of_mem _ j))
    · omega
  have F3 : ∀ x ∈ vb cv', x ∉ [p, a, b', q1', q2', c', cl'] := fun x hx hm => by
    have hx' := V4c x hx
    rcases List.mem_cons.1 hm with e | hm
    · exact f3 x hx (by rw [e]; simp)
    rcases List.mem_cons.1 hm with e | hm
    · exact f3 x hx (by rw [e]; simp)
    rcases ho4 x hm with j | j
    · exact f3 x hx (List.mem_cons_of_mem _ (List.mem_cons_of_mem _ j))
    · omega
  generalize (doL d l[i]).1 = t at *
  subst hk2
  try simp only [go_sem, ruB, ef, P4.at_, ↓ct', ↓cg', ↓cc', hv'.r.t.one, hv'.r.g.one, hv'.c.one]
  refine gC.of (Alike29_spec h4.v V4 hr') ?_
  rintro _ m5 ⟨rfl, hx5⟩
  have h5 := h4.keep hx5
  have P5 := P4.keep hx5
  have hpb : p < m5.next := by have := hx5.next; omega
  have hE5 := hE4.bk.keep hx5
  have V5 := V4.keep hx5
  try simp only [go_sem, ruB, P5.at_, hE5.at_, ↓ct', ↓cg', ↓cc', hv'.r.t.one, hv'.r.g.one, hv'.c.one, s1]
  have hlt5 := h5.v.ltm
  have hUp : Upd m5 (m5.set p (some (.cells [.int .i64 t.c.fr, .int .i64 t.c.co, .int .i64 t.c.bu, .int .i64 t.c.re, .int .i64 w'.f, tv', gv', cv', .int .i64 t.clk] (some 9)))) [p] := Upd.set (by simp)
  refine ⟨l.length - (i + 1), by omega, i + 1, t, b', q1', q2', c', cl', w', tv', gv', cv', by omega, by omega, rfl, rfl, h5.set (by omega) hpn', ?_, hr', rfl, hclk2.1, by omega, hpn'⟩
  refine ⟨V5.upd hUp (fun x hx hm => F1 x hx ?_) (fun x hx hm => F2 x hx ?_) (fun x hx hm => F3 x hx ?_), ⟨by simp [Mem.set], hpb⟩, F1, F2, F3, fun x hm => ?_, by simp⟩
  · rw [List.mem_singleton] at hm; rw [hm]; simp
  · rw [List.mem_singleton] at hm; rw [hm]; simp
  · rw [List.mem_singleton] at hm; rw [hm]; simp
  · show x < m5.next
    rcases List.mem_cons.1 hm with rfl | hm
    · exact hpb
    · exact hlt5 x hm

set_option maxHeartbeats 4000000 in
theorem PlaysLaw_spec {l : List Cm} {lv : Value} {k : Cf} (hl : CmsV m l lv) : WC R F.law29_LedgerPlays [.agg (cfV k).toArray, lv] m fun r m' => r = .bool true := by
  refine WC.of R.law29_LedgerPlays rfl ?_
  simp only [RC.law29_LedgerPlays, cfV, go_sem]
  have hx1 : Ext m (m.new (.cells [.int .i64 k.fr, .int .i64 k.co, .int .i64 k.bu, .int .i64 k.re] (some 4))) := Ext.new
  have hb1 : Bk (m.new (.cells [.int .i64 k.fr, .int .i64 k.co, .int .i64 k.bu, .int .i64 k.re] (some 4))) m.next [.int .i64 k.fr, .int .i64 k.co, .int .i64 k.bu, .int .i64 k.re] 4 := Bk.new
  generalize m.new (.cells [.int .i64 k.fr, .int .i64 k.co, .int .i64 k.bu, .int .i64 k.re] (some 4)) = m1 at hx1 hb1 ⊢
  try simp only [go_sem, ruB, hb1.at_]
  refine gC.of (NewL_spec (k := k)) ?_
  rintro _ m2 ⟨hx2, ⟨hn, rfl⟩ | ⟨hok, a, b, q1, q2, c, cl, n, rfl, hn, hV, ho⟩⟩
  · have hb2 := hb1.keep hx2
    have e0 : ((1 : Int) == 0) = false := rfl
    have e1 : ((1 : Int) == 1) = true := rfl
    have e2 : ((1 : Int) != 1) = false := rfl
    have e3 : (false == false) = true := rfl
    try simp only [go_sem, ruB, aExt0, aExt1, hb2.at_]
    refine gC.of (Check_spec (c := k)) ?_
    rintro _ m3 ⟨hx3, rfl⟩
    rw [if_neg hn]
    have hb3 := hb2.keep hx3
    have p3 : m3.blk m.next = m2.blk m.next := hx3.same _ hb2.lt
    try simp only [go_sem, ruB, hb3.at_, watch_one, watch_nil, blk_ptr, p3, e0]
    refine ⟨hb2.at_.symm, gC.of (Right_spec (c := k)) ?_⟩
    rintro _ m4 ⟨hx4, rfl⟩
    have hb4 := hb3.keep hx4
    have p4 : m4.blk m.next = m3.blk m.next := hx4.same _ hb3.lt
    rw [decide_eq_false hn]
    try simp only [go_sem, ruB, e3, hb4.at_, hb3.at_]
    refine gC.of (Right_spec (c := k)) ?_
    rintro _ m5 ⟨hx5, rfl⟩
    have hb5 := hb4.keep hx5
    rw [decide_eq_false hn]
    try simp only [go_sem, ruB, e3, hb5.at_]
    refine gC.of (Check_spec (c := k)) ?_
    rintro _ m6 ⟨hx6, rfl⟩
    rw [if_neg hn]
    have hb6 := hb5.keep hx6
    try simp only [go_sem, ruB, e2, hb6.at_]
    refine gC.of (Right_spec (c := k)) ?_
    rintro _ m7 ⟨hx7, rfl⟩
    rw [decide_eq_false hn]
    try simp only [go_sem, ruB, e1, Option.isNone_none]
    refine gC.of (ok_spec R.law29_awake) ?_
    rintro _ m_ ⟨rfl, hm_⟩
    replace hm_ := hm_.symm
    subst hm_
    simp only [go_sem]
    try simp only [go_sem, ruB]
  · have hb2 := hb1.keep hx2
    have e0 : ((0 : Int) == 0) = true := rfl
    have e1 : (true == true) = true := rfl
    have e2 : ((0 : Int) != 0) = false := rfl
    simp only [pt]
    try simp only [go_sem, ruB, aExt0, aExt1, hb2.at_]
    refine gC.of (Check_spec (c := k)) ?_
    rintro _ m3 ⟨hx3, rfl⟩
    rw [if_pos hok]
    have hb3 := hb2.keep hx3
    have p3 : m3.blk m.next = m2.blk m.next := hx3.same _ hb2.lt
    try simp only [go_sem, ruB, hb3.at_, watch_one, watch_nil, blk_ptr, p3, e0]
    refine ⟨hb2.at_.symm, gC.of (Right_spec (c := k)) ?_⟩
    rintro _ m4 ⟨hx4, rfl⟩
    have hb4 := hb3.keep hx4
    rw [decide_eq_true hok]
    try simp only [go_sem, ruB, e1, hb4.at_]
    refine gC.of (Right_spec (c := k)) ?_
    rintro _ m5 ⟨hx5, rfl⟩
    have hb5 := hb4.keep hx5
    rw [decide_eq_true hok]
    try simp only [go_sem, ruB, e2, hb5.at_]
    refine gC.of (Right_spec (c := k)) ?_
    rintro _ m6 ⟨hx6, rfl⟩
    have hb6 := hb5.keep hx6
    rw [decide_eq_true hok]
    try simp only [go_sem, ruB, e2, hb6.at_]
    have n16 : n ≤ 16 := by obtain ⟨-, -, g3, g4, -⟩ := hok; omega
    refine gC.of (refNew29 (k := k) hn n16) ?_
    rintro _ m7 ⟨cv, rfl, hLV, hnc, hx7⟩
    have hx27 := (((hx3.trans hx4).trans hx5).trans hx6).trans hx7
    have hV7 := hV.keep hx27
    have cc := hLV.c.cells
    have hlt := hV.ltm
    have n27 := hx27.next
    have n12 := hx2.next
    have n26 := (((hx3.trans hx4).trans hx5).trans hx6).next
    try simp only [go_sem, ruB, hLV.c.one, ↓cc]
    have hx8 : Ext m7 (m7.new (.cells [.int .i64 k.fr, .int .i64 k.co, .int .i64 k.bu, .int .i64 k.re, .int .i64 k.fr, .slice none 0 0, .slice none 0 0, cv, .int .i64 0] (some 9))) := Ext.new
    have hb8 : Bk (m7.new (.cells [.int .i64 k.fr, .int .i64 k.co, .int .i64 k.bu, .int .i64 k.re, .int .i64 k.fr, .slice none 0 0, .slice none 0 0, cv, .int .i64 0] (some 9))) m7.next [.int .i64 k.fr, .int .i64 k.co, .int .i64 k.bu, .int .i64 k.re, .int .i64 k.fr, .slice none 0 0, .slice none 0 0, cv, .int .i64 0] 9 := Bk.new
    have n8 := hb8.lt
    refine WL.mono (Plays_loop hl hx1 (d0 := ⟨k, ⟨k.fr, [], []⟩, List.replicate n 1, 0⟩) (w0 := ⟨k.fr, [], []⟩) ⟨hV7.keep hx8, ho, (hx2.trans hx27).trans hx8⟩ ⟨hLV.keep hx8, hb8, fun x hx => by simp [vb] at hx, fun x hx => by simp [vb] at hx, fun x hx hm => ?_, fun x hm => ?_, by simp⟩ .new rfl rfl (by omega) (fun hm => by have := hlt _ hm; omega)) ?_
    · have h1 := hnc x hx
      have h2 := SlLt.vb_iff.1 hLV.cl x hx
      rcases List.mem_cons.1 hm with e | hm
      · omega
      · have := hlt _ hm; omega
    · rcases List.mem_cons.1 hm with e | hm
      · omega
      · have := hlt _ hm; have := hx8.next; omega
    rintro _ _ m9 rfl
    try simp only [go_sem, ruB]
    refine gC.of (ok_spec R.law29_awake) ?_
    rintro _ m_ ⟨rfl, hm_⟩
    replace hm_ := hm_.symm
    subst hm_
    simp only [go_sem]
    try simp only [go_sem, ruB]
end Go.Am


/- LedgerPlays, of arguments as they are read. -/
set_option linter.unusedVariables false
namespace Go.Am
theorem cf_read {m : Mem} {v : Value} (h : RdA m (true, [.int .i64, .int .i64, .int .i64, .int .i64]) v) : ∃ k : Cf, v = .agg (cfV k).toArray := by
  obtain ⟨cs, rfl, g0⟩ := h.agg
  obtain ⟨_, _, rfl, k1, g1⟩ := g0.one
  obtain ⟨_, _, rfl, k2, g2⟩ := g1.one
  obtain ⟨_, _, rfl, k3, g3⟩ := g2.one
  obtain ⟨_, _, rfl, k4, g4⟩ := g3.one
  cases g4.none
  obtain ⟨a, rfl, -⟩ := k1.i64
  obtain ⟨b, rfl, -⟩ := k2.i64
  obtain ⟨c, rfl, -⟩ := k3.i64
  obtain ⟨d, rfl, -⟩ := k4.i64
  exact ⟨⟨a, b, c, d⟩, rfl⟩
theorem law29_LedgerPlays_walk (m : Mem) (us : List Value) (h : RdAs m [(true, [.int .i64, .int .i64, .int .i64, .int .i64]), (false, [.sl [.int .i64, .int .i64, .int .i64, .int .i64, .int .i64, .int .i64, .int .i64, .int .i64]])] us) : WC R F.law29_LedgerPlays us m fun v _ => v = .bool true := by
  obtain ⟨_, _, rfl, h1, h⟩ := h.one; obtain ⟨_, _, rfl, h2, h⟩ := h.one; cases h.none
  obtain ⟨k, rfl⟩ := cf_read h1
  obtain ⟨l, hl⟩ := cms_read h2.rd
  exact PlaysLaw_spec hl
end Go.Am
