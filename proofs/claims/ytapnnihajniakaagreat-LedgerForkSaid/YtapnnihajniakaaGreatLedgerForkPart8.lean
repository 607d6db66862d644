/- Parts of the proofs of the statements of this seat: LedgerzM3, LedgerzM4, LedgerzM5, WLedgerFork. No conditions. -/
import Derived.Test.YtapnnihajniakaaGreatLedgerForkPart7
set_option linter.unusedVariables false
set_option linter.unusedSimpArgs false

/- Ledgers: a ledger and the document's, alike; forks. -/
set_option linter.unusedVariables false
set_option linter.unusedSimpArgs false
namespace Go.Am
open Classical
variable {m : Mem}

theorem Clock_spec {a b q1 q2 c cl : Nat} {l : Ld} (h : LdV m a b q1 q2 c cl l) : WC R F.ledger_Ledger_Clock [pt a] m fun r m' => r = .int .i64 l.clk ∧ m' = m := by
  refine WC.of R.ledger_Ledger_Clock rfl ?_
  simp only [RC.ledger_Ledger_Clock, pt, go_sem]
  refine gC.of (ldnone_spec h) ?_
  rintro _ _ ⟨rfl, hm⟩
  replace hm := hm.symm
  subst hm
  try simp only [go_sem, ruB, h.bk.at_]

set_option maxHeartbeats 2000000 in
theorem Alike29_loop {d dl q : Nat} {L : List Int} {w : Rr} {tv gv cv : Value} {k : Cf} {clk : Int} (hC : Co.CS m d dl L) (h : LrV m w L tv gv cv) (hl : L.length ≤ 16) (hb : Bk m q [.int .i64 k.fr, .int .i64 k.co, .int .i64 k.bu, .int .i64 k.re, .int .i64 w.f, tv, gv, cv, .int .i64 clk] 9) :
    WL R [3, 5, 6] RB.law29_Alike_1 [(3, pt q), (5, pt d), (6, .int .i64 0)] m fun y e m' => y = .exit 0 ∧ m' = m := by
  refine WL.of (fun n e m' => ∃ i : Nat, i ≤ L.length ∧ n = L.length - i ∧ e = [(3, pt q), (5, pt d), (6, .int .i64 ((i : Nat) : Int))] ∧ m' = m) L.length
    ⟨0, by omega, by omega, by simp only [go_sem] <;> rfl, rfl⟩ ?_
  rintro _ _ _ ⟨i, hi, rfl, rfl, rfl⟩
  simp only [RB.law29_Alike_1, pt, go_sem]
  have s1 := st1 (show i < 1000000 by omega)
  try simp only [go_sem, ruB, hb.at_, h.c.len]
  by_cases g : i < L.length
  · have e1 : decide (((i : Nat) : Int) < ((L.length : Nat) : Int)) = true := decide_eq_true (by omega)
    try simp only [go_sem, ruB, e1]
    refine gC.of (Co.State_spec hC) ?_
    rintro _ _ ⟨⟨j, hj, hji, rfl⟩ | ⟨hn, -⟩, hm⟩
    rotate_left
    · exfalso; omega
    replace hm := hm.symm
    subst hm
    have hij : j = i := by omega
    subst hij
    obtain ⟨p, a1, a2⟩ := h.c.get (k := .i64) (i := j) hj
    rw [Co.intsZ_get' hj] at a2
    have e2 : (L[j] != L[j]) = false := by rw [bne_eq_false_iff_eq]
    try simp only [go_sem, ruB, aExt0, aExt1, hb.at_, a1, a2, e2, s1]
    exact ⟨L.length - (j + 1), by omega, j + 1, by omega, rfl, rfl⟩
  · have e1 : decide (((i : Nat) : Int) < ((L.length : Nat) : Int)) = false := decide_eq_false (by omega)
    try simp only [go_sem, ruB, e1]

set_option maxHeartbeats 4000000 in
theorem Alike29_spec {a b q1 q2 c cl : Nat} {l : Ld} {w : Rr} {tv gv cv : Value} (hv : LdV m a b q1 q2 c cl l) (h : LrV m w l.L tv gv cv) (r : RRel l.s w) : WC R F.law29_Alike [pt a, lrA l.c w.f tv gv cv l.clk] m fun v m' => v = .bool true ∧ Ext m m' := by
  refine WC.of R.law29_Alike rfl ?_
  have ct := h.r.t.cells
  have cg := h.r.g.cells
  have cc := h.c.cells
  have hw := hv.w
  generalize hk : l.c = k
  generalize hclk : l.clk = clk
  simp only [RC.law29_Alike, pt, go_sem, h.r.t.one, h.r.g.one, h.c.one]
  have hx1 : Ext m (m.new (.cells [.int .i64 k.fr, .int .i64 k.co, .int .i64 k.bu, .int .i64 k.re, .int .i64 w.f, tv, gv, cv, .int .i64 clk] (some 9))) := Ext.new
  have hb1 : Bk (m.new (.cells [.int .i64 k.fr, .int .i64 k.co, .int .i64 k.bu, .int .i64 k.re, .int .i64 w.f, tv, gv, cv, .int .i64 clk] (some 9))) m.next [.int .i64 k.fr, .int .i64 k.co, .int .i64 k.bu, .int .i64 k.re, .int .i64 w.f, tv, gv, cv, .int .i64 clk] 9 := Bk.new
  have hn1 : (m.new (.cells [.int .i64 k.fr, .int .i64 k.co, .int .i64 k.bu, .int .i64 k.re, .int .i64 w.f, tv, gv, cv, .int .i64 clk] (some 9))).next = m.next + 1 := rfl
  generalize m.new (.cells [.int .i64 k.fr, .int .i64 k.co, .int .i64 k.bu, .int .i64 k.re, .int .i64 w.f, tv, gv, cv, .int .i64 clk] (some 9)) = m1 at hx1 hb1 hn1 ⊢
  refine gC.of (Cores_spec (hv.keep hx1)) ?_
  rintro _ m2 ⟨d, dl, rfl, hC, i1, i2, hx2⟩
  have hx02 := hx1.trans hx2
  have b12 := hb1.keep hx2
  have v2 := hv.keep hx02
  have h2 := h.keep hx02
  simp only [pt]
  try simp only [go_sem, ruB, b12.at_]
  refine gC.of (Clock_spec v2) ?_
  rintro _ _ ⟨rfl, hm⟩
  replace hm := hm.symm
  subst hm
  have e1 : (clk != clk) = false := by rw [bne_eq_false_iff_eq]
  rw [hclk]
  try simp only [go_sem, ruB, b12.at_, watch_one, watch_nil, blk_ptr, e1]
  refine gC.of (Free_spec v2) ?_
  rintro _ m3 ⟨rfl, hx3⟩
  have b13 := b12.keep hx3
  have h3 := h2.keep hx3
  have q3 : m3.blk m.next = m2.blk m.next := hx3.same _ b12.lt
  have hcf := hw.c
  rw [hk] at hcf
  try simp only [go_sem, ruB, b13.at_, watch_one, watch_nil, blk_ptr, q3, h.r.t.one, h.r.g.one, h.c.one, ↓ct, ↓cg, ↓cc]
  refine ⟨b12.at_.symm, gC.of (refFree29 (k := k) (clk := clk) h3 r hw.s hcf hw.l16) ?_⟩
  rintro _ m4 ⟨rfl, hx4⟩
  have hx24 := hx3.trans hx4
  have b14 := b13.keep hx4
  have h4 := h3.keep hx4
  have q4 : m4.blk m.next = m3.blk m.next := hx4.same _ b13.lt
  have e2 : (freeL l != k.fr * onlI l.L - shSumR (unitsR l.s)) = false := by rw [bne_eq_false_iff_eq, ← hk]; rfl
  try simp only [go_sem, ruB, watch_one, watch_nil, blk_ptr, q4, e2, b13.at_, b14.at_, h.r.t.one, h.r.g.one]
  refine gC.of (Roster_spec (v2.keep hx24)) ?_
  rintro _ m5 ⟨x, r1, r2, rfl, hV, -, -, -, hx5⟩
  have hx25 := hx24.trans hx5
  have b15 := b14.keep hx5
  have h5 := h4.keep hx5
  have q5 : m5.blk m.next = m4.blk m.next := hx5.same _ b14.lt
  simp only [pt]
  try simp only [go_sem, ruB, b15.at_, watch_one, watch_nil, blk_ptr, q5, h.r.t.one, h.r.g.one]
  refine ⟨b14.at_.symm, gC.of (Alike_spec hV hw.s h5.r r) ?_⟩
  rintro _ m6 ⟨rfl, hx6⟩
  have hx26 := hx25.trans hx6
  have b16 := b15.keep hx6
  have h6 := h5.keep hx6
  have C6 := Co.CS.keep hC hx26
  have k6 := h6.c.len
  have q6 : m6.blk m.next = m5.blk m.next := hx6.same _ b15.lt
  try simp only [go_sem, ruB, watch_one, watch_nil, blk_ptr, q6, b15.at_, b16.at_, k6]
  refine gC.of (Co.Len_spec C6) ?_
  rintro _ _ ⟨rfl, hm⟩
  replace hm := hm.symm
  subst hm
  have e3 : ((((l.L.length : Nat) : Int)) != ((l.L.length : Nat) : Int)) = false := by rw [bne_eq_false_iff_eq]
  try simp only [go_sem, ruB, b16.at_, watch_one, watch_nil, blk_ptr, h6.c.len, e3]
  refine WL.mono (Alike29_loop C6 h6 hw.l16 b16) ?_
  rintro _ _ _ ⟨rfl, hm⟩
  replace hm := hm.symm
  subst hm
  try simp only [go_sem, ruB]
  exact hx02.trans hx26

theorem kfill_l8 {x y z w t : Int} {d c : Nat} : fillL [.int .i64 0, .int .i64 0, .int .i64 0, .int .i64 0, .pointer none, .pointer none, .int .i64 0] [(0, 4, .agg #[.int .i64 x, .int .i64 y, .int .i64 z, .int .i64 w]), (4, 1, .pointer (some ⟨d, 0, none⟩)), (5, 1, .pointer (some ⟨c, 0, none⟩)), (6, 1, .int .i64 t)] = some [.int .i64 x, .int .i64 y, .int .i64 z, .int .i64 w, .pointer (some ⟨d, 0, none⟩), .pointer (some ⟨c, 0, none⟩), .int .i64 t] := rfl
set_option maxHeartbeats 2000000 in
theorem ForkL_spec {a b q1 q2 c cl : Nat} {l : Ld} (h : LdV m a b q1 q2 c cl l) : WC R F.ledger_Ledger_Fork [pt a] m fun r m' => ∃ a' b' q1' q2' c' cl', r = pt a' ∧ LdV m' a' b' q1' q2' c' cl' l ∧ (∀ x ∈ [a', b', q1', q2', c', cl'], m.next ≤ x) ∧ Ext m m' := by
  refine WC.of R.ledger_Ledger_Fork rfl ?_
  simp only [RC.ledger_Ledger_Fork, pt, go_sem]
  refine gC.of (ldnone_spec h) ?_
  rintro _ _ ⟨rfl, hm⟩
  replace hm := hm.symm
  subst hm
  try simp only [go_sem, ruB, h.bk.at_]
  have hB := h.keep (Ext.bump (n := 21))
  refine gC.of (Fork_spec hB.r) ?_
  rintro _ m2 ⟨b', q1', q2', rfl, hV, j0, j1, j2, hx2⟩
  simp only [Mem.bump_next] at j0 j1 j2
  have h2 := hB.keep hx2
  have n2 := hx2.next
  simp only [Mem.bump_next] at n2
  have qa : m2.blk a = (m.bump 21).blk a := hx2.same _ hB.bk.lt
  have hne : l.L ≠ [] := fun e => by have := h.w.l1; rw [e] at this; simp at this
  simp only [pt]
  try simp only [go_sem, ruB, watch_one, watch_nil, blk_ptr, qa]
  refine gC.of (Co.Fork_spec h2.cs h.w.l16 hne) ?_
  rintro _ m3 ⟨c', cl', rfl, hC, i1, i2, hx3⟩
  have h3 := h2.keep hx3
  have n3 := hx3.next
  have qb : m3.blk a = m2.blk a := hx3.same _ h2.bk.lt
  simp only [copt_eq]
  try simp only [go_sem, ruB, watch_one, watch_nil, blk_ptr, qb, ↓kfill_l8]
  have hU : Upd m3 (m3.set (m.next + 19) (some (.cells [.int .i64 l.c.fr, .int .i64 l.c.co, .int .i64 l.c.bu, .int .i64 l.c.re, pt b', pt c', .int .i64 l.clk] (some 7)))) [m.next + 19] := Upd.set (by simp)
  have v1 := hV.bk.lt; have v2 := hV.t.lt; have v3 := hV.g.lt
  have w1 := hV.n1; have w2 := hV.n2; have w3 := hV.n3
  have v4 := hC.2.2.2.1; have v5 := hC.2.2.2.2; have v6 := hC.2.2.1
  have hV3 := (hV.keep hx3).upd hU (by simp; omega) (by simp; omega) (by simp; omega)
  have hC3 := Co.CS.updq hC hU (by simp; omega) (by simp; omega)
  exact ⟨m.next + 19, b', q1', q2', c', cl', rfl, ⟨⟨by simp [Mem.set], by show m.next + 19 < m3.next; omega⟩, hV3, hC3, h.w, nd6.2 (by omega)⟩, fun x hx => by simp at hx; omega, ((Ext.bump.trans hx2).trans hx3).set (by omega)⟩
end Go.Am


/- LedgerPlays. -/
set_option linter.unusedVariables false
set_option linter.unusedSimpArgs false
namespace Go.Am
open Classical
variable {m : Mem}

/-- The document's ledger in its cell. -/
structure LE (m : Mem) (p : Nat) (fp : List Nat) (k : Cf) (w : Rr) (L : List Int) (tv gv cv : Value) (clk : Int) : Prop where
  v : LrV m w L tv gv cv
  bk : Bk m p [.int .i64 k.fr, .int .i64 k.co, .int .i64 k.bu, .int .i64 k.re, .int .i64 w.f, tv, gv, cv, .int .i64 clk] 9
  ft : ∀ x ∈ vb tv, x ∉ fp
  fg : ∀ x ∈ vb gv, x ∉ fp
  fc : ∀ x ∈ vb cv, x ∉ fp
  lt : ∀ x ∈ fp, x < m.next
  pin : p ∈ fp
theorem LE.keep {m m' : Mem} {p : Nat} {fp : List Nat} {k : Cf} {w : Rr} {L : List Int} {tv gv cv : Value} {clk : Int} (h : LE m p fp k w L tv gv cv clk) (hx : Ext m m') : LE m' p fp k w L tv gv cv clk :=
  ⟨h.v.keep hx, h.bk.keep hx, h.ft, h.fg, h.fc, fun x hm => Nat.lt_of_lt_of_le (h.lt x hm) hx.next, h.pin⟩
theorem LE.upd {m m' : Mem} {p : Nat} {fp fq : List Nat} {k : Cf} {w : Rr} {L : List Int} {tv gv cv : Value} {clk : Int} (h : LE m p fp k w L tv gv cv clk) (hx : Upd m m' fq) (hs : ∀ x ∈ fq, x ∈ fp) (hp : p ∉ fq) : LE m' p fp k w L tv gv cv clk :=
  ⟨h.v.upd hx (fun x hx hm => h.ft x hx (hs x hm)) (fun x hx hm => h.fg x hx (hs x hm)) (fun x hx hm => h.fc x hx (hs x hm)), h.bk.upd hx hp, h.ft, h.fg, h.fc, fun x hm => Nat.lt_of_lt_of_le (h.lt x hm) hx.next, h.pin⟩
/-- Other blocks are kept off, too: new ones. -/
theorem LE.more {m m' : Mem} {p : Nat} {fp fq : List Nat} {k : Cf} {w : Rr} {L : List Int} {tv gv cv : Value} {clk : Int} (h : LE m p fp k w L tv gv cv clk) (hx : Ext m m') (hq : ∀ x ∈ fq, x ∈ fp ∨ (m.next ≤ x ∧ x < m'.next)) (hp : p ∈ fq) : LE m' p fq k w L tv gv cv clk := by
  have K := h.keep hx
  have t := SlLt.vb_iff.1 h.v.r.tl
  have g := SlLt.vb_iff.1 h.v.r.gl
  have c := SlLt.vb_iff.1 h.v.cl
  refine ⟨K.v, K.bk, fun x hx hm => ?_, fun x hx hm => ?_, fun x hx hm => ?_, fun x hm => ?_, hp⟩
  · rcases hq x hm with j | j
    · exact h.ft x hx j
    · have := t x hx; omega
  · rcases hq x hm with j | j
    · exact h.fg x hx j
    · have := g x hx; omega
  · rcases hq x hm with j | j
    · exact h.fc x hx j
    · have := c x hx; omega
  · rcases hq x hm with j | j
    · exact K.lt x j
    · exact j.2
theorem LE.put {m M : Mem} {p : Nat} {fp : List Nat} {k : Cf} {w w' : Rr} {L L' : List Int} {tv gv cv tv' gv' cv' : Value} {clk clk' : Int} (h : LE m p fp k w L tv gv cv clk) (hn : m.next ≤ M.next) (q : LrV M w' L' tv' gv' cv') (f1 : ∀ x ∈ vb tv', x ∉ fp) (f2 : ∀ x ∈ vb gv', x ∉ fp) (f3 : ∀ x ∈ vb cv', x ∉ fp) :
    LE (M.set p (some (.cells [.int .i64 k.fr, .int .i64 k.co, .int .i64 k.bu, .int .i64 k.re, .int .i64 w'.f, tv', gv', cv', .int .i64 clk'] (some 9)))) p fp k w' L' tv' gv' cv' clk' := by
  have hp := h.lt p h.pin
  have hU : Upd M (M.set p (some (.cells [.int .i64 k.fr, .int .i64 k.co, .int .i64 k.bu, .int .i64 k.re, .int .i64 w'.f, tv', gv', cv', .int .i64 clk'] (some 9)))) [p] := Upd.set (by simp)
  refine ⟨q.upd hU (fun x hx hm => ?_) (fun x hx hm => ?_) (fun x hx hm => ?_), ⟨by simp [Mem.set], by show p < M.next; omega⟩, f1, f2, f3, fun x hm => Nat.lt_of_lt_of_le (h.lt x hm) hn, h.pin⟩
  · rw [List.mem_singleton] at hm; rw [hm] at hx; exact f1 p hx h.pin
  · rw [List.mem_singleton] at hm; rw [hm] at hx; exact f2 p hx h.pin
  · rw [List.mem_singleton] at hm; rw [hm] at hx; exact f3 p hx h.pin
theorem LI.set {m0 m : Mem} {a b q1 q2 c cl p : Nat} {l : Ld} {o : Option AObj} (h : LI m0 m a b q1 q2 c cl l) (hp : m0.next ≤ p) (hn : p ∉ [a, b, q1, q2, c, cl]) : LI m0 (m.set p o) a b q1 q2 c cl l := by
  have hU : Upd m (m.set p o) [p] := Upd.set (by simp)
  exact ⟨h.v.updq hU (fun x hx hm => by rw [List.mem_singleton] at hm; exact hn (hm ▸ hx)), h.own, h.x.set hp⟩
theorem LdV.wf {a b q1 q2 c cl : Nat} {l : Ld} (h : LdV m a b q1 q2 c cl l) : LdWf l := h.w

end Go.Am


/- LedgerFork. -/
set_option linter.unusedVariables false
set_option linter.unusedSimpArgs false
namespace Go.Am
open Classical
variable {m : Mem}

theorem LE.re {m m' : Mem} {p : Nat} {fp fq : List Nat} {k : Cf} {w : Rr} {L : List Int} {tv gv cv : Value} {clk : Int} (K : LE m' p fp k w L tv gv cv clk) (h : LE m p fp k w L tv gv cv clk) (hq : ∀ x ∈ fq, x ∈ fp ∨ (m.next ≤ x ∧ x < m'.next)) (hp : p ∈ fq) : LE m' p fq k w L tv gv cv clk := by
  have t := SlLt.vb_iff.1 h.v.r.tl
  have g := SlLt.vb_iff.1 h.v.r.gl
  have c := SlLt.vb_iff.1 h.v.cl
  refine ⟨K.v, K.bk, fun x hx hm => ?_, fun x hx hm => ?_, fun x hx hm => ?_, fun x hm => ?_, hp⟩
  · rcases hq x hm with j | j
    · exact h.ft x hx j
    · have := t x hx; omega
  · rcases hq x hm with j | j
    · exact h.fg x hx j
    · have := g x hx; omega
  · rcases hq x hm with j | j
    · exact h.fc x hx j
    · have := c x hx; omega
  · rcases hq x hm with j | j
    · exact K.lt x j
    · exact j.2
theorem ticksS_Ll {l : Ld} : ∀ {n : Nat}, (ticksS n l).L.length = l.L.length
  | 0 => rfl
  | n + 1 => by
    show (tickS (ticksS n l)).L.length = _
    rw [tickS_L, ← ticksS_Ll (n := n)]
    split
    · rw [List.length_map]
    · rfl
theorem doL_Ll {l : Ld} {c : Cm} : (doL l c).1.L.length = l.L.length := by
  unfold doL tasksS plugS tkS
  by_cases g1 : 1 ≤ c.op ∧ c.op ≤ 12
  · rw [if_pos g1]; split
    · rfl
    · split <;> rfl
  rw [if_neg g1]
  by_cases g2 : c.op = 13 ∨ c.op = 14
  · rw [if_pos g2]; split
    · rfl
    · split
      · exact plugC_len
      · rfl
  rw [if_neg g2]
  by_cases g3 : c.op = 16
  · rw [if_pos g3]; split
    · rfl
    · exact ticksS_Ll
  rw [if_neg g3]
  by_cases g4 : c.op = 17
  · rw [if_pos g4]
  rw [if_neg g4]
  by_cases g5 : c.op = 15
  · rw [if_pos g5]
  rw [if_neg g5]

set_option maxHeartbeats 8000000 in
theorem ForkL_l2 {m0 : Mem} {l : List Cm} {lv mv : Value} (hl : CmsV m0 l lv) {m9 : Mem} (hx9 : Ext m0 m9) {k : Cf} {pc p px px2 a b q1 q2 c cl : Nat} {d0 : Ld} (h0 : LI m9 m a b q1 q2 c cl d0) {w0 : Rr} {tv0 gv0 cv0 : Value} (hE0 : LE m p [p, a, b, q1, q2, c, cl] k w0 d0.L tv0 gv0 cv0 d0.clk) (hR0 : RRel d0.s w0) (hk : d0.c = k) (hclk : 0 ≤ d0.clk ∧ d0.clk ≤ 1000000) (hp9 : m9.next ≤ p) (hpn : p ∉ [a, b, q1, q2, c, cl]) :
    WL R [1, 2, 3, 7, 9, 10] RB.law29_LedgerFork_2 [(1, lv), (2, mv), (3, pt pc), (7, pt a), (9, pt p), (10, .int .i64 0)] m fun y e m' => y = .exit 0 ∧ (∃ rs, e = (1, lv) :: (2, mv) :: (3, pt pc) :: (7, pt a) :: (9, pt p) :: rs) ∧ ∃ (d : Ld) (b q1 q2 c cl : Nat) (w : Rr) (tv gv cv : Value), LI m9 m' a b q1 q2 c cl d ∧ LE m' p [p, a, b, q1, q2, c, cl] k w d.L tv gv cv d.clk ∧ RRel d.s w ∧ d.c = k ∧ d.L.length = d0.L.length ∧ (0 ≤ d.clk ∧ d.clk ≤ d0.clk + 40000) ∧ p ∉ [a, b, q1, q2, c, cl] := by
  refine WL.of (fun n e m' => ∃ (i : Nat) (d : Ld) (b q1 q2 c cl : Nat) (w : Rr) (tv gv cv : Value), i ≤ l.length ∧ i ≤ 30 ∧ n = l.length - i ∧ e = [(1, lv), (2, mv), (3, pt pc), (7, pt a), (9, pt p), (10, .int .i64 ((i : Nat) : Int))] ∧ LI m9 m' a b q1 q2 c cl d ∧ LE m' p [p, a, b, q1, q2, c, cl] k w d.L tv gv cv d.clk ∧ RRel d.s w ∧ d.c = k ∧ d.L.length = d0.L.length ∧ 0 ≤ d.clk ∧ d.clk ≤ d0.clk + 1024 * i ∧ p ∉ [a, b, q1, q2, c, cl]) l.length
    ⟨0, d0, b, q1, q2, c, cl, w0, tv0, gv0, cv0, by omega, by omega, by omega, by simp only [go_sem] <;> rfl, h0, hE0, hR0, hk, rfl, by omega, by omega, hpn⟩ ?_
  rintro _ _ m1 ⟨i, d, b, q1, q2, c, cl, w, tv, gv, cv, hi, hi2, rfl, rfl, h, hE, hR, hk, hll, hc1, hc2, hpn⟩
  have hl1 := (hl.keep hx9).keep h.x
  simp only [RB.law29_LedgerFork_2, pt, go_sem, hl1.sl.len]
  have s1 := st1 (show i < 1000000 by omega)
  by_cases g1 : i < l.length
  rotate_left
  · have e1 : decide (((i : Nat) : Int) < ((l.length : Nat) : Int)) = false := decide_eq_false (by omega)
    try simp only [go_sem, ruB, e1]
    exact ⟨⟨_, rfl⟩, d, b, q1, q2, c, cl, w, tv, gv, cv, h, hE, hR, hk, hll, by omega, hpn⟩
  have e1 : decide (((i : Nat) : Int) < ((l.length : Nat) : Int)) = true := decide_eq_true (by omega)
  by_cases g2 : i < 30
  rotate_left
  · have e2 : decide (((i : Nat) : Int) < 30) = false := decide_eq_false (by omega)
    try simp only [go_sem, ruB, e1, e2]
    exact ⟨⟨_, rfl⟩, d, b, q1, q2, c, cl, w, tv, gv, cv, h, hE, hR, hk, hll, by omega, hpn⟩
  have e2 : decide (((i : Nat) : Int) < 30) = true := decide_eq_true (by omega)
  obtain ⟨bb, oo, a1, a2, -, -⟩ := hl1.sl.elem cmV_len (k := .i64) g1
  have hc := hl.ok _ (List.getElem_mem g1)
  have hplt := hE.lt p (by simp)
  have hm0 := h.x.next
  have hwf := h.v.w
  try simp only [go_sem, ruB, e1, e2, a1, a2]
  refine gC.of (DoL_spec (k := l[i]) h.v ⟨hc1, by omega⟩ hc) ?_
  rintro v m4 ⟨rfl, hU4, b', q1', q2', c', cl', hV4, ho4⟩
  have hE4' := hU4.ext_of h.x h.own
  have n4 := hU4.next
  have sub : ∀ x ∈ [a, b, q1, q2, c, cl], x ∈ [p, a, b, q1, q2, c, cl] := fun x hx => List.mem_cons_of_mem _ hx
  have hE4 := hE.upd hU4 sub hpn
  have h4 : LI m9 m4 a b' q1' q2' c' cl' (doL d l[i]).1 := ⟨hV4, fun x hx => by
    rcases List.mem_cons.1 hx with rfl | hx
    · exact h.own _ (by simp)
    · rcases ho4 x hx with j | j
      · exact h.own x (List.mem_cons_of_mem _ j)
      · omega, hE4'⟩
  have hpn' : p ∉ [a, b', q1', q2', c', cl'] := fun hm => by
    rcases List.mem_cons.1 hm with e | hm
    · exact hpn (by rw [e]; simp)
    · rcases ho4 _ hm with j | j
      · exact hpn (List.mem_cons_of_mem _ j)
      · omega
  have hlt4 := hV4.ltm
  have hE5 : LE m4 p [p, a, b', q1', q2', c', cl'] k w d.L tv gv cv d.clk := hE4.re hE (fun x hx => by
    rcases List.mem_cons.1 hx with rfl | hx
    · exact .inl (by simp)
    rcases List.mem_cons.1 hx with rfl | hx
    · exact .inl (by simp)
    rcases ho4 x hx with j | j
    · exact .inl (List.mem_cons_of_mem _ (List.mem_cons_of_mem _ j))
    · exact .inr ⟨j, hlt4 x (List.mem_cons_of_mem _ hx)⟩) (by simp)
  have hk2 : (doL d l[i]).1.c = k := doL_c.trans hk
  have hL2 : (doL d l[i]).1.L.length = d.L.length := doL_Ll
  have hclk2 := doL_clk (l := d) (c := l[i]) hc1
  obtain ⟨bb3, oo3, c1, c2, -, -⟩ := ((hl.keep hx9).keep hE4').sl.elem cmV_len (k := .i64) g1
  try simp only [go_sem, ruB, hE5.bk.at_, c1, c2, hE5.v.r.t.one, hE5.v.r.g.one, hE5.v.c.one]
  refine gC.of (refDo29 (c := l[i]) hk hE5.v hR hwf ⟨hc1, by omega⟩) ?_
  rintro v m5 ⟨tv', gv', cv', w', rfl, hv', hr', ht', hg', hcn', hx5⟩
  have h5 := h4.keep hx5
  have hE6 := hE5.keep hx5
  have ct' := hv'.r.t.cells
  have cg' := hv'.r.g.cells
  have cc' := hv'.c.cells
  have f1 := ht'.free hE5.ft hE5.lt
  have f2 := hg'.free hE5.fg hE5.lt
  have f3 := hcn'.free hE5.fc hE5.lt
  try simp only [go_sem, ruB, aExt0, aExt1, hE6.bk.at_, ↓ct', ↓cg', ↓cc', hv'.r.t.one, hv'.r.g.one, hv'.c.one, s1]
  have hm5 := h5.x.next
  exact ⟨l.length - (i + 1), by omega, i + 1, (doL d l[i]).1, b', q1', q2', c', cl', w', tv', gv', cv', by omega, by omega, rfl, rfl, h5.set (by omega) hpn', hE6.put (Nat.le_refl _) hv' f1 f2 f3, hr', hk2, by omega, hclk2.1, by omega, hpn'⟩

set_option maxHeartbeats 8000000 in
theorem ForkL_l1 {m0 : Mem} {l : List Cm} {lv mv : Value} (hl : CmsV m0 l lv) {m9 : Mem} (hx9 : Ext m0 m9) {k : Cf} {pc p px px2 a b q1 q2 c cl : Nat} {d0 : Ld} (h0 : LI m9 m a b q1 q2 c cl d0) {w0 : Rr} {tv0 gv0 cv0 : Value} (hE0 : LE m p [p, a, b, q1, q2, c, cl] k w0 d0.L tv0 gv0 cv0 d0.clk) (hR0 : RRel d0.s w0) (hk : d0.c = k) (hclk : 0 ≤ d0.clk ∧ d0.clk ≤ 1000000) (hp9 : m9.next ≤ p) (hpn : p ∉ [a, b, q1, q2, c, cl]) :
    WL R [2, 3, 7, 9, 11, 12, 13] RB.law29_LedgerFork_1 [(2, lv), (3, pt pc), (7, pt px), (9, pt px2), (11, pt a), (12, pt p), (13, .int .i64 0)] m fun y e m' => y = .exit 2 ∧ (∃ rs, e = (2, lv) :: (3, pt pc) :: (7, pt px) :: (9, pt px2) :: (11, pt a) :: (12, pt p) :: rs) ∧ ∃ (d : Ld) (b q1 q2 c cl : Nat) (w : Rr) (tv gv cv : Value), LI m9 m' a b q1 q2 c cl d ∧ LE m' p [p, a, b, q1, q2, c, cl] k w d.L tv gv cv d.clk ∧ RRel d.s w ∧ d.c = k ∧ d.L.length = d0.L.length ∧ (0 ≤ d.clk ∧ d.clk ≤ d0.clk + 40000) ∧ p ∉ [a, b, q1, q2, c, cl] := by
  refine WL.of (fun n e m' => ∃ (i : Nat) (d : Ld) (b q1 q2 c cl : Nat) (w : Rr) (tv gv cv : Value), i ≤ l.length ∧ i ≤ 15 ∧ n = l.length - i ∧ e = [(2, lv), (3, pt pc), (7, pt px), (9, pt px2), (11, pt a), (12, pt p), (13, .int .i64 ((i : Nat) : Int))] ∧ LI m9 m' a b q1 q2 c cl d ∧ LE m' p [p, a, b, q1, q2, c, cl] k w d.L tv gv cv d.clk ∧ RRel d.s w ∧ d.c = k ∧ d.L.length = d0.L.length ∧ 0 ≤ d.clk ∧ d.clk ≤ d0.clk + 1024 * i ∧ p ∉ [a, b, q1, q2, c, cl]) l.length
    ⟨0, d0, b, q1, q2, c, cl, w0, tv0, gv0, cv0, by omega, by omega, by omega, by simp only [go_sem] <;> rfl, h0, hE0, hR0, hk, rfl, by omega, by omega, hpn⟩ ?_
  rintro _ _ m1 ⟨i, d, b, q1, q2, c, cl, w, tv, gv, cv, hi, hi2, rfl, rfl, h, hE, hR, hk, hll, hc1, hc2, hpn⟩
  have hl1 := (hl.keep hx9).keep h.x
  simp only [RB.law29_LedgerFork_1, pt, go_sem, hl1.sl.len]
  have s1 := st1 (show i < 1000000 by omega)
  by_cases g1 : i < l.length
  rotate_left
  · have e1 : decide (((i : Nat) : Int) < ((l.length : Nat) : Int)) = false := decide_eq_false (by omega)
    try simp only [go_sem, ruB, e1]
    exact ⟨⟨_, rfl⟩, d, b, q1, q2, c, cl, w, tv, gv, cv, h, hE, hR, hk, hll, by omega, hpn⟩
  have e1 : decide (((i : Nat) : Int) < ((l.length : Nat) : Int)) = true := decide_eq_true (by omega)
  by_cases g2 : i < 15
  rotate_left
  · have e2 : decide (((i : Nat) : Int) < 15) = false := decide_eq_false (by omega)
    try simp only [go_sem, ruB, e1, e2]
    exact ⟨⟨_, rfl⟩, d, b, q1, q2, c, cl, w, tv, gv, cv, h, hE, hR, hk, hll, by omega, hpn⟩
  have e2 : decide (((i : Nat) : Int) < 15) = true := decide_eq_true (by omega)
  obtain ⟨bb, oo, a1, a2, -, -⟩ := hl1.sl.elem cmV_len (k := .i64) g1
  have hc := hl.ok _ (List.getElem_mem g1)
  have hplt := hE.lt p (by simp)
  have hm0 := h.x.next
  have hwf := h.v.w
  try simp only [go_sem, ruB, e1, e2, a1, a2]
  refine gC.of (DoL_spec (k := l[i]) h.v ⟨hc1, by omega⟩ hc) ?_
  rintro v m4 ⟨rfl, hU4, b', q1', q2', c', cl', hV4, ho4⟩
  have hE4' := hU4.ext_of h.x h.own
  have n4 := hU4.next
  have sub : ∀ x ∈ [a, b, q1, q2, c, cl], x ∈ [p, a, b, q1, q2, c, cl] := fun x hx => List.mem_cons_of_mem _ hx
  have hE4 := hE.upd hU4 sub hpn
  have h4 : LI m9 m4 a b' q1' q2' c' cl' (doL d l[i]).1 := ⟨hV4, fun x hx => by
    rcases List.mem_cons.1 hx with rfl | hx
    · exact h.own _ (by simp)
    · rcases ho4 x hx with j | j
      · exact h.own x (List.mem_cons_of_mem _ j)
      · omega, hE4'⟩
  have hpn' : p ∉ [a, b', q1', q2', c', cl'] := fun hm => by
    rcases List.mem_cons.1 hm with e | hm
    · exact hpn (by rw [e]; simp)
    · rcases ho4 _ hm with j | j
      · exact hpn (List.mem_cons_of_mem _ j)
      · omega
  have hlt4 := hV4.ltm
  have hE5 : LE m4 p [p, a, b', q1', q2', c', cl'] k w d.L tv gv cv d.clk := hE4.re hE (fun x hx => by
    rcases List.mem_cons.1 hx with rfl | hx
    · exact .inl (by simp)
    rcases List.mem_cons.1 hx with rfl | hx
    · exact .inl (by simp)
    rcases ho4 x hx with j | j
    · exact .inl (List.mem_cons_of_mem _ (List.mem_cons_of_mem _ j))
    · exact .inr ⟨j, hlt4 x (List.mem_cons_of_mem _ hx)⟩) (by simp)
  have hk2 : (doL d l[i]).1.c = k := doL_c.trans hk
  have hL2 : (doL d l[i]).1.L.length = d.L.length := doL_Ll
  have hclk2 := doL_clk (l := d) (c := l[i]) hc1
  obtain ⟨bb3, oo3, c1, c2, -, -⟩ := ((hl.keep hx9).keep hE4').sl.elem cmV_len (k := .i64) g1
  try simp only [go_sem, ruB, hE5.bk.at_, c1, c2, hE5.v.r.t.one, hE5.v.r.g.one, hE5.v.c.one]
  refine gC.of (refDo29 (c := l[i]) hk hE5.v hR hwf ⟨hc1, by omega⟩) ?_
  rintro v m5 ⟨tv', gv', cv', w', rfl, hv', hr', ht', hg', hcn', hx5⟩
  have h5 := h4.keep hx5
  have hE6 := hE5.keep hx5
  have ct' := hv'.r.t.cells
  have cg' := hv'.r.g.cells
  have cc' := hv'.c.cells
  have f1 := ht'.free hE5.ft hE5.lt
  have f2 := hg'.free hE5.fg hE5.lt
  have f3 := hcn'.free hE5.fc hE5.lt
  try simp only [go_sem, ruB, aExt0, aExt1, hE6.bk.at_, ↓ct', ↓cg', ↓cc', hv'.r.t.one, hv'.r.g.one, hv'.c.one, s1]
  have hm5 := h5.x.next
  exact ⟨l.length - (i + 1), by omega, i + 1, (doL d l[i]).1, b', q1', q2', c', cl', w', tv', gv', cv', by omega, by omega, rfl, rfl, h5.set (by omega) hpn', hE6.put (Nat.le_refl _) hv' f1 f2 f3, hr', hk2, by omega, hclk2.1, by omega, hpn'⟩

set_option maxHeartbeats 4000000 in
theorem ForkLaw_spec {l more : List Cm} {lv mv : Value} {k : Cf} (hl : CmsV m l lv) (hmo : CmsV m more mv) : WC R F.law29_LedgerFork [.agg (cfV k).toArray, lv, mv] m fun r m' => r = .bool true := by
  refine WC.of R.law29_LedgerFork rfl ?_
  simp only [RC.law29_LedgerFork, cfV, go_sem]
  have hx1 : Ext m (m.new (.cells [.int .i64 k.fr, .int .i64 k.co, .int .i64 k.bu, .int .i64 k.re] (some 4))) := Ext.new
  have hb1 : Bk (m.new (.cells [.int .i64 k.fr, .int .i64 k.co, .int .i64 k.bu, .int .i64 k.re] (some 4))) m.next [.int .i64 k.fr, .int .i64 k.co, .int .i64 k.bu, .int .i64 k.re] 4 := Bk.new
  generalize m.new (.cells [.int .i64 k.fr, .int .i64 k.co, .int .i64 k.bu, .int .i64 k.re] (some 4)) = m1 at hx1 hb1 ⊢
  try simp only [go_sem, ruB, hb1.at_]
  refine gC.of (NewL_spec (k := k)) ?_
  rintro _ m2 ⟨hx2, ⟨hn, rfl⟩ | ⟨hok, a, b, q1, q2, c, cl, n, rfl, hn, hV, ho⟩⟩
  · have hb2 := hb1.keep hx2
    have e0 : ((1 : Int) != 0) = true := rfl
    try simp only [go_sem, ruB, aExt0, aExt1, e0, hb2.at_]
    refine gC.of (Right_spec (c := k)) ?_
    rintro _ m3 ⟨hx3, rfl⟩
    try simp only [go_sem, ruB, decide_eq_false hn]
    refine gC.of (ok_spec R.law29_awake) ?_
    rintro _ m_ ⟨rfl, hm_⟩
    replace hm_ := hm_.symm
    subst hm_
    simp only [go_sem]
    try simp only [go_sem, ruB]
  have hb2 := hb1.keep hx2
  have e0 : ((0 : Int) != 0) = false := rfl
  have n16 : n ≤ 16 := by obtain ⟨-, -, g3, g4, -⟩ := hok; omega
  simp only [pt]
  try simp only [go_sem, ruB, aExt0, aExt1, e0, hb2.at_]
  refine gC.of (refNew29 (k := k) hn n16) ?_
  rintro _ m7 ⟨cv, rfl, hLV, hnc, hx27⟩
  have hV7 := hV.keep hx27
  have hb7 := hb2.keep hx27
  have cc := hLV.c.cells
  have hlt := hV.ltm
  have n27 := hx27.next
  have n12 := hx2.next
  try simp only [go_sem, ruB, hLV.c.one, ↓cc]
  have hx8 : Ext m7 (m7.new (.cells [.int .i64 k.fr, .int .i64 k.co, .int .i64 k.bu, .int .i64 k.re, .int .i64 k.fr, .slice none 0 0, .slice none 0 0, cv, .int .i64 0] (some 9))) := Ext.new
  have hb8 : Bk (m7.new (.cells [.int .i64 k.fr, .int .i64 k.co, .int .i64 k.bu, .int .i64 k.re, .int .i64 k.fr, .slice none 0 0, .slice none 0 0, cv, .int .i64 0] (some 9))) m7.next [.int .i64 k.fr, .int .i64 k.co, .int .i64 k.bu, .int .i64 k.re, .int .i64 k.fr, .slice none 0 0, .slice none 0 0, cv, .int .i64 0] 9 := Bk.new
  have n8 := hb8.lt
  refine WL.mono (ForkL_l2 (px := 0) (px2 := 0) hl hx1 (d0 := ⟨k, ⟨k.fr, [], []⟩, List.replicate n 1, 0⟩) (w0 := ⟨k.fr, [], []⟩) ⟨hV7.keep hx8, ho, (hx2.trans hx27).trans hx8⟩ ⟨hLV.keep hx8, hb8, fun x hx => by simp [vb] at hx, fun x hx => by simp [vb] at hx, fun x hx hm => ?_, fun x hm => ?_, by simp⟩ .new rfl (show (0 : Int) ≤ 0 ∧ (0 : Int) ≤ 1000000 from ⟨by omega, by omega⟩) (by omega) (fun hm => by have := hlt _ hm; omega)) ?_
  · have h1 := hnc x hx
    have h2 := SlLt.vb_iff.1 hLV.cl x hx
    rcases List.mem_cons.1 hm with e | hm
    · omega
    · have := hlt _ hm; omega
  · rcases List.mem_cons.1 hm with e | hm
    · omega
    · have := hlt _ hm; have := hx8.next; omega
  rintro _ _ m9 ⟨rfl, ⟨rs, rfl⟩, d, b, q1, q2, c, cl, w, tv, gv, cv, h9, hE9, hR9, hk9, hl9, hc9, hp9⟩
  have hX19 := h9.x
  simp only [pt]
  try simp only [go_sem, ruB]
  refine gC.of (ForkL_spec h9.v) ?_
  rintro _ m10 ⟨a', b', q1', q2', c', cl', rfl, hV10, ho10, hx10⟩
  have h10 := h9.keep hx10
  have hE10 := hE9.keep hx10
  have lt10 := hV10.ltm
  have p9 := hE9.lt m7.next (by simp)
  have n10 := hx10.next
  have ct := hE10.v.r.t.cells
  have cg := hE10.v.r.g.cells
  have cc2 := hE10.v.c.cells
  simp only [pt]
  try simp only [go_sem, ruB, hE10.bk.at_, hE10.v.r.t.one, hE10.v.r.g.one, hE10.v.c.one, ↓ct, ↓cg, ↓cc2]
  have hx11 : Ext m10 (m10.new (.cells [.int .i64 k.fr, .int .i64 k.co, .int .i64 k.bu, .int .i64 k.re, .int .i64 w.f, tv, gv, cv, .int .i64 d.clk] (some 9))) := Ext.new
  have hb11 : Bk (m10.new (.cells [.int .i64 k.fr, .int .i64 k.co, .int .i64 k.bu, .int .i64 k.re, .int .i64 w.f, tv, gv, cv, .int .i64 d.clk] (some 9))) m10.next [.int .i64 k.fr, .int .i64 k.co, .int .i64 k.bu, .int .i64 k.re, .int .i64 w.f, tv, gv, cv, .int .i64 d.clk] 9 := Bk.new
  have n11 := hb11.lt
  have ot := SlLt.vb_iff.1 hE9.v.r.tl
  have og := SlLt.vb_iff.1 hE9.v.r.gl
  have oc := SlLt.vb_iff.1 hE9.v.cl
  have hc0 : d.clk ≤ 40000 := by have := hc9.2; exact Int.le_trans this (by show (0 : Int) + 40000 ≤ 40000; omega)
  have off9 : ∀ x, x < m9.next → x ∉ [m10.next, a', b', q1', q2', c', cl'] := fun x hx hm => by
    rcases List.mem_cons.1 hm with e | hm
    · omega
    · have := ho10 x hm; omega
  generalize m10.new (.cells [.int .i64 k.fr, .int .i64 k.co, .int .i64 k.bu, .int .i64 k.re, .int .i64 w.f, tv, gv, cv, .int .i64 d.clk] (some 9)) = m11 at hx11 hb11 n11 ⊢
  have hE11 := hE10.keep hx11
  refine WL.mono (ForkL_l1 (mv := mv) hmo (hx1.trans hX19) (d0 := d) ⟨hV10.keep hx11, ho10, hx10.trans hx11⟩ ⟨hE11.v, hb11, fun x hx => off9 x (ot x hx), fun x hx => off9 x (og x hx), fun x hx => off9 x (oc x hx), fun x hm => ?_, by simp⟩ hR9 hk9 ⟨hc9.1, by omega⟩ (by omega) (fun hm => by have := lt10 _ hm; omega)) ?_
  · rcases List.mem_cons.1 hm with e | hm
    · omega
    · have := lt10 _ hm; have := hx11.next; omega
  rintro _ _ m12 ⟨rfl, ⟨rs2, rfl⟩, d', b', q1', q2', c', cl', w', tv', gv', cv', h12, hE12, hR12, hk12, hl12, hc12, hp12⟩
  have hX := h12.x
  have h13 := h9.keep hX
  have hE13 := hE9.keep hX
  have hb12 := (hb7.keep hx8).keep (Ext.refl _)
  simp only [pt]
  try simp only [go_sem, ruB]
  refine gC.of (Roster_spec h13.v) ?_
  rintro _ m14 ⟨x, r1, r2, rfl, hV14, -, j1, j2, hx14⟩
  simp only [pt]
  try simp only [go_sem, ruB]
  refine gC.of (Depart_spec hV14 h13.v.w.s.memOk) ?_
  rintro v m15 ⟨rfl, -, hU15⟩
  have hx15 : Ext m12 m15 := hU15.ext_of hx14 (fun x hx => by simp at hx; omega)
  have h15 := h13.keep hx15
  try simp only [go_sem, ruB]
  refine gC.of (Cores_spec h15.v) ?_
  rintro _ m16 ⟨y, yl, rfl, hC16, i1, i2, hx16⟩
  simp only [pt]
  try simp only [go_sem, ruB]
  refine gC.of (Co.Turn_spec hC16 h15.v.w.l16) ?_
  rintro v m17 ⟨rfl, -, hU17⟩
  have hx17 : Ext m15 m17 := hU17.ext_of hx16 (fun x hx => by simp at hx; omega)
  have hx127 := hx15.trans hx17
  have h17 := h15.keep hx17
  have E17 := hE13.keep hx127
  have F17 := hE12.keep hx127
  have K17 := h12.keep hx127
  subst hk9
  try simp only [go_sem, ruB, E17.bk.at_, E17.v.r.t.one, E17.v.r.g.one, E17.v.c.one]
  refine gC.of (Alike29_spec h17.v E17.v hR9) ?_
  rintro _ m18 ⟨rfl, hx18⟩
  have E18 := E17.keep hx18
  have F18 := F17.keep hx18
  have K18 := K17.keep hx18
  have hB : ∀ M, Ext m2 M → M.blk m.next = m2.blk m.next := fun M hM => hM.same _ hb2.lt
  rw [← hk12]
  have F18b := F18.bk
  rw [← hk12] at F18b
  try simp only [go_sem, ruB, F18b.at_, F18.v.r.t.one, F18.v.r.g.one, F18.v.c.one]
  refine gC.of (Alike29_spec K18.v F18.v hR12) ?_
  rintro _ m19 ⟨rfl, hx19⟩
  have E19 := E18.keep hx19
  have E19b := E19.bk
  have b19 := ((((hb1.keep h9.x).keep hX).keep hx127).keep hx18).keep hx19
  rw [← hk12] at E19b b19
  have hln : d.L.length = n := by rw [hl9]; exact List.length_replicate
  try simp only [go_sem, ruB, E19b.at_, b19.at_]
  refine gC.of (Co.RTurn_spec (fp := []) (E19.v.rl (fun _ _ => by simp)) (by omega)) ?_
  rintro tr m20 ⟨hOt, hx20⟩
  have b20 := b19.keep hx20
  have q20 : m20.blk m.next = m19.blk m.next := hx20.same _ b19.lt
  have eq1 : (((d.L.length : Nat) : Int) == d'.c.co) = true := by rw [beq_iff_eq, hk12, hn, hln]
  try simp only [go_sem, ruB, watch_one, watch_nil, blk_ptr, q20, hOt.sl.len, eq1]
  refine gC.of (ok_spec R.law29_awake) ?_
  rintro _ m_ ⟨rfl, hm_⟩
  replace hm_ := hm_.symm
  subst hm_
  simp only [go_sem]
  try simp only [go_sem, ruB]
end Go.Am


/- LedgerFork, of arguments as they are read. -/
set_option linter.unusedVariables false
namespace Go.Am
theorem cf_read {m : Mem} {v : Value} (h : RdA m (true, [.int .i64, .int .i64, .int .i64, .int .i64]) v) : ∃ k : Cf, v = .agg (cfV k).toArray := by
  obtain ⟨cs, rfl, g0⟩ := h.agg
  obtain ⟨_, _, rfl, k1, g1⟩ := g0.one
  obtain ⟨_, _, rfl, k2, g2⟩ := g1.one
  obtain ⟨_, _, rfl, k3, g3⟩ := g2.one
  obtain ⟨_, _, rfl, k4, g4⟩ := g3.one
  cases g4.none
  obtain ⟨a, rfl, -⟩ := k1.i64
  obtain ⟨b, rfl, -⟩ := k2.i64
  obtain ⟨c, rfl, -⟩ := k3.i64
  obtain ⟨d, rfl, -⟩ := k4.i64
  exact ⟨⟨a, b, c, d⟩, rfl⟩
theorem law29_LedgerFork_walk (m : Mem) (us : List Value) (h : RdAs m [(true, [.int .i64, .int .i64, .int .i64, .int .i64]), (false, [.sl [.int .i64, .int .i64, .int .i64, .int .i64, .int .i64, .int .i64, .int .i64, .int .i64]]), (false, [.sl [.int .i64, .int .i64, .int .i64, .int .i64, .int .i64, .int .i64, .int .i64, .int .i64]])] us) : WC R F.law29_LedgerFork us m fun v _ => v = .bool true := by
  obtain ⟨_, _, rfl, h1, h⟩ := h.one; obtain ⟨_, _, rfl, h2, h⟩ := h.one; obtain ⟨_, _, rfl, h3, h⟩ := h.one; cases h.none
  obtain ⟨k, rfl⟩ := cf_read h1
  obtain ⟨l, hl⟩ := cms_read h2.rd
  obtain ⟨more, hm⟩ := cms_read h3.rd
  exact ForkLaw_spec hl hm
end Go.Am
