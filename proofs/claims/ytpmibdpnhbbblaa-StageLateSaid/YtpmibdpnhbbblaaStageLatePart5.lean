/- Parts of the proofs of the statements of this seat: StagePlanD, StagePlanW, MaskPop, MaskBit, StageMaskW, AmExt, MaskLow, StageMaskW2, StageMaskW3, StageOrderUnits, StagePlanW2, StagePlanW3, StagePlanW4, StagePlanW5, StagePlanW6, StagePlanW7, StagePlanW8, StagePlanW9, StagePlanM, StagePlanM2, StagePlanX1, StagePlanX2. No conditions. -/
import Derived.Test.YtpmibdpnhbbblaaStageLatePart4
import Derived.Test.YtpmibdpnhbbblaaStageLatePart3
import Derived.Lib.TrailingZeros
set_option linter.unusedVariables false
set_option linter.unusedSimpArgs false

/- PlanD over the table of stage (relayset.py). -/
set_option linter.unusedVariables false
set_option linter.unusedSimpArgs false
namespace Go.Am
abbrev pt (b : Nat) : Value := .pointer (some ⟨b, 0, none⟩)
abbrev Pc := Int × BitVec 64
structure Pl where
  unit : Int
  share : Int
  core : Int
  pieces : List Pc
structure PlanD where
  frame : Int
  cores : BitVec 32
  places : List Pl

def pcV (p : Pc) : List Value := [.int .i64 p.1, u64 p.2]
theorem pcV_len (p : Pc) : (pcV p).length = 2 := rfl

/-- Pieces. -/
def PcV (m : Mem) (ps : List Pc) (v : Value) : Prop := Sl m 2 ps.length (ps.flatMap pcV) v ∧ SlLt m v
theorem PcV.keep {m m' : Mem} {ps : List Pc} {v : Value} (h : PcV m ps v) (hx : Ext m m') : PcV m' ps v := ⟨h.1.keep h.2 hx, h.2.keep hx⟩

def plV (x : Pl) (pv : Value) : List Value := [.int .i64 x.unit, .int .i64 x.share, .int .i64 x.core, pv]
/-- A place. -/
def PlV (m : Mem) (x : Pl) (v : Value) : Prop := ∃ pv, v = .agg (plV x pv).toArray ∧ PcV m x.pieces pv
theorem PlV.keep {m m' : Mem} {x : Pl} {v : Value} (h : PlV m x v) (hx : Ext m m') : PlV m' x v := let ⟨pv, a, b⟩ := h; ⟨pv, a, b.keep hx⟩

/-- Places. -/
def PlsV (m : Mem) (l : List Pl) (v : Value) : Prop := ∃ cs, Sl m 4 l.length cs v ∧ SlLt m v ∧ ∀ (i : Nat) (h : i < l.length), ∃ pv, (cs.drop (i * 4)).take 4 = plV l[i] pv ∧ PcV m l[i].pieces pv
theorem PlsV.keep {m m' : Mem} {l : List Pl} {v : Value} (h : PlsV m l v) (hx : Ext m m') : PlsV m' l v := by
  obtain ⟨cs, a, b, c⟩ := h
  refine ⟨cs, a.keep b hx, b.keep hx, fun i hi => ?_⟩
  obtain ⟨pv, d, e⟩ := c i hi
  exact ⟨pv, d, e.keep hx⟩

def planV (p : PlanD) (pv : Value) : List Value := [.int .i64 p.frame, u32 p.cores, pv]
/-- A plan. -/
def PlanV (m : Mem) (p : PlanD) (v : Value) : Prop := ∃ pv, v = .agg (planV p pv).toArray ∧ PlsV m p.places pv
theorem PlanV.keep {m m' : Mem} {p : PlanD} {v : Value} (h : PlanV m p v) (hx : Ext m m') : PlanV m' p v := let ⟨pv, a, b⟩ := h; ⟨pv, a, b.keep hx⟩

theorem PlsV.one {m : Mem} {l : List Pl} {v : Value} (h : PlsV m l v) : v.oneCell' = true := let ⟨_, a, _⟩ := h; a.one
theorem PcV.one {m : Mem} {l : List Pc} {v : Value} (h : PcV m l v) : v.oneCell' = true := h.1.one
theorem PlsV.cells {m : Mem} {l : List Pl} {v : Value} (h : PlsV m l v) : v.cells = #[v] := let ⟨_, a, _⟩ := h; a.cells
theorem PcV.cells {m : Mem} {l : List Pc} {v : Value} (h : PcV m l v) : v.cells = #[v] := h.1.cells

theorem PlsV.len {m : Mem} {l : List Pl} {v : Value} (h : PlsV m l v) : aLen v = some (.int .i64 l.length) := let ⟨_, a, _⟩ := h; a.len
theorem PcV.len {m : Mem} {l : List Pc} {v : Value} (h : PcV m l v) : aLen v = some (.int .i64 l.length) := h.1.len

/-- What is read of a place. -/
theorem PlsV.elem {m : Mem} {l : List Pl} {v : Value} (h : PlsV m l v) {i : Nat} (hi : i < l.length) : ∃ b o pv, aIdxS 4 v (.int .i64 i) = some (.pointer (some ⟨b, o, none⟩)) ∧
    aLoad true 4 m (.pointer (some ⟨b, o, none⟩)) = some (.agg (plV l[i] pv).toArray) ∧ (∀ j, j < 4 → aLoad false 1 m (.pointer (some ⟨b, o + j, none⟩)) = (plV l[i] pv)[j]?) ∧ PcV m l[i].pieces pv ∧ b < m.next := by
  obtain ⟨cs, a, b, c⟩ := h
  obtain ⟨pv, d, e⟩ := c i hi
  have hlt : ∃ b o, aIdxS 4 v (.int .i64 i) = some (.pointer (some ⟨b, o, none⟩)) ∧ b < m.next := by
    cases a with
    | nil h hc => omega
    | @«at» b' o c hc h =>
      refine ⟨b', o + i * 4, ?_, b⟩
      simp only [aIdxS]; rw [if_pos (by omega), Int.toNat_natCast]
  obtain ⟨b', o', h1, h4⟩ := hlt
  obtain ⟨b'', o'', h1', h2, h3⟩ := a.cell (k := .i64) hi
  rw [h1] at h1'
  cases h1'
  refine ⟨b', o', pv, h1, by rw [h3, d], fun j hj => ?_, e, h4⟩
  rw [h2 j hj, ← d, List.getElem?_take, List.getElem?_drop, if_pos hj]

/-- What is read of a piece. -/
theorem PcV.elem {m : Mem} {l : List Pc} {v : Value} (h : PcV m l v) {i : Nat} (hi : i < l.length) : ∃ b o, aIdxS 2 v (.int .i64 i) = some (.pointer (some ⟨b, o, none⟩)) ∧
    aLoad true 2 m (.pointer (some ⟨b, o, none⟩)) = some (.agg (pcV l[i]).toArray) ∧ (∀ j, j < 2 → aLoad false 1 m (.pointer (some ⟨b, o + j, none⟩)) = (pcV l[i])[j]?) ∧ b < m.next := by
  obtain ⟨b, o, a1, a2, a3, a4⟩ := h.1.elem pcV_len (k := .i64) hi
  exact ⟨b, o, a1, a2, a3, a4 h.2⟩

/-! ### as arguments -/

theorem pcs_read {m : Mem} {v : Value} (h : Rd m (.sl [.int .i64, .int .u64]) v) : ∃ l : List Pc, PcV m l v := by
  obtain ⟨l, h1, h2, -⟩ := Rd.slice (f := pcV) (fun cs hc => by
    obtain ⟨c, r, rfl, g1, g2⟩ := hc.one
    obtain ⟨d, r, rfl, g3, g4⟩ := g2.one
    cases g4.none
    obtain ⟨a, rfl, -⟩ := g1.i64
    obtain ⟨b, rfl⟩ := g3.u64
    exact ⟨(a, b), rfl⟩) h
  exact ⟨l, h1, h2⟩

theorem rd_u32 {m : Mem} {v : Value} (h : Rd m (.int .u32) v) : ∃ x : BitVec 32, v = Go.Am.u32 x := by
  simp only [Rd] at h
  obtain ⟨n, rfl, hw⟩ := h
  have : IntKind.u32.min = 0 := by decide
  have : IntKind.u32.max = 4294967295 := by decide
  simp only [Lit.wf, Bool.and_eq_true, decide_eq_true_eq] at hw
  refine ⟨BitVec.ofNat 32 n.toNat, ?_⟩
  unfold Go.Am.u32
  rw [BitVec.toNat_ofNat, Nat.mod_eq_of_lt (by omega)]
  congr 1; omega

theorem list_choice {α : Type} {P : Nat → α → Prop} : ∀ {n : Nat}, (∀ i, i < n → ∃ a, P i a) → ∃ l : List α, l.length = n ∧ ∀ (i : Nat) (h : i < l.length), P i l[i]
  | 0, _ => ⟨[], rfl, by simp⟩
  | n + 1, h => by
    obtain ⟨l, h1, h2⟩ := list_choice (n := n) fun i hi => h i (by omega)
    obtain ⟨a, ha⟩ := h n (by omega)
    refine ⟨l ++ [a], by simp [h1], fun i hi => ?_⟩
    by_cases e : i < l.length
    · rw [List.getElem_append_left e]; exact h2 i e
    · have : i = n := by simp at hi; omega
      subst this
      rw [List.getElem_append_right (by omega)]; simpa using ha

abbrev pcSh : List Sh := [.int .i64, .int .u64]
abbrev plSh : List Sh := [.int .i64, .int .i64, .int .i64, .sl pcSh]
abbrev planSh : List Sh := [.int .i64, .int .u32, .sl plSh]

theorem pl_read {m : Mem} {cs : List Value} (h : RdL m plSh cs) : ∃ (x : Pl) (pv : Value), cs = plV x pv ∧ PcV m x.pieces pv ∧ (-9223372036854775808 ≤ x.unit ∧ x.unit ≤ 9223372036854775807) ∧ (-9223372036854775808 ≤ x.share ∧ x.share ≤ 9223372036854775807) ∧ (-9223372036854775808 ≤ x.core ∧ x.core ≤ 9223372036854775807) := by
  obtain ⟨a, r, rfl, h1, k1⟩ := h.one
  obtain ⟨b, r, rfl, h2, k2⟩ := k1.one
  obtain ⟨c, r, rfl, h3, k3⟩ := k2.one
  obtain ⟨d, r, rfl, h4, k4⟩ := k3.one
  cases k4.none
  obtain ⟨u, rfl, b1⟩ := h1.i64; obtain ⟨s, rfl, b2⟩ := h2.i64; obtain ⟨c, rfl, b3⟩ := h3.i64
  obtain ⟨l, hl⟩ := pcs_read h4
  exact ⟨⟨u, s, c, l⟩, d, rfl, hl, b1, b2, b3⟩

theorem pls_read {m : Mem} {v : Value} (h : Rd m (.sl plSh) v) : ∃ l : List Pl, PlsV m l v ∧ ∀ x ∈ l, (-9223372036854775808 ≤ x.unit ∧ x.unit ≤ 9223372036854775807) ∧ (-9223372036854775808 ≤ x.share ∧ x.share ≤ 9223372036854775807) ∧ (-9223372036854775808 ≤ x.core ∧ x.core ≤ 9223372036854775807) := by
  simp only [Rd] at h
  obtain ⟨n, cs, h1, h2, h3, h4, -⟩ := h
  obtain ⟨l, rfl, hl⟩ := list_choice fun i hi => pl_read (h4 i hi)
  refine ⟨l, ⟨cs, h1, h2, fun i hi => ?_⟩, fun x hx => ?_⟩
  · obtain ⟨pv, a, b, -⟩ := hl i hi
    exact ⟨pv, a, b⟩
  · obtain ⟨i, hi, rfl⟩ := List.getElem_of_mem hx
    obtain ⟨pv, a, b, c⟩ := hl i hi
    exact c

def PlanOk (p : PlanD) : Prop := (-9223372036854775808 ≤ p.frame ∧ p.frame ≤ 9223372036854775807) ∧ ∀ x ∈ p.places, (-9223372036854775808 ≤ x.unit ∧ x.unit ≤ 9223372036854775807) ∧ (-9223372036854775808 ≤ x.share ∧ x.share ≤ 9223372036854775807) ∧ (-9223372036854775808 ≤ x.core ∧ x.core ≤ 9223372036854775807)

theorem plan_read {m : Mem} {v : Value} (h : RdA m (true, planSh) v) : ∃ p : PlanD, PlanV m p v ∧ PlanOk p := by
  obtain ⟨cs, rfl, g⟩ := h.agg
  obtain ⟨a, r, rfl, h1, k1⟩ := g.one
  obtain ⟨b, r, rfl, h2, k2⟩ := k1.one
  obtain ⟨c, r, rfl, h3, k3⟩ := k2.one
  cases k3.none
  obtain ⟨f, rfl, b1⟩ := h1.i64
  obtain ⟨x, rfl⟩ := rd_u32 h2
  obtain ⟨l, hl, hb⟩ := pls_read h3
  exact ⟨⟨f, x, l⟩, ⟨c, rfl, hl⟩, b1, hb⟩
end Go.Am


/- PlanW over the table of stage (relayset.py). -/
set_option linter.unusedVariables false
set_option linter.unusedSimpArgs false
namespace Go.Am
variable {m : Mem}

/-- Is a core in a plan? -/
def hasC (p : PlanD) (c : Int) : Bool := decide (0 ≤ c) && decide (c < 16) && p.cores.getLsbD c.toNat

theorem bit32 {x : BitVec 32} {i : Nat} : (decide (x >>> i &&& 1#32 = 1#32)) = x.getLsbD i := by
  rw [Bool.eq_iff_iff, decide_eq_true_eq]
  constructor
  · intro h
    have := congrArg (fun z => z.getLsbD 0) h
    simpa using this
  · intro h
    apply BitVec.eq_of_getLsbD_eq
    intro j hj
    rw [BitVec.getLsbD_and, BitVec.getLsbD_ushiftRight]
    by_cases e : j = 0
    · subst e; simp [h]
    · simp [e]

theorem has_spec {p : PlanD} {v : Value} {c : Int} (hv : PlanV m p v) : WC R F.plan_has [v, .int .i64 c] m fun r m' => r = .bool (hasC p c) ∧ Ext m m' := by
  refine WC.of R.plan_has rfl ?_
  obtain ⟨pv, rfl, hp⟩ := hv
  simp only [RC.plan_has, planV, go_sem, Int.reduceBEq, Int.reduceBNe, Int.reduceNeg, reduceCtorEq, Nat.reduceEqDiff, Nat.reduceAdd, Nat.reduceLeDiff, Nat.reduceMul, Nat.reduceSub, Int.reduceToNat, Int.reduceLT, Int.reduceLE, hp.one]
  have hx : Ext m (m.new (.cells [.int .i64 p.frame, u32 p.cores, pv] (some 3))) := Ext.new
  have hb : Bk (m.new (.cells [.int .i64 p.frame, u32 p.cores, pv] (some 3))) m.next [.int .i64 p.frame, u32 p.cores, pv] 3 := Bk.new
  generalize m.new (.cells [.int .i64 p.frame, u32 p.cores, pv] (some 3)) = m1 at hx hb ⊢
  unfold hasC
  refine gT.of (fun h1 => ?_) (fun h1 => ?_)
  · simp only [go_sem, Int.reduceBEq, Int.reduceBNe, Int.reduceNeg, reduceCtorEq, Nat.reduceEqDiff, Nat.reduceAdd, Nat.reduceLeDiff, Nat.reduceMul, Nat.reduceSub, Int.reduceToNat, Int.reduceLT, Int.reduceLE, h1]
    refine gT.of (fun h2 => ?_) (fun h2 => ?_)
    · simp only [decide_eq_true_eq] at h1
      simp only [go_sem, Int.reduceBEq, Int.reduceBNe, Int.reduceNeg, reduceCtorEq, Nat.reduceEqDiff, Nat.reduceAdd, Nat.reduceLeDiff, Nat.reduceMul, Nat.reduceSub, Int.reduceToNat, Int.reduceLT, Int.reduceLE, h1, h2, load_w, load_a, store_b, idxS_b, set_blk, new_blk, set_next, new_next, len_s, ldW_c, ldA_c, stB_c, toArr_one, size_one, toList_toArr, size_toArr, List.length_cons, List.length_nil, List.getElem?_cons_zero, List.getElem?_cons_succ, Nat.zero_add, Nat.add_zero, hb.at_, bit32]
      exact hx
    · simp only [go_sem, Int.reduceBEq, Int.reduceBNe, Int.reduceNeg, reduceCtorEq, Nat.reduceEqDiff, Nat.reduceAdd, Nat.reduceLeDiff, Nat.reduceMul, Nat.reduceSub, Int.reduceToNat, Int.reduceLT, Int.reduceLE, h1, h2]
      exact hx
  · simp only [go_sem, Int.reduceBEq, Int.reduceBNe, Int.reduceNeg, reduceCtorEq, Nat.reduceEqDiff, Nat.reduceAdd, Nat.reduceLeDiff, Nat.reduceMul, Nat.reduceSub, Int.reduceToNat, Int.reduceLT, Int.reduceLE, h1]
    exact hx

theorem split_spec {x : Pl} {v : Value} (hv : PlV m x v) : WC R F.plan_split [v] m fun r m' => r = .bool (decide (0 < x.pieces.length)) ∧ Ext m m' := by
  refine WC.of R.plan_split rfl ?_
  obtain ⟨pv, rfl, hp⟩ := hv
  simp only [RC.plan_split, plV, go_sem, Int.reduceBEq, Int.reduceBNe, Int.reduceNeg, reduceCtorEq, Nat.reduceEqDiff, Nat.reduceAdd, Nat.reduceLeDiff, Nat.reduceMul, Nat.reduceSub, Int.reduceToNat, Int.reduceLT, Int.reduceLE, hp.one]
  have hx : Ext m (m.new (.cells [.int .i64 x.unit, .int .i64 x.share, .int .i64 x.core, pv] (some 4))) := Ext.new
  have hb : Bk (m.new (.cells [.int .i64 x.unit, .int .i64 x.share, .int .i64 x.core, pv] (some 4))) m.next [.int .i64 x.unit, .int .i64 x.share, .int .i64 x.core, pv] 4 := Bk.new
  generalize m.new (.cells [.int .i64 x.unit, .int .i64 x.share, .int .i64 x.core, pv] (some 4)) = m1 at hx hb ⊢
  simp only [load_w, load_a, store_b, idxS_b, set_blk, new_blk, set_next, new_next, len_s, ldW_c, ldA_c, stB_c, toArr_one, size_one, toList_toArr, size_toArr, List.length_cons, List.length_nil, List.getElem?_cons_zero, List.getElem?_cons_succ, Nat.zero_add, Nat.add_zero, hb.at_, go_sem, Int.reduceBEq, Int.reduceBNe, Int.reduceNeg, reduceCtorEq, Nat.reduceEqDiff, Nat.reduceAdd, Nat.reduceLeDiff, Nat.reduceMul, Nat.reduceSub, Int.reduceToNat, Int.reduceLT, Int.reduceLE, hp.len]
  exact ⟨by congr 2; simp, hx⟩

/-- A core's windows. -/
def winPc (c : Int) (a : BitVec 64) (ps : List Pc) : BitVec 64 := ps.foldl (fun a y => if y.1 = c then a ||| y.2 else a) a
def winW (l : List Pl) (c : Int) : BitVec 64 := l.foldl (fun a x => winPc c a x.pieces) 0#64

theorem foldl_take {α β : Type} {f : β → α → β} {b : β} {l : List α} {i : Nat} (h : i < l.length) : (l.take (i + 1)).foldl f b = f ((l.take i).foldl f b) l[i] := by
  rw [List.take_succ_eq_append_getElem h, List.foldl_append]; rfl

theorem Windows_spec {p : PlanD} {v : Value} {c : Int} (hv : PlanV m p v) (hl : p.places.length < 1000000) (hp1 : ∀ x ∈ p.places, x.pieces.length < 1000000) : WC R F.plan_Windows [v, .int .i64 c] m fun r m' => r = u64 (winW p.places c) ∧ Ext m m' := by
  refine WC.of R.plan_Windows rfl ?_
  obtain ⟨pv, rfl, hp⟩ := hv
  simp only [RC.plan_Windows, planV, go_sem, Int.reduceBEq, Int.reduceBNe, Int.reduceNeg, reduceCtorEq, Nat.reduceEqDiff, Nat.reduceAdd, Nat.reduceLeDiff, Nat.reduceMul, Nat.reduceSub, Int.reduceToNat, Int.reduceLT, Int.reduceLE, hp.one]
  have hx : Ext m (m.new (.cells [.int .i64 p.frame, u32 p.cores, pv] (some 3))) := Ext.new
  have hb : Bk (m.new (.cells [.int .i64 p.frame, u32 p.cores, pv] (some 3))) m.next [.int .i64 p.frame, u32 p.cores, pv] 3 := Bk.new
  generalize m.new (.cells [.int .i64 p.frame, u32 p.cores, pv] (some 3)) = m1 at hx hb ⊢
  have hp1' := hp.keep hx
  simp only [go_sem, Int.reduceBEq, Int.reduceBNe, Int.reduceNeg, reduceCtorEq, Nat.reduceEqDiff, Nat.reduceAdd, Nat.reduceLeDiff, Nat.reduceMul, Nat.reduceSub, Int.reduceToNat, Int.reduceLT, Int.reduceLE, load_w, load_a, store_b, idxS_b, set_blk, new_blk, set_next, new_next, len_s, ldW_c, ldA_c, stB_c, toArr_one, size_one, toList_toArr, size_toArr, List.length_cons, List.length_nil, List.getElem?_cons_zero, List.getElem?_cons_succ, Nat.zero_add, Nat.add_zero, hb.at_, hp1'.len]
  refine WL.of (fun n e m' => ∃ i : Nat, i ≤ p.places.length ∧ n = p.places.length - i ∧ e = [(1, .int .i64 c), (5, u64 (winW (p.places.take i) c)), (11, pv), (12, .int .i64 p.places.length), (13, .int .i64 i)] ∧ Ext m1 m') p.places.length
    ⟨0, by omega, by omega, by simp only [go_sem, Int.reduceBEq, Int.reduceBNe, Int.reduceNeg, reduceCtorEq, Nat.reduceEqDiff, Nat.reduceAdd, Nat.reduceLeDiff, Nat.reduceMul, Nat.reduceSub, Int.reduceToNat, Int.reduceLT, Int.reduceLE] <;> rfl, Ext.refl _⟩ ?_
  rintro _ _ m2 ⟨i, hi, rfl, rfl, hx2⟩
  have e1 : i < 1000000 → IntKind.wrap .i64 ((i : Int) + 1) = ((i + 1 : Nat) : Int) := fun _ => by rw [wrap_i64 (by omega) (by omega)]; rfl
  have hp2 := hp1'.keep hx2
  simp only [RB.plan_Windows_2, go_sem, Int.reduceBEq, Int.reduceBNe, Int.reduceNeg, reduceCtorEq, Nat.reduceEqDiff, Nat.reduceAdd, Nat.reduceLeDiff, Nat.reduceMul, Nat.reduceSub, Int.reduceToNat, Int.reduceLT, Int.reduceLE]
  refine gT.of (fun h1 => ?_) (fun h1 => ?_)
  · simp only [decide_eq_true_eq] at h1
    have hil : i < p.places.length := by omega
    obtain ⟨b, o, qv, a1, a2, a3, a4, a5⟩ := hp2.elem hil
    have hmem : p.places[i] ∈ p.places := List.getElem_mem hil
    have hpl := hp1 _ hmem
    have hfold : winW (p.places.take (i + 1)) c = winPc c (winW (p.places.take i) c) p.places[i].pieces := foldl_take hil
    generalize p.places[i] = x at *
    simp only [plV] at a2
    simp only [go_sem, Int.reduceBEq, Int.reduceBNe, Int.reduceNeg, reduceCtorEq, Nat.reduceEqDiff, Nat.reduceAdd, Nat.reduceLeDiff, Nat.reduceMul, Nat.reduceSub, Int.reduceToNat, Int.reduceLT, Int.reduceLE, a1, a2, load_w, load_a, store_b, idxS_b, set_blk, new_blk, set_next, new_next, len_s, ldW_c, ldA_c, stB_c, toArr_one, size_one, toList_toArr, size_toArr, List.length_cons, List.length_nil, List.getElem?_cons_zero, List.getElem?_cons_succ, Nat.zero_add, Nat.add_zero, a4.one, a4.len, Nat.reduceLeDiff]
    have hx3 : Ext m2 (m2.new (.cells [.int .i64 x.unit, .int .i64 x.share, .int .i64 x.core, qv] (some 4))) := Ext.new
    have hb3 : Bk (m2.new (.cells [.int .i64 x.unit, .int .i64 x.share, .int .i64 x.core, qv] (some 4))) m2.next [.int .i64 x.unit, .int .i64 x.share, .int .i64 x.core, qv] 4 := Bk.new
    generalize m2.new (.cells [.int .i64 x.unit, .int .i64 x.share, .int .i64 x.core, qv] (some 4)) = m3 at hx3 hb3 ⊢
    have q3 := a4.keep hx3
    refine WL.of (fun n e m' => ∃ j : Nat, j ≤ x.pieces.length ∧ n = x.pieces.length - j ∧ e = [(1, .int .i64 c), (5, u64 (winPc c (winW (p.places.take i) c) (x.pieces.take j))), (11, pv), (12, .int .i64 p.places.length), (13, .int .i64 i), (18, qv), (19, .int .i64 x.pieces.length), (20, .int .i64 j)] ∧ Ext m3 m') x.pieces.length
      ⟨0, by omega, by omega, by simp only [go_sem, Int.reduceBEq, Int.reduceBNe, Int.reduceNeg, reduceCtorEq, Nat.reduceEqDiff, Nat.reduceAdd, Nat.reduceLeDiff, Nat.reduceMul, Nat.reduceSub, Int.reduceToNat, Int.reduceLT, Int.reduceLE] <;> rfl, Ext.refl _⟩ ?_
    rintro _ _ m4 ⟨j, hj, rfl, rfl, hx4⟩
    have e2 : j < 1000000 → IntKind.wrap .i64 ((j : Int) + 1) = ((j + 1 : Nat) : Int) := fun _ => by rw [wrap_i64 (by omega) (by omega)]; rfl
    have q4 := q3.keep hx4
    simp only [RB.plan_Windows_1, go_sem, Int.reduceBEq, Int.reduceBNe, Int.reduceNeg, reduceCtorEq, Nat.reduceEqDiff, Nat.reduceAdd, Nat.reduceLeDiff, Nat.reduceMul, Nat.reduceSub, Int.reduceToNat, Int.reduceLT, Int.reduceLE]
    refine gT.of (fun h2 => ?_) (fun h2 => ?_)
    · simp only [decide_eq_true_eq] at h2
      have hjl : j < x.pieces.length := by omega
      obtain ⟨b', o', c1, c2, c3, c4⟩ := q4.elem hjl
      have hf2 : winPc c (winW (p.places.take i) c) (x.pieces.take (j + 1)) = (if x.pieces[j].1 = c then winPc c (winW (p.places.take i) c) (x.pieces.take j) ||| x.pieces[j].2 else winPc c (winW (p.places.take i) c) (x.pieces.take j)) := foldl_take hjl
      generalize x.pieces[j] = y at *
      simp only [pcV] at c2
      simp only [go_sem, Int.reduceBEq, Int.reduceBNe, Int.reduceNeg, reduceCtorEq, Nat.reduceEqDiff, Nat.reduceAdd, Nat.reduceLeDiff, Nat.reduceMul, Nat.reduceSub, Int.reduceToNat, Int.reduceLT, Int.reduceLE, c1, c2, load_w, load_a, store_b, idxS_b, set_blk, new_blk, set_next, new_next, len_s, ldW_c, ldA_c, stB_c, toArr_one, size_one, toList_toArr, size_toArr, List.length_cons, List.length_nil, List.getElem?_cons_zero, List.getElem?_cons_succ, Nat.zero_add, Nat.add_zero]
      have hx5 : Ext m4 (m4.new (.cells [.int .i64 y.1, u64 y.2] (some 2))) := Ext.new
      have hb5 : Bk (m4.new (.cells [.int .i64 y.1, u64 y.2] (some 2))) m4.next [.int .i64 y.1, u64 y.2] 2 := Bk.new
      generalize m4.new (.cells [.int .i64 y.1, u64 y.2] (some 2)) = m5 at hx5 hb5 ⊢
      try simp only [load_w, load_a, store_b, idxS_b, set_blk, new_blk, set_next, new_next, len_s, ldW_c, ldA_c, stB_c, toArr_one, size_one, toList_toArr, size_toArr, List.length_cons, List.length_nil, List.getElem?_cons_zero, List.getElem?_cons_succ, Nat.zero_add, Nat.add_zero, hb5.at_, go_sem, Int.reduceBEq, Int.reduceBNe, Int.reduceNeg, reduceCtorEq, Nat.reduceEqDiff, Nat.reduceAdd, Nat.reduceLeDiff, Nat.reduceMul, Nat.reduceSub, Int.reduceToNat, Int.reduceLT, Int.reduceLE]
      refine gT.of (fun h3 => ?_) (fun h3 => ?_)
      · simp only [beq_iff_eq] at h3
        simp only [go_sem, Int.reduceBEq, Int.reduceBNe, Int.reduceNeg, reduceCtorEq, Nat.reduceEqDiff, Nat.reduceAdd, Nat.reduceLeDiff, Nat.reduceMul, Nat.reduceSub, Int.reduceToNat, Int.reduceLT, Int.reduceLE, load_w, load_a, store_b, idxS_b, set_blk, new_blk, set_next, new_next, len_s, ldW_c, ldA_c, stB_c, toArr_one, size_one, toList_toArr, size_toArr, List.length_cons, List.length_nil, List.getElem?_cons_zero, List.getElem?_cons_succ, Nat.zero_add, Nat.add_zero, hb5.at_, e2 (by omega)]
        refine ⟨x.pieces.length - (j + 1), by omega, j + 1, by omega, rfl, ?_, hx4.trans hx5⟩
        rw [hf2, if_pos h3]
      · simp only [beq_eq_false_iff_ne] at h3
        simp only [go_sem, Int.reduceBEq, Int.reduceBNe, Int.reduceNeg, reduceCtorEq, Nat.reduceEqDiff, Nat.reduceAdd, Nat.reduceLeDiff, Nat.reduceMul, Nat.reduceSub, Int.reduceToNat, Int.reduceLT, Int.reduceLE, e2 (by omega)]
        refine ⟨x.pieces.length - (j + 1), by omega, j + 1, by omega, rfl, ?_, hx4.trans hx5⟩
        rw [hf2, if_neg h3]
    · simp only [go_sem, Int.reduceBEq, Int.reduceBNe, Int.reduceNeg, reduceCtorEq, Nat.reduceEqDiff, Nat.reduceAdd, Nat.reduceLeDiff, Nat.reduceMul, Nat.reduceSub, Int.reduceToNat, Int.reduceLT, Int.reduceLE, e1 (by omega)]
      simp only [decide_eq_false_iff_not] at h2
      refine ⟨p.places.length - (i + 1), by omega, i + 1, by omega, rfl, ?_, hx2.trans (hx3.trans hx4)⟩
      rw [hfold, List.take_of_length_le (l := x.pieces) (by omega)]
  · simp only [go_sem, Int.reduceBEq, Int.reduceBNe, Int.reduceNeg, reduceCtorEq, Nat.reduceEqDiff, Nat.reduceAdd, Nat.reduceLeDiff, Nat.reduceMul, Nat.reduceSub, Int.reduceToNat, Int.reduceLT, Int.reduceLE]
    simp only [decide_eq_false_iff_not] at h1
    rw [List.take_of_length_le (by omega)]
    exact ⟨rfl, hx.trans hx2⟩
end Go.Am


/- Counting the bits of a word by halves, as math/bits does: what it comes to. -/
namespace Go.Am

/-- How many of the first n bits are set. -/
def popN : Nat → Nat → Nat
  | 0, _ => 0
  | n + 1, x => x % 2 + popN n (x / 2)

theorem and_split (a b : Nat) : a &&& b = ((a % 256) &&& (b % 256)) + 256 * ((a / 256) &&& (b / 256)) := by
  have h1 : (a &&& b) % 256 = (a % 256) &&& (b % 256) := by
    have := Nat.and_mod_two_pow (a := a) (b := b) (n := 8)
    simpa using this
  have h2 : (a &&& b) / 256 = (a / 256) &&& (b / 256) := by
    have := Nat.and_div_two_pow (a := a) (b := b) (n := 8)
    simpa using this
  rw [← h1, ← h2]; omega

def rep (m : Nat) : Nat → Nat
  | 0 => 0
  | n + 1 => m + 256 * rep m n

def halves (s m n x : Nat) : Nat := ((x / 2 ^ s) &&& rep m n) + (x &&& rep m n)

theorem halves_step {s m n d x : Nat} (hd : d < 256) (hm : m < 256) (hs : s < 8) (hlow : ∀ c, c < 2 ^ s → ∀ d, d < 256 → ((d / 2 ^ s + 2 ^ (8 - s) * c) &&& m) = (d / 2 ^ s) &&& m) :
    halves s m (n + 1) (d + 256 * x) = halves s m 1 d + 256 * halves s m n x := by
  have e256 : (256 : Nat) = 2 ^ s * 2 ^ (8 - s) := by rw [← Nat.pow_add, show s + (8 - s) = 8 by omega]
  have hp : 0 < 2 ^ s := Nat.pow_pos (by omega)
  have hq : 0 < 2 ^ (8 - s) := Nat.pow_pos (by omega)
  have hdq : d / 2 ^ s < 2 ^ (8 - s) := by
    rw [Nat.div_lt_iff_lt_mul hp, Nat.mul_comm, ← e256]; exact hd
  have hdiv : (d + 256 * x) / 2 ^ s = (d / 2 ^ s + 2 ^ (8 - s) * (x % 2 ^ s)) + 256 * (x / 2 ^ s) := by
    have hx : x = x % 2 ^ s + 2 ^ s * (x / 2 ^ s) := (Nat.mod_add_div x (2 ^ s)).symm
    have : d + 256 * x = d + 2 ^ s * (2 ^ (8 - s) * x) := by rw [← Nat.mul_assoc, ← e256]
    rw [this, Nat.add_mul_div_left _ _ hp]
    conv => lhs; rw [hx]
    rw [Nat.mul_add, ← Nat.mul_assoc, Nat.mul_comm (2 ^ (8 - s)) (2 ^ s), ← e256]; omega
  have hlo : d / 2 ^ s + 2 ^ (8 - s) * (x % 2 ^ s) < 256 := by
    have : x % 2 ^ s < 2 ^ s := Nat.mod_lt _ hp
    have h2 : 2 ^ (8 - s) * (x % 2 ^ s) + 2 ^ (8 - s) ≤ 256 := by
      rw [e256, Nat.mul_comm (2 ^ s), ← Nat.mul_succ]; exact Nat.mul_le_mul_left _ this
    omega
  unfold halves
  simp only [rep, Nat.mul_zero, Nat.add_zero]
  rw [hdiv, and_split (_ + 256 * (x / 2 ^ s)), and_split (d + 256 * x)]
  rw [Nat.add_mul_mod_self_left, Nat.add_mul_mod_self_left, Nat.mod_eq_of_lt hlo, Nat.mod_eq_of_lt hm, Nat.add_mul_mod_self_left, Nat.mod_eq_of_lt hd]
  rw [Nat.add_mul_div_left _ _ (by omega), Nat.add_mul_div_left _ _ (by omega), Nat.add_mul_div_left _ _ (by omega), Nat.div_eq_of_lt hlo, Nat.div_eq_of_lt hm, Nat.div_eq_of_lt hd]
  simp only [Nat.zero_add]
  rw [hlow _ (Nat.mod_lt _ hp) _ hd]
  omega

/-- The third step: one sum, then the mask. -/
def thirds (n x : Nat) : Nat := (x / 16 + x) &&& rep 15 n

theorem thirds_step {n d x : Nat} (hd : d % 16 ≤ 4 ∧ d / 16 ≤ 4) (hx : x % 16 ≤ 4) : thirds (n + 1) (d + 256 * x) = (d / 16 + d % 16) + 256 * thirds n x := by
  unfold thirds
  simp only [rep]
  have h1 : (d + 256 * x) / 16 + (d + 256 * x) = (d / 16 + 16 * (x % 16) + d) + 256 * (x / 16 + x) := by omega
  have h2 : d / 16 + 16 * (x % 16) + d < 256 := by omega
  rw [h1, and_split, Nat.add_mul_mod_self_left, Nat.mod_eq_of_lt h2, Nat.add_mul_div_left _ _ (by omega), Nat.div_eq_of_lt h2]
  rw [show (15 + 256 * rep 15 n) % 256 = 15 by omega, show (15 + 256 * rep 15 n) / 256 = rep 15 n by omega]
  have h3 : (d / 16 + 16 * (x % 16) + d) &&& 15 = (d / 16 + 16 * (x % 16) + d) % 16 := Nat.and_two_pow_sub_one_eq_mod _ 4
  rw [h3, Nat.zero_add]
  omega

/-- The bytes of a number, each counted. -/
def counted : Nat → Nat → Nat
  | 0, _ => 0
  | n + 1, x => popN 8 (x % 256) + 256 * counted n (x / 256)

theorem byte_fact : ∀ d, d < 256 → halves 2 51 1 (halves 1 85 1 d) / 16 + halves 2 51 1 (halves 1 85 1 d) % 16 = popN 8 d ∧ halves 1 85 1 d < 256 ∧
    halves 2 51 1 (halves 1 85 1 d) < 256 ∧ halves 2 51 1 (halves 1 85 1 d) % 16 ≤ 4 ∧ halves 2 51 1 (halves 1 85 1 d) / 16 ≤ 4 := by decide +kernel

theorem low1 : ∀ c, c < 2 ^ 1 → ∀ d, d < 256 → ((d / 2 ^ 1 + 2 ^ (8 - 1) * c) &&& 85) = (d / 2 ^ 1) &&& 85 := by decide +kernel
theorem low2 : ∀ c, c < 2 ^ 2 → ∀ d, d < 256 → ((d / 2 ^ 2 + 2 ^ (8 - 2) * c) &&& 51) = (d / 2 ^ 2) &&& 51 := by decide +kernel

theorem bytes_all : ∀ (n x : Nat), thirds n (halves 2 51 n (halves 1 85 n x)) = counted n x ∧ (0 < n → halves 2 51 n (halves 1 85 n x) % 16 ≤ 4)
  | 0, x => by simp [thirds, halves, rep, counted]
  | n + 1, x => by
    have hd : x % 256 < 256 := Nat.mod_lt _ (by omega)
    obtain ⟨f1, f2, f3, f4, f5⟩ := byte_fact _ hd
    have hx : x = x % 256 + 256 * (x / 256) := by omega
    obtain ⟨i1, i2⟩ := bytes_all n (x / 256)
    have h1 := halves_step (s := 1) (m := 85) (n := n) (x := x / 256) hd (by omega) (by omega) low1
    have h2 := halves_step (s := 2) (m := 51) (n := n) (x := halves 1 85 n (x / 256)) f2 (by omega) (by omega) low2
    rw [← hx] at h1
    rw [h1, h2]
    have hm : halves 2 51 n (halves 1 85 n (x / 256)) % 16 ≤ 4 := by
      cases n with
      | zero => simp [halves, rep]
      | succ n => exact i2 (by omega)
    refine ⟨?_, fun _ => by omega⟩
    rw [thirds_step ⟨f4, f5⟩ hm, i1, f1]
    rfl

theorem popN_le : ∀ (n x : Nat), popN n x ≤ n
  | 0, _ => Nat.le_refl _
  | n + 1, x => by have := popN_le n (x / 2); simp only [popN]; omega

theorem popN_add : ∀ (a b x : Nat), popN (a + b) x = popN a x + popN b (x / 2 ^ a)
  | 0, b, x => by simp [popN]
  | a + 1, b, x => by
    rw [show a + 1 + b = (a + b) + 1 by omega]
    simp only [popN]
    rw [popN_add a b (x / 2), Nat.div_div_eq_div_mul, Nat.pow_succ, Nat.mul_comm 2]
    omega

theorem popN_mod : ∀ (n x : Nat), popN n (x % 2 ^ n) = popN n x
  | 0, _ => rfl
  | n + 1, x => by
    simp only [popN]
    have h1 : x % 2 ^ (n + 1) % 2 = x % 2 := Nat.mod_mod_of_dvd _ ⟨2 ^ n, by rw [Nat.pow_succ, Nat.mul_comm]⟩
    have h2 : x % 2 ^ (n + 1) / 2 = x / 2 % 2 ^ n := by rw [Nat.pow_succ, Nat.mul_comm, Nat.mod_mul_right_div_self]
    rw [h1, h2, popN_mod n]

theorem pop_bytes (x : Nat) : popN 64 x = popN 8 (x % 256) + (popN 8 (x / 256 % 256) + (popN 8 (x / 65536 % 256) + (popN 8 (x / 16777216 % 256) + (popN 8 (x / 4294967296 % 256) + (popN 8 (x / 1099511627776 % 256) + (popN 8 (x / 281474976710656 % 256) + popN 8 (x / 72057594037927936 % 256))))))) := by
  have m : ∀ y, popN 8 (y % 256) = popN 8 y := fun y => popN_mod 8 y
  rw [m, m, m, m, m, m, m, m]
  have h (b y : Nat) : popN (8 + b) y = popN 8 y + popN b (y / 256) := popN_add 8 b y
  have h1 := h 56 x
  have h2 := h 48 (x / 256)
  have h3 := h 40 (x / 65536)
  have h4 := h 32 (x / 16777216)
  have h5 := h 24 (x / 4294967296)
  have h6 := h 16 (x / 1099511627776)
  have h7 := h 8 (x / 281474976710656)
  rw [Nat.div_div_eq_div_mul] at h2 h3 h4 h5 h6 h7
  rw [h1, h2, h3, h4, h5, h6, h7]

theorem sum_nums {c0 c1 c2 c3 c4 c5 c6 c7 y1 y2 : Nat} (p0 : c0 ≤ 8) (p1 : c1 ≤ 8) (p2 : c2 ≤ 8) (p3 : c3 ≤ 8) (p4 : c4 ≤ 8) (p5 : c5 ≤ 8) (p6 : c6 ≤ 8) (p7 : c7 ≤ 8)
    (h1 : y1 = (c0 + 256 * c1 + 65536 * c2 + 16777216 * c3 + 4294967296 * c4 + 1099511627776 * c5 + 281474976710656 * c6 + 72057594037927936 * c7) + (c1 + 256 * c2 + 65536 * c3 + 16777216 * c4 + 4294967296 * c5 + 1099511627776 * c6 + 281474976710656 * c7))
    (h2 : y2 = y1 + y1 / 65536) : (y2 + y2 / 4294967296) % 128 = c0 + c1 + c2 + c3 + c4 + c5 + c6 + c7 ∧ y1 < 18446744073709551616 ∧ y2 < 18446744073709551616 ∧ y2 + y2 / 4294967296 < 18446744073709551616 := by
  have a2 : y1 / 65536 = (c2 + c3) + 256 * (c3 + c4) + 65536 * (c4 + c5) + 16777216 * (c5 + c6) + 4294967296 * (c6 + c7) + 1099511627776 * c7 := by omega
  rw [a2] at h2
  have a3 : y2 / 4294967296 = (c4 + c5 + c6 + c7) + 256 * (c5 + c6 + c7) + 65536 * (c6 + c7) + 16777216 * c7 := by omega
  rw [a3]
  refine ⟨?_, ?_, ?_, ?_⟩
  · clear a2 a3; subst h1; subst h2; omega
  · omega
  · omega
  · omega

def pop (x : BitVec 64) : Nat := popN 64 x.toNat

theorem rep85 : rep 85 8 = 6148914691236517205 := by decide
theorem rep51 : rep 51 8 = 3689348814741910323 := by decide
theorem rep15 : rep 15 8 = 1085102592571150095 := by decide

theorem pop1 (x : BitVec 64) : ((x >>> 1 &&& 6148914691236517205#64) + (x &&& 6148914691236517205#64)).toNat = halves 1 85 8 x.toNat := by
  unfold halves
  rw [rep85]
  have h1 : (x.toNat / 2 ^ 1) &&& 6148914691236517205 ≤ 6148914691236517205 := Nat.and_le_right
  have h2 : x.toNat &&& 6148914691236517205 ≤ 6148914691236517205 := Nat.and_le_right
  rw [BitVec.toNat_add, BitVec.toNat_and, BitVec.toNat_and, BitVec.toNat_ushiftRight, Nat.shiftRight_eq_div_pow]
  exact Nat.mod_eq_of_lt (by simp only [BitVec.toNat_ofNat, Nat.reducePow, Nat.reduceMod] at *; omega)

theorem pop2 (x : BitVec 64) : ((x >>> 2 &&& 3689348814741910323#64) + (x &&& 3689348814741910323#64)).toNat = halves 2 51 8 x.toNat := by
  unfold halves
  rw [rep51]
  have h1 : (x.toNat / 2 ^ 2) &&& 3689348814741910323 ≤ 3689348814741910323 := Nat.and_le_right
  have h2 : x.toNat &&& 3689348814741910323 ≤ 3689348814741910323 := Nat.and_le_right
  rw [BitVec.toNat_add, BitVec.toNat_and, BitVec.toNat_and, BitVec.toNat_ushiftRight, Nat.shiftRight_eq_div_pow]
  exact Nat.mod_eq_of_lt (by simp only [BitVec.toNat_ofNat, Nat.reducePow, Nat.reduceMod] at *; omega)

theorem pop3 (x : BitVec 64) (hx : x.toNat ≤ 2 * rep 51 8) : ((x >>> 4 + x) &&& 1085102592571150095#64).toNat = thirds 8 x.toNat := by
  unfold thirds
  rw [rep15]
  rw [rep51] at hx
  rw [BitVec.toNat_and, BitVec.toNat_add, BitVec.toNat_ushiftRight, Nat.shiftRight_eq_div_pow, Nat.mod_eq_of_lt (by omega)]
  rfl

theorem add_shr (x : BitVec 64) (k q : Nat) (hq : 2 ^ k = q) (h : x.toNat + x.toNat / q < 18446744073709551616) : (x + x >>> k).toNat = x.toNat + x.toNat / q := by
  subst hq
  rw [BitVec.toNat_add, BitVec.toNat_ushiftRight, Nat.shiftRight_eq_div_pow]
  exact Nat.mod_eq_of_lt h

theorem counted8 (y : Nat) : counted 8 y = popN 8 (y % 256) + 256 * (popN 8 (y / 256 % 256) + 256 * (popN 8 (y / 65536 % 256) + 256 * (popN 8 (y / 16777216 % 256) + 256 * (popN 8 (y / 4294967296 % 256) + 256 * (popN 8 (y / 1099511627776 % 256) + 256 * (popN 8 (y / 281474976710656 % 256) + 256 * popN 8 (y / 72057594037927936 % 256))))))) := by
  simp only [counted, Nat.div_div_eq_div_mul, Nat.reduceMul, Nat.mul_zero, Nat.add_zero]

theorem final_nums {c0 c1 c2 c3 c4 c5 c6 c7 : Nat} {c d e f : BitVec 64} (p0 : c0 ≤ 8) (p1 : c1 ≤ 8) (p2 : c2 ≤ 8) (p3 : c3 ≤ 8) (p4 : c4 ≤ 8) (p5 : c5 ≤ 8) (p6 : c6 ≤ 8) (p7 : c7 ≤ 8)
    (h4 : c.toNat = c0 + 256 * (c1 + 256 * (c2 + 256 * (c3 + 256 * (c4 + 256 * (c5 + 256 * (c6 + 256 * c7)))))))
    (hd : d = c + c >>> 8) (he : e = d + d >>> 16) (hf : f = e + e >>> 32) : f.toNat % 128 = c0 + (c1 + (c2 + (c3 + (c4 + (c5 + (c6 + c7)))))) := by
  obtain ⟨cn, hcn⟩ : ∃ n, n = c.toNat := ⟨_, rfl⟩
  obtain ⟨y1, hy1⟩ : ∃ n, n = cn + cn / 256 := ⟨_, rfl⟩
  obtain ⟨y2, hy2⟩ : ∃ n, n = y1 + y1 / 65536 := ⟨_, rfl⟩
  obtain ⟨y3, hy3⟩ : ∃ n, n = y2 + y2 / 4294967296 := ⟨_, rfl⟩
  have e0 : y1 = (c0 + 256 * c1 + 65536 * c2 + 16777216 * c3 + 4294967296 * c4 + 1099511627776 * c5 + 281474976710656 * c6 + 72057594037927936 * c7) + (c1 + 256 * c2 + 65536 * c3 + 16777216 * c4 + 4294967296 * c5 + 1099511627776 * c6 + 281474976710656 * c7) := by omega
  obtain ⟨s1, s2, s3, s4⟩ := sum_nums p0 p1 p2 p3 p4 p5 p6 p7 e0 hy2
  have hd2 : d.toNat = y1 := by
    have := add_shr c 8 256 rfl (by rw [← hcn, ← hy1]; exact s2)
    rw [← hd, ← hcn, ← hy1] at this; exact this
  have he2 : e.toNat = y2 := by
    have := add_shr d 16 65536 rfl (by rw [hd2, ← hy2]; exact s3)
    rw [← he, hd2, ← hy2] at this; exact this
  have hf2 : f.toNat = y3 := by
    have := add_shr e 32 4294967296 rfl (by rw [he2]; exact s4)
    rw [← hf, he2, ← hy3] at this; exact this
  rw [hf2, hy3, s1]
  simp only [Nat.add_assoc]

attribute [local irreducible] popN counted halves thirds rep

/-- What math/bits computes: the number of the bits. -/
theorem pop_word (x : BitVec 64) (a b c d e f : BitVec 64) (ha : a = (x >>> 1 &&& 6148914691236517205#64) + (x &&& 6148914691236517205#64)) (hb : b = (a >>> 2 &&& 3689348814741910323#64) + (a &&& 3689348814741910323#64))
    (hc : c = (b >>> 4 + b) &&& 1085102592571150095#64) (hd : d = c + c >>> 8) (he : e = d + d >>> 16) (hf : f = e + e >>> 32) : f.toNat % 128 = pop x := by
  have h1 : a.toNat = halves 1 85 8 x.toNat := by rw [ha]; exact pop1 x
  have h2 : b.toNat = halves 2 51 8 a.toNat := by rw [hb]; exact pop2 a
  have h3 : c.toNat = thirds 8 b.toNat := by
    rw [hc]; refine pop3 b ?_
    rw [h2]; unfold halves
    have h4 : (a.toNat / 2 ^ 2) &&& rep 51 8 ≤ rep 51 8 := Nat.and_le_right
    have h5 : a.toNat &&& rep 51 8 ≤ rep 51 8 := Nat.and_le_right
    omega
  have h4 : c.toNat = counted 8 x.toNat := by rw [h3, h2, h1]; exact (bytes_all 8 x.toNat).1
  rw [counted8] at h4
  unfold pop
  rw [pop_bytes]
  have p := fun y => popN_le 8 y
  exact final_nums (p _) (p _) (p _) (p _) (p _) (p _) (p _) (p _) h4 hd he hf
end Go.Am


/- Words as sets of numbers below 64: plain facts. -/
set_option linter.unusedVariables false
namespace Go.Am

theorem word_ext {x y : BitVec 64} (h : ∀ i, i < 64 → x.getLsbD i = y.getLsbD i) : x = y := BitVec.eq_of_getLsbD_eq fun i hi => h i hi

/-- The numbers below n. -/
def allB (n : Nat) : BitVec 64 := BitVec.ofNat 64 (2 ^ n - 1)

theorem allB_bit (n i : Nat) : (allB n).getLsbD i = (decide (i < 64) && decide (i < n)) := by
  unfold allB
  rw [BitVec.getLsbD_ofNat, Nat.testBit_two_pow_sub_one]

theorem allB_64 : allB 64 = 18446744073709551615#64 := by decide

theorem allB_shl {n : Nat} (h : n < 64) : (1#64 <<< n) - 1#64 = allB n := by
  unfold allB
  apply BitVec.eq_of_toNat_eq
  have h1 : 2 ^ n < 2 ^ 64 := Nat.pow_lt_pow_right (by omega) h
  have h0 : 0 < 2 ^ n := Nat.pow_pos (by omega)
  rw [BitVec.toNat_sub, BitVec.toNat_shiftLeft, BitVec.toNat_ofNat, Nat.shiftLeft_eq, BitVec.toNat_ofNat]
  simp only [Nat.reducePow, Nat.reduceMod, Nat.one_mul] at *
  rw [Nat.mod_eq_of_lt h1, Nat.mod_eq_of_lt (by omega : 2 ^ n - 1 < _)]
  omega

/-- One more. -/
def setB (x : BitVec 64) (t : Nat) : BitVec 64 := x ||| (1#64 <<< t)

theorem one_bit {t i : Nat} (ht : t < 64) : (1#64 <<< t).getLsbD i = decide (i = t) := by
  rw [BitVec.getLsbD_shiftLeft]
  by_cases h : i = t
  · subst h; simp [ht]
  · by_cases h2 : i < t
    · simp [h, h2]
    · have : i - t ≠ 0 := by omega
      simp [h, this]

theorem setB_bit {x : BitVec 64} {t i : Nat} (ht : t < 64) : (setB x t).getLsbD i = (x.getLsbD i || decide (i = t)) := by
  unfold setB
  rw [BitVec.getLsbD_or, one_bit ht]

theorem setB_add {x : BitVec 64} {t : Nat} (ht : t < 64) (h : x.getLsbD t = false) : x + (1#64 <<< t) = setB x t := by
  unfold setB
  refine BitVec.add_eq_or_of_and_eq_zero _ _ (word_ext fun i hi => ?_)
  rw [BitVec.getLsbD_and, one_bit ht]
  by_cases e : i = t
  · subst e; simp [h]
  · simp [e]

theorem setB_same {x : BitVec 64} {t : Nat} (ht : t < 64) (h : x.getLsbD t = true) : setB x t = x := by
  refine word_ext fun i hi => ?_
  rw [setB_bit ht]
  by_cases e : i = t
  · subst e; simp [h]
  · simp [e]

/-- Whether a number is in a word. -/
def inB (x : BitVec 64) (t : Int) : Bool := decide (0 ≤ t) && decide (t < 64) && x.getLsbD t.toNat

theorem shr_bit {x : BitVec 64} {t : Nat} : (x >>> t &&& 1#64) = (if x.getLsbD t then 1#64 else 0#64) := by
  refine word_ext fun i hi => ?_
  rw [BitVec.getLsbD_and, BitVec.getLsbD_ushiftRight]
  by_cases e : i = 0
  · subst e
    cases x.getLsbD t <;> simp
  · split <;> simp [e]

theorem umod_bit {x : BitVec 64} : x % 2#64 = x &&& 1#64 := by
  apply BitVec.eq_of_toNat_eq
  rw [BitVec.toNat_umod, BitVec.toNat_and]
  exact (Nat.and_two_pow_sub_one_eq_mod x.toNat 1).symm

def withB (x : BitVec 64) (t : Int) : BitVec 64 := if 0 ≤ t ∧ t < 64 then setB x t.toNat else x

theorem withB_bit {x : BitVec 64} {t : Int} {i : Nat} (hi : i < 64) : (withB x t).getLsbD i = (x.getLsbD i || decide ((i : Int) = t)) := by
  unfold withB
  split
  · rw [setB_bit (by omega)]
    congr 1
    rw [Bool.eq_iff_iff]; simp only [decide_eq_true_eq]; omega
  · have : ¬ (i : Int) = t := by omega
    simp [this]
end Go.Am


/- MaskW over the table of stage (relayset.py). -/
set_option linter.unusedVariables false
set_option linter.unusedSimpArgs false
namespace Go.Am
variable {m : Mem}

def fr (f : Int) : Int := min (max f 0) 64

theorem mask_frame_spec {f : Int} : WC R F.mask_frame [.int .i64 f] m fun v m' => v = .int .i64 (fr f) ∧ m' = m := by
  refine WC.of R.mask_frame rfl ?_
  simp only [RC.mask_frame, go_sem, Int.reduceBEq, Int.reduceBNe, Int.reduceNeg, reduceCtorEq, Nat.reduceEqDiff, Nat.reduceAdd, Nat.reduceLeDiff, Nat.reduceMul, Nat.reduceSub, Int.reduceToNat, Int.reduceLT, Int.reduceLE]
  congr 1
  unfold fr
  split <;> split <;> omega

theorem mask_All_spec {f : Int} : WC R F.mask_All [.int .i64 f] m fun v m' => v = u64 (allB (fr f).toNat) ∧ m' = m := by
  refine WC.of R.mask_All rfl ?_
  simp only [RC.mask_All, go_sem, Int.reduceBEq, Int.reduceBNe, Int.reduceNeg, reduceCtorEq, Nat.reduceEqDiff, Nat.reduceAdd, Nat.reduceLeDiff, Nat.reduceMul, Nat.reduceSub, Int.reduceToNat, Int.reduceLT, Int.reduceLE]
  refine gC.of mask_frame_spec ?_
  rintro _ _ ⟨rfl, rfl⟩
  simp only [go_sem, Int.reduceBEq, Int.reduceBNe, Int.reduceNeg, reduceCtorEq, Nat.reduceEqDiff, Nat.reduceAdd, Nat.reduceLeDiff, Nat.reduceMul, Nat.reduceSub, Int.reduceToNat, Int.reduceLT, Int.reduceLE]
  have hf : 0 ≤ fr f ∧ fr f ≤ 64 := by unfold fr; omega
  refine gT.of (fun h => ?_) (fun h => ?_)
  · simp only [go_sem, Int.reduceBEq, Int.reduceBNe, Int.reduceNeg, reduceCtorEq, Nat.reduceEqDiff, Nat.reduceAdd, Nat.reduceLeDiff, Nat.reduceMul, Nat.reduceSub, Int.reduceToNat, Int.reduceLT, Int.reduceLE]; simp at h; rw [h]; rw [← allB_64]; rfl
  · simp only [go_sem, Int.reduceBEq, Int.reduceBNe, Int.reduceNeg, reduceCtorEq, Nat.reduceEqDiff, Nat.reduceAdd, Nat.reduceLeDiff, Nat.reduceMul, Nat.reduceSub, Int.reduceToNat, Int.reduceLT, Int.reduceLE]; simp at h; refine ⟨hf.1, ?_⟩; rw [allB_shl (by omega)]

theorem tmod_emod' (t f : Int) : (t.tmod f) % f = t % f := by
  rw [Int.tmod_def]
  rw [Int.sub_emod, Int.mul_emod_right, Int.sub_zero, Int.emod_emod]

theorem inB_of {x : BitVec 64} {t : Int} (h0 : 0 ≤ t) (h1 : t < 64) : inB x t = x.getLsbD t.toNat := by unfold inB; simp [h0, h1]
theorem inB_not {x : BitVec 64} {t : Int} (h : ¬ (0 ≤ t ∧ t < 64)) : inB x t = false := by
  unfold inB
  by_cases h0 : 0 ≤ t
  · have : ¬ t < 64 := fun h1 => h ⟨h0, h1⟩
    simp [this]
  · simp [h0]

theorem bit_eq {x : BitVec 64} {n : Nat} : decide (x >>> n &&& 1#64 = 1#64) = x.getLsbD n := by
  rw [shr_bit]; cases x.getLsbD n <;> decide

theorem ofInt_nat {t : Int} (h : 0 ≤ t) (h1 : t < 18446744073709551616) : (BitVec.ofInt 64 t).toNat = t.toNat := by
  rw [BitVec.toNat_ofInt]; congr 1; exact Int.emod_eq_of_lt h h1

theorem and127 {n : Nat} : aBin .and (.int .i64 (IntKind.wrap .i64 n)) (.int .i64 127) = some (.int .i64 (n % 128 : Nat)) := by
  rw [bin_and]
  have h1 : BitVec.ofInt 64 (IntKind.wrap .i64 n) = BitVec.ofNat 64 n := by
    apply BitVec.eq_of_toNat_eq
    rw [BitVec.toNat_ofInt, BitVec.toNat_ofNat]
    simp only [IntKind.wrap, IntKind.bits, IntKind.signed, Bool.true_and, decide_eq_true_eq, Nat.reducePow, Int.reducePow, Nat.reduceSub, ge_iff_le]
    split <;> omega
  have h2 : BitVec.ofInt 64 127 = BitVec.ofNat 64 127 := by decide
  have h3 : (BitVec.ofNat 64 n &&& BitVec.ofNat 64 127).toNat = n % 128 := by
    rw [BitVec.toNat_and, BitVec.toNat_ofNat, BitVec.toNat_ofNat]
    have := Nat.and_two_pow_sub_one_eq_mod (n % 2 ^ 64) 7
    rw [show (127 % 2 ^ 64 : Nat) = 2 ^ 7 - 1 by decide, this]
    omega
  show some (Value.int .i64 (IntKind.i64.wrap ((BitVec.ofInt 64 (IntKind.wrap .i64 n) &&& BitVec.ofInt 64 127).toNat : Int))) = _
  rw [h1, h2, h3, wrap_i64 (by omega) (by omega)]

theorem ones_spec {x : BitVec 64} : WC R F.math_bits_OnesCount64 [u64 x] m fun v m' => v = .int .i64 (pop x) ∧ m' = m := by
  refine WC.of R.math_bits_OnesCount64 rfl ?_
  simp only [RC.math_bits_OnesCount64, go_sem, Int.reduceBEq, Int.reduceBNe, Int.reduceNeg, reduceCtorEq, Nat.reduceEqDiff, Nat.reduceAdd, Nat.reduceLeDiff, Nat.reduceMul, Nat.reduceSub, Int.reduceToNat, Int.reduceLT, Int.reduceLE, BitVec.toNat_ofNat, Nat.reducePow, Nat.reduceMod]
  rw [and127, pop_word x _ _ _ _ _ _ rfl rfl rfl rfl rfl rfl, Got.some]
  simp only [go_sem, Int.reduceBEq, Int.reduceBNe, Int.reduceNeg, reduceCtorEq, Nat.reduceEqDiff, Nat.reduceAdd, Nat.reduceLeDiff, Nat.reduceMul, Nat.reduceSub, Int.reduceToNat, Int.reduceLT, Int.reduceLE]

theorem mask_Count_spec {x : BitVec 64} : WC R F.mask_Count [u64 x] m fun v m' => v = .int .i64 (pop x) ∧ m' = m := by
  refine WC.of R.mask_Count rfl ?_
  simp only [RC.mask_Count, go_sem, Int.reduceBEq, Int.reduceBNe, Int.reduceNeg, reduceCtorEq, Nat.reduceEqDiff, Nat.reduceAdd, Nat.reduceLeDiff, Nat.reduceMul, Nat.reduceSub, Int.reduceToNat, Int.reduceLT, Int.reduceLE]
  refine gC.of ones_spec ?_
  rintro _ _ ⟨rfl, rfl⟩
  simp only [go_sem, Int.reduceBEq, Int.reduceBNe, Int.reduceNeg, reduceCtorEq, Nat.reduceEqDiff, Nat.reduceAdd, Nat.reduceLeDiff, Nat.reduceMul, Nat.reduceSub, Int.reduceToNat, Int.reduceLT, Int.reduceLE]

theorem fr_le (f : Int) : 0 ≤ fr f ∧ fr f ≤ 64 := by unfold fr; omega
theorem fr_fr (f : Int) : fr (fr f) = fr f := by unfold fr; omega

theorem allB_succ {i : Nat} (h : i < 64) : withB (allB i) (i : Int) = allB (i + 1) := by
  refine word_ext fun j hj => ?_
  rw [withB_bit hj, allB_bit, allB_bit, Bool.eq_iff_iff]
  simp only [Bool.or_eq_true, Bool.and_eq_true, decide_eq_true_eq]
  omega

/-- The turned word by definition: what comes of the first n numbers. -/
def laterW (F : Int) (x : BitVec 64) (k : Int) : Nat → BitVec 64
  | 0 => 0#64
  | n + 1 => if x.getLsbD n then withB (laterW F x k n) ((n + k) % F) else laterW F x k n

/-- The first n numbers, turned. -/
def roundW (F k : Int) : Nat → BitVec 64
  | 0 => 0#64
  | n + 1 => withB (roundW F k n) ((n + k) % F)
end Go.Am


/- Functions of the library that are told by a contract alone. -/
namespace Go.Am

/-- math/bits.TrailingZeros64. -/
def X.tz : List Value → Mem → Option (Value × Mem)
  | [.int .u64 n], m => if 0 ≤ n ∧ n < 18446744073709551616 then some (.int .i64 (Lib.ctz 64 n.toNat), m) else none
  | _, _ => none

theorem X.tz_u64 {x : BitVec 64} {m : Mem} : X.tz [u64 x] m = some (.int .i64 (Lib.ctz 64 x.toNat), m) := by
  unfold u64 X.tz
  have := x.isLt
  simp only
  rw [if_pos (by omega), Int.toNat_natCast]
end Go.Am


/- The lowest bit of a word. -/
set_option linter.unusedVariables false
namespace Go.Am

def low (x : BitVec 64) : Nat := Lib.ctz 64 x.toNat

theorem low_spec {x : BitVec 64} (h : x ≠ 0#64) : low x < 64 ∧ x.getLsbD (low x) = true ∧ (∀ j, j < low x → x.getLsbD j = false) ∧ ∀ j, (x &&& (x - 1#64)).getLsbD j = (x.getLsbD j && decide (j ≠ low x)) := by
  have h0 : x.toNat ≠ 0 := by
    intro e; apply h; apply BitVec.eq_of_toNat_eq; simpa using e
  obtain ⟨q, hq, hk⟩ := Lib.ctzFrom_spec 64 x.toNat (by omega) x.isLt
  have hl : low x = Lib.ctzFrom 64 x.toNat := by unfold low Lib.ctz; rw [if_neg h0]
  rw [← hl] at hq hk
  generalize low x = k at *
  have hp : 0 < 2 ^ k := Nat.pow_pos (by omega)
  have hbit : ∀ j, x.getLsbD j = (decide (j ≥ k) && (2 * q + 1).testBit (j - k)) := by
    intro j
    show x.toNat.testBit j = _
    rw [hq, Nat.testBit_two_pow_mul]
  have hsub : (x - 1#64).toNat = 2 ^ k * (2 * q) + (2 ^ k - 1) := by
    rw [BitVec.toNat_sub]
    have := x.isLt
    have e1 : (1#64).toNat = 1 := rfl
    rw [e1]
    have e2 : 2 ^ k * (2 * q + 1) = 2 ^ k * (2 * q) + 2 ^ k := by rw [Nat.mul_add, Nat.mul_one]
    omega
  have hbit2 : ∀ j, (x - 1#64).getLsbD j = if j < k then (2 ^ k - 1).testBit j else (2 * q).testBit (j - k) := by
    intro j
    show (x - 1#64).toNat.testBit j = _
    rw [hsub, Nat.testBit_two_pow_mul_add _ (by omega)]
  refine ⟨hk, ?_, fun j hj => ?_, fun j => ?_⟩
  · rw [hbit]; simp
  · rw [hbit]; simp; omega
  · rw [BitVec.getLsbD_and, hbit2, hbit]
    by_cases h1 : j < k
    · simp [show ¬ j ≥ k by omega]
    · rw [if_neg h1]
      by_cases h2 : j = k
      · subst h2; simp
      · have : j - k = (j - k - 1) + 1 := by omega
        rw [this, Nat.testBit_succ, Nat.testBit_succ]
        have e1 : (2 * q + 1) / 2 = q := by omega
        have e2 : 2 * q / 2 = q := by omega
        rw [e1, e2]
        simp [h2]
end Go.Am


/- MaskW2 over the table of stage (relayset.py). -/
set_option linter.unusedVariables false
set_option linter.unusedSimpArgs false
namespace Go.Am
variable {m : Mem}

def ints (l : List Nat) : List Value := l.map fun (t : Nat) => Value.int .i64 (t : Int)

/-- The numbers of a word below n, rising. -/
def tks (x : BitVec 64) (n : Nat) : List Nat := (List.range n).filter fun i => x.getLsbD i

theorem tks_succ {x : BitVec 64} {n : Nat} : tks x (n + 1) = tks x n ++ (if x.getLsbD n then [n] else []) := by
  unfold tks
  rw [List.range_succ, List.filter_append]
  congr 1
  cases h : x.getLsbD n <;> simp [List.filter, h]

theorem tks_len {x : BitVec 64} {n : Nat} : (tks x n).length ≤ n := by
  unfold tks
  exact Nat.le_trans (List.length_filter_le _ _) (by simp)

theorem Own.empty {m m1 : Mem} {u : Nat} (hx : Ext m m1) : Own m (m1.new (.cells [] (some u))) u 0 [] (.slice (some ⟨m1.next, 0, none⟩) 0 0) :=
  .at (all := []) hx.next (by simp [Mem.new]) (Nat.le_refl _) (by simp [Mem.new]) (by simp) (by simp) rfl

theorem tks_skip {x : BitVec 64} {p k : Nat} (h : p ≤ k) (hn : ∀ j, p ≤ j → j < k → x.getLsbD j = false) : tks x k = tks x p := by
  induction k with
  | zero => have : p = 0 := by omega
            rw [this]
  | succ k ih =>
    by_cases e : p = k + 1
    · rw [e]
    · rw [tks_succ, hn k (by omega) (by omega), ih (by omega) fun j h1 h2 => hn j h1 (by omega)]
      simp

/-- The word of a list of numbers. -/
def ofW (l : List Int) : BitVec 64 := l.foldl withB 0#64

theorem ofW_take {l : List Int} {i : Nat} (h : i < l.length) : ofW (l.take (i + 1)) = withB (ofW (l.take i)) l[i] := by
  unfold ofW
  rw [List.take_succ_eq_append_getElem h, List.foldl_append]
  rfl
end Go.Am


/- MaskW3 over the table of stage (relayset.py). -/
set_option linter.unusedVariables false
set_option linter.unusedSimpArgs false
namespace Go.Am
variable {m : Mem}

theorem intsZ_get {l : List Int} {i : Nat} (h : i < l.length) : (intsZ l)[i]? = some (.int .i64 l[i]) := by
  unfold intsZ; rw [List.getElem?_map, List.getElem?_eq_getElem h]; rfl
end Go.Am


/- OrderUnits over the table of stage (relayset.py). -/
set_option linter.unusedVariables false
set_option linter.unusedSimpArgs false
namespace Go.Am
variable {m : Mem}

def uOk (id : Int) (g : Bool) : Prop := 1 ≤ id ∧ (g = true ∧ id ≤ 40 ∨ g = false ∧ id ≤ 200)
def isU (u : Int) : Prop := 1 ≤ u ∧ u ≤ 200 ∨ 1001 ≤ u ∧ u ≤ 1040

theorem Kind_spec {u : Int} : WC R F.order_Kind [.int .i64 u] m fun v m' => ((isU u ∧ v = .tuple #[.int .i64 (if 1000 < u then u - 1000 else u), .bool (decide (1000 < u)), .bool true]) ∨ (¬ isU u ∧ v = .tuple #[.int .i64 0, .bool false, .bool false])) ∧ m' = m := by
  refine WC.of R.order_Kind rfl ?_
  simp only [RC.order_Kind, go_sem, Int.reduceBEq, Int.reduceBNe, Int.reduceNeg, reduceCtorEq, Nat.reduceEqDiff, Nat.reduceAdd, Nat.reduceLeDiff, Nat.reduceMul, Nat.reduceSub, Int.reduceToNat, Int.reduceLT, Int.reduceLE]
  repeat' (refine gT.of (fun h => ?_) (fun h => ?_) <;> try simp only [go_sem, Int.reduceBEq, Int.reduceBNe, Int.reduceNeg, reduceCtorEq, Nat.reduceEqDiff, Nat.reduceAdd, Nat.reduceLeDiff, Nat.reduceMul, Nat.reduceSub, Int.reduceToNat, Int.reduceLT, Int.reduceLE, *])
  all_goals simp only [decide_eq_true_eq, decide_eq_false_iff_not] at *
  · exact .inl ⟨by unfold isU; omega, by simp [show ¬ 1000 < u by omega]⟩
  · exact .inl ⟨by unfold isU; omega, by rw [wrap_i64 (by omega) (by omega)]; simp [show 1000 < u by omega]⟩
  all_goals (refine .inr ?_; first | exact ⟨by unfold isU; omega, rfl⟩ | (unfold isU; omega) | skip)
end Go.Am


/- PlanW2 over the table of stage (relayset.py). -/
set_option linter.unusedVariables false
set_option linter.unusedSimpArgs false
namespace Go.Am
variable {m : Mem}

theorem countP_take {α : Type} {f : α → Bool} {l : List α} {i : Nat} (h : i < l.length) : (l.take (i + 1)).countP f = (l.take i).countP f + (if f l[i] = true then 1 else 0) := by
  rw [List.take_succ_eq_append_getElem h, List.countP_append]
  congr 1
  simp [List.countP_cons]

theorem countP_take_le {α : Type} {f : α → Bool} {l : List α} {i : Nat} : (l.take i).countP f ≤ l.length := Nat.le_trans List.countP_le_length (by simp; omega)

def atB (c t : Int) (y : Pc) : Bool := (decide (c < 0) || decide (y.1 = c)) && inB y.2 t
end Go.Am


/- PlanW3 over the table of stage (relayset.py). -/
set_option linter.unusedVariables false
set_option linter.unusedSimpArgs false
namespace Go.Am
variable {m : Mem}

theorem step1 {i : Nat} (h : i < 1000000) : IntKind.wrap .i64 ((i : Int) + 1) = ((i + 1 : Nat) : Int) := by rw [wrap_i64 (by omega) (by omega)]; rfl

def isSp (x : Pl) : Bool := decide (0 < x.pieces.length)
def csP (p : PlanD) (n : Nat) : List Nat := (List.range n).filter fun (i : Nat) => hasC p i

theorem csP_succ {p : PlanD} {n : Nat} : csP p (n + 1) = csP p n ++ (if hasC p n then [n] else []) := by
  unfold csP
  rw [List.range_succ, List.filter_append]
  congr 1
  cases h : hasC p n <;> simp [List.filter, h]
theorem csP_len {p : PlanD} {n : Nat} : (csP p n).length ≤ n := by
  unfold csP
  exact Nat.le_trans (List.length_filter_le _ _) (by simp)

theorem Cores_spec {p : PlanD} {v : Value} (hv : PlanV m p v) : WC R F.plan_Cores [v] m fun r m' => Own m m' 1 (csP p 16).length (ints (csP p 16)) r ∧ Ext m m' := by
  refine WC.of R.plan_Cores rfl ?_
  obtain ⟨pv, rfl, hp⟩ := hv
  simp only [RC.plan_Cores, planV, go_sem, Int.reduceBEq, Int.reduceBNe, Int.reduceNeg, reduceCtorEq, Nat.reduceEqDiff, Nat.reduceAdd, Nat.reduceLeDiff, Nat.reduceMul, Nat.reduceSub, Int.reduceToNat, Int.reduceLT, Int.reduceLE, hp.one]
  have hx : Ext m (m.new (.cells [.int .i64 p.frame, u32 p.cores, pv] (some 3))) := Ext.new
  have hb : Bk (m.new (.cells [.int .i64 p.frame, u32 p.cores, pv] (some 3))) m.next [.int .i64 p.frame, u32 p.cores, pv] 3 := Bk.new
  generalize m.new (.cells [.int .i64 p.frame, u32 p.cores, pv] (some 3)) = m1 at hx hb ⊢
  refine WL.of (fun l e m' => ∃ (i : Nat) (v : Value), i ≤ 16 ∧ l = 16 - i ∧ e = [(1, pt m.next), (3, v), (5, .int .i64 i)] ∧ Own m1 m' 1 (csP p i).length (ints (csP p i)) v ∧ Ext m1 m') 16
    ⟨0, _, by omega, by omega, by simp only [go_sem, Int.reduceBEq, Int.reduceBNe, Int.reduceNeg, reduceCtorEq, Nat.reduceEqDiff, Nat.reduceAdd, Nat.reduceLeDiff, Nat.reduceMul, Nat.reduceSub, Int.reduceToNat, Int.reduceLT, Int.reduceLE] <;> rfl, .nil rfl rfl, Ext.refl _⟩ ?_
  rintro _ _ m2 ⟨i, v, hi, rfl, rfl, ho, hx2⟩
  have hb2 := hb.keep hx2
  simp only [RB.plan_Cores_1, pt, go_sem, Int.reduceBEq, Int.reduceBNe, Int.reduceNeg, reduceCtorEq, Nat.reduceEqDiff, Nat.reduceAdd, Nat.reduceLeDiff, Nat.reduceMul, Nat.reduceSub, Int.reduceToNat, Int.reduceLT, Int.reduceLE]
  refine gT.of (fun h => ?_) (fun h => ?_)
  · have g := h
    simp only [decide_eq_true_eq] at h
    simp only [go_sem, Int.reduceBEq, Int.reduceBNe, Int.reduceNeg, reduceCtorEq, Nat.reduceEqDiff, Nat.reduceAdd, Nat.reduceLeDiff, Nat.reduceMul, Nat.reduceSub, Int.reduceToNat, Int.reduceLT, Int.reduceLE, g, load_w, load_a, store_b, idxS_b, set_blk, new_blk, set_next, new_next, len_s, ldW_c, ldA_c, stB_c, toArr_one, size_one, toList_toArr, size_toArr, List.length_cons, List.length_nil, List.getElem?_cons_zero, List.getElem?_cons_succ, Nat.zero_add, Nat.add_zero, hb2.at_]
    refine gC.of (has_spec (p := p) ⟨pv, rfl, (hp.keep hx).keep hx2⟩) ?_
    rintro _ m3 ⟨rfl, hx3⟩
    simp only [go_sem, Int.reduceBEq, Int.reduceBNe, Int.reduceNeg, reduceCtorEq, Nat.reduceEqDiff, Nat.reduceAdd, Nat.reduceLeDiff, Nat.reduceMul, Nat.reduceSub, Int.reduceToNat, Int.reduceLT, Int.reduceLE]
    have ho3 := ho.keep hx3
    refine gT.of (fun h2 => ?_) (fun h2 => ?_)
    · simp only [go_sem, Int.reduceBEq, Int.reduceBNe, Int.reduceNeg, reduceCtorEq, Nat.reduceEqDiff, Nat.reduceAdd, Nat.reduceLeDiff, Nat.reduceMul, Nat.reduceSub, Int.reduceToNat, Int.reduceLT, Int.reduceLE, h2]
      obtain ⟨v', m4, e1, e2, e3⟩ := ho3.app (by_ := 8) (es := [.int .i64 i]) (hx2.trans hx3) (by omega) rfl rfl (by have := csP_len (p := p) (n := i); omega) (by have := csP_len (p := p) (n := i); omega)
      rw [e1, Got.some]
      simp only [go_sem, Int.reduceBEq, Int.reduceBNe, Int.reduceNeg, reduceCtorEq, Nat.reduceEqDiff, Nat.reduceAdd, Nat.reduceLeDiff, Nat.reduceMul, Nat.reduceSub, Int.reduceToNat, Int.reduceLT, Int.reduceLE, step1 (show i < 1000000 by omega)]
      refine ⟨16 - (i + 1), by omega, i + 1, v', by omega, rfl, rfl, ?_, e3⟩
      rw [csP_succ, if_pos h2]; simpa [ints] using e2
    · simp only [go_sem, Int.reduceBEq, Int.reduceBNe, Int.reduceNeg, reduceCtorEq, Nat.reduceEqDiff, Nat.reduceAdd, Nat.reduceLeDiff, Nat.reduceMul, Nat.reduceSub, Int.reduceToNat, Int.reduceLT, Int.reduceLE, h2, step1 (show i < 1000000 by omega)]
      refine ⟨16 - (i + 1), by omega, i + 1, v, by omega, rfl, rfl, ?_, hx2.trans hx3⟩
      rw [csP_succ, if_neg (by simp [h2])]; simpa using ho3
  · simp only [go_sem, Int.reduceBEq, Int.reduceBNe, Int.reduceNeg, reduceCtorEq, Nat.reduceEqDiff, Nat.reduceAdd, Nat.reduceLeDiff, Nat.reduceMul, Nat.reduceSub, Int.reduceToNat, Int.reduceLT, Int.reduceLE, h]
    simp only [decide_eq_false_iff_not] at h
    have : i = 16 := by omega
    subst this
    exact ⟨ho.weak hx, hx.trans hx2⟩

theorem Splits_spec {p : PlanD} {v : Value} (hv : PlanV m p v) (hl : p.places.length < 1000000) : WC R F.plan_Splits [v] m fun r m' => r = .int .i64 (p.places.countP isSp : Nat) ∧ Ext m m' := by
  refine WC.of R.plan_Splits rfl ?_
  obtain ⟨pv, rfl, hp⟩ := hv
  simp only [RC.plan_Splits, planV, go_sem, Int.reduceBEq, Int.reduceBNe, Int.reduceNeg, reduceCtorEq, Nat.reduceEqDiff, Nat.reduceAdd, Nat.reduceLeDiff, Nat.reduceMul, Nat.reduceSub, Int.reduceToNat, Int.reduceLT, Int.reduceLE, hp.one]
  have hx : Ext m (m.new (.cells [.int .i64 p.frame, u32 p.cores, pv] (some 3))) := Ext.new
  have hb : Bk (m.new (.cells [.int .i64 p.frame, u32 p.cores, pv] (some 3))) m.next [.int .i64 p.frame, u32 p.cores, pv] 3 := Bk.new
  generalize m.new (.cells [.int .i64 p.frame, u32 p.cores, pv] (some 3)) = m1 at hx hb ⊢
  simp only [go_sem, Int.reduceBEq, Int.reduceBNe, Int.reduceNeg, reduceCtorEq, Nat.reduceEqDiff, Nat.reduceAdd, Nat.reduceLeDiff, Nat.reduceMul, Nat.reduceSub, Int.reduceToNat, Int.reduceLT, Int.reduceLE, load_w, load_a, store_b, idxS_b, set_blk, new_blk, set_next, new_next, len_s, ldW_c, ldA_c, stB_c, toArr_one, size_one, toList_toArr, size_toArr, List.length_cons, List.length_nil, List.getElem?_cons_zero, List.getElem?_cons_succ, Nat.zero_add, Nat.add_zero, hb.at_, hp.len]
  refine WL.of (fun n e m' => ∃ i : Nat, i ≤ p.places.length ∧ n = p.places.length - i ∧ e = [(3, .int .i64 ((p.places.take i).countP isSp : Nat)), (7, pv), (8, .int .i64 p.places.length), (9, .int .i64 i)] ∧ Ext m1 m') p.places.length
    ⟨0, by omega, by omega, by simp only [go_sem, Int.reduceBEq, Int.reduceBNe, Int.reduceNeg, reduceCtorEq, Nat.reduceEqDiff, Nat.reduceAdd, Nat.reduceLeDiff, Nat.reduceMul, Nat.reduceSub, Int.reduceToNat, Int.reduceLT, Int.reduceLE] <;> rfl, Ext.refl _⟩ ?_
  rintro _ _ m2 ⟨i, hi, rfl, rfl, hx2⟩
  have hp2 := (hp.keep hx).keep hx2
  have k1 := countP_take_le (f := isSp) (l := p.places) (i := i)
  simp only [RB.plan_Splits_1, go_sem, Int.reduceBEq, Int.reduceBNe, Int.reduceNeg, reduceCtorEq, Nat.reduceEqDiff, Nat.reduceAdd, Nat.reduceLeDiff, Nat.reduceMul, Nat.reduceSub, Int.reduceToNat, Int.reduceLT, Int.reduceLE]
  refine gT.of (fun h1 => ?_) (fun h1 => ?_)
  · simp only [decide_eq_true_eq] at h1
    have hil : i < p.places.length := by omega
    obtain ⟨b, o, qv, a1, a2, a3, a4, a5⟩ := hp2.elem hil
    have hf := countP_take (f := isSp) hil
    generalize p.places[i] = x at *
    simp only [plV] at a2
    simp only [go_sem, Int.reduceBEq, Int.reduceBNe, Int.reduceNeg, reduceCtorEq, Nat.reduceEqDiff, Nat.reduceAdd, Nat.reduceLeDiff, Nat.reduceMul, Nat.reduceSub, Int.reduceToNat, Int.reduceLT, Int.reduceLE, a1, a2, load_w, load_a, store_b, idxS_b, set_blk, new_blk, set_next, new_next, len_s, ldW_c, ldA_c, stB_c, toArr_one, size_one, toList_toArr, size_toArr, List.length_cons, List.length_nil, List.getElem?_cons_zero, List.getElem?_cons_succ, Nat.zero_add, Nat.add_zero, a4.one]
    have hx3 : Ext m2 (m2.new (.cells [.int .i64 x.unit, .int .i64 x.share, .int .i64 x.core, qv] (some 4))) := Ext.new
    have hb3 : Bk (m2.new (.cells [.int .i64 x.unit, .int .i64 x.share, .int .i64 x.core, qv] (some 4))) m2.next [.int .i64 x.unit, .int .i64 x.share, .int .i64 x.core, qv] 4 := Bk.new
    generalize m2.new (.cells [.int .i64 x.unit, .int .i64 x.share, .int .i64 x.core, qv] (some 4)) = m3 at hx3 hb3 ⊢
    refine gC.of (split_spec (x := x) ⟨qv, rfl, a4.keep hx3⟩) ?_
    rintro _ m4 ⟨rfl, hx4⟩
    simp only [go_sem, Int.reduceBEq, Int.reduceBNe, Int.reduceNeg, reduceCtorEq, Nat.reduceEqDiff, Nat.reduceAdd, Nat.reduceLeDiff, Nat.reduceMul, Nat.reduceSub, Int.reduceToNat, Int.reduceLT, Int.reduceLE]
    refine gT.of (fun h2 => ?_) (fun h2 => ?_)
    · simp only [go_sem, Int.reduceBEq, Int.reduceBNe, Int.reduceNeg, reduceCtorEq, Nat.reduceEqDiff, Nat.reduceAdd, Nat.reduceLeDiff, Nat.reduceMul, Nat.reduceSub, Int.reduceToNat, Int.reduceLT, Int.reduceLE, step1 (show i < 1000000 by omega), step1 (show (p.places.take i).countP isSp < 1000000 by omega)]
      refine ⟨p.places.length - (i + 1), by omega, i + 1, by omega, rfl, ?_, hx2.trans (hx3.trans hx4)⟩
      rw [hf, if_pos (show isSp x = true from h2)]
    · simp only [go_sem, Int.reduceBEq, Int.reduceBNe, Int.reduceNeg, reduceCtorEq, Nat.reduceEqDiff, Nat.reduceAdd, Nat.reduceLeDiff, Nat.reduceMul, Nat.reduceSub, Int.reduceToNat, Int.reduceLT, Int.reduceLE, step1 (show i < 1000000 by omega)]
      refine ⟨p.places.length - (i + 1), by omega, i + 1, by omega, rfl, ?_, hx2.trans (hx3.trans hx4)⟩
      rw [hf, show isSp x = false from h2]; rfl
  · simp only [go_sem, Int.reduceBEq, Int.reduceBNe, Int.reduceNeg, reduceCtorEq, Nat.reduceEqDiff, Nat.reduceAdd, Nat.reduceLeDiff, Nat.reduceMul, Nat.reduceSub, Int.reduceToNat, Int.reduceLT, Int.reduceLE]
    simp only [decide_eq_false_iff_not] at h1
    rw [List.take_of_length_le (by omega)]
    exact ⟨rfl, hx.trans hx2⟩
end Go.Am


/- PlanW4 over the table of stage (relayset.py). -/
set_option linter.unusedVariables false
set_option linter.unusedSimpArgs false
namespace Go.Am
variable {m : Mem}

abbrev Wt := Int × Int
def wtV (w : Wt) : List Value := [.int .i64 w.1, .int .i64 w.2]
theorem wtV_len (w : Wt) : (wtV w).length = 2 := rfl
theorem wts_append {a : List Wt} {w : Wt} : (a ++ [w]).flatMap wtV = a.flatMap wtV ++ [.int .i64 w.1, .int .i64 w.2] := by simp [wtV]

def isWh (c : Int) (x : Pl) : Bool := !isSp x && (x.core == c)
def wtOf (x : Pl) : Wt := (x.unit, x.share)
def whL (l : List Pl) (c : Int) : List Wt := (l.filter (isWh c)).map wtOf

theorem whL_succ {l : List Pl} {c : Int} {i : Nat} (h : i < l.length) : whL (l.take (i + 1)) c = whL (l.take i) c ++ (if isWh c l[i] = true then [wtOf l[i]] else []) := by
  unfold whL
  rw [List.take_succ_eq_append_getElem h, List.filter_append, List.map_append]
  congr 1
  cases hh : isWh c l[i] <;> simp [List.filter, hh]
theorem whL_len {l : List Pl} {c : Int} {i : Nat} : (whL (l.take i) c).length ≤ l.length := by
  unfold whL
  rw [List.length_map]
  exact Nat.le_trans (List.length_filter_le _ _) (by simp; omega)

theorem Wholes_spec {p : PlanD} {v : Value} {c : Int} (hv : PlanV m p v) (hl : p.places.length < 1000000) : WC R F.plan_Wholes [v, .int .i64 c] m fun r m' => Own m m' 2 (whL p.places c).length ((whL p.places c).flatMap wtV) r ∧ Ext m m' := by
  refine WC.of R.plan_Wholes rfl ?_
  obtain ⟨pv, rfl, hp⟩ := hv
  simp only [RC.plan_Wholes, planV, go_sem, Int.reduceBEq, Int.reduceBNe, Int.reduceNeg, reduceCtorEq, Nat.reduceEqDiff, Nat.reduceAdd, Nat.reduceLeDiff, Nat.reduceMul, Nat.reduceSub, Int.reduceToNat, Int.reduceLT, Int.reduceLE, hp.one]
  have hx : Ext m (m.new (.cells [.int .i64 p.frame, u32 p.cores, pv] (some 3))) := Ext.new
  have hb : Bk (m.new (.cells [.int .i64 p.frame, u32 p.cores, pv] (some 3))) m.next [.int .i64 p.frame, u32 p.cores, pv] 3 := Bk.new
  generalize m.new (.cells [.int .i64 p.frame, u32 p.cores, pv] (some 3)) = m1 at hx hb ⊢
  simp only [go_sem, Int.reduceBEq, Int.reduceBNe, Int.reduceNeg, reduceCtorEq, Nat.reduceEqDiff, Nat.reduceAdd, Nat.reduceLeDiff, Nat.reduceMul, Nat.reduceSub, Int.reduceToNat, Int.reduceLT, Int.reduceLE, load_w, load_a, store_b, idxS_b, set_blk, new_blk, set_next, new_next, len_s, ldW_c, ldA_c, stB_c, toArr_one, size_one, toList_toArr, size_toArr, List.length_cons, List.length_nil, List.getElem?_cons_zero, List.getElem?_cons_succ, Nat.zero_add, Nat.add_zero, hb.at_, hp.len]
  refine WL.of (fun n e m' => ∃ (i : Nat) (w : Value), i ≤ p.places.length ∧ n = p.places.length - i ∧ e = [(1, .int .i64 c), (5, w), (9, pv), (10, .int .i64 p.places.length), (11, .int .i64 i)] ∧ Own m1 m' 2 (whL (p.places.take i) c).length ((whL (p.places.take i) c).flatMap wtV) w ∧ Ext m1 m') p.places.length
    ⟨0, _, by omega, by omega, by simp only [go_sem, Int.reduceBEq, Int.reduceBNe, Int.reduceNeg, reduceCtorEq, Nat.reduceEqDiff, Nat.reduceAdd, Nat.reduceLeDiff, Nat.reduceMul, Nat.reduceSub, Int.reduceToNat, Int.reduceLT, Int.reduceLE] <;> rfl, .nil rfl rfl, Ext.refl _⟩ ?_
  rintro _ _ m2 ⟨i, w, hi, rfl, rfl, ho, hx2⟩
  have hp2 := (hp.keep hx).keep hx2
  have k1 := whL_len (l := p.places) (c := c) (i := i)
  simp only [RB.plan_Wholes_1, go_sem, Int.reduceBEq, Int.reduceBNe, Int.reduceNeg, reduceCtorEq, Nat.reduceEqDiff, Nat.reduceAdd, Nat.reduceLeDiff, Nat.reduceMul, Nat.reduceSub, Int.reduceToNat, Int.reduceLT, Int.reduceLE]
  refine gT.of (fun h1 => ?_) (fun h1 => ?_)
  · simp only [decide_eq_true_eq] at h1
    have hil : i < p.places.length := by omega
    obtain ⟨b, o, qv, a1, a2, a3, a4, a5⟩ := hp2.elem hil
    have hf := whL_succ (c := c) hil
    generalize p.places[i] = x at *
    simp only [plV] at a2
    simp only [go_sem, Int.reduceBEq, Int.reduceBNe, Int.reduceNeg, reduceCtorEq, Nat.reduceEqDiff, Nat.reduceAdd, Nat.reduceLeDiff, Nat.reduceMul, Nat.reduceSub, Int.reduceToNat, Int.reduceLT, Int.reduceLE, a1, a2, load_w, load_a, store_b, idxS_b, set_blk, new_blk, set_next, new_next, len_s, ldW_c, ldA_c, stB_c, toArr_one, size_one, toList_toArr, size_toArr, List.length_cons, List.length_nil, List.getElem?_cons_zero, List.getElem?_cons_succ, Nat.zero_add, Nat.add_zero, a4.one]
    have hx3 : Ext m2 (m2.new (.cells [.int .i64 x.unit, .int .i64 x.share, .int .i64 x.core, qv] (some 4))) := Ext.new
    have hb3 : Bk (m2.new (.cells [.int .i64 x.unit, .int .i64 x.share, .int .i64 x.core, qv] (some 4))) m2.next [.int .i64 x.unit, .int .i64 x.share, .int .i64 x.core, qv] 4 := Bk.new
    generalize m2.new (.cells [.int .i64 x.unit, .int .i64 x.share, .int .i64 x.core, qv] (some 4)) = m3 at hx3 hb3 ⊢
    refine gC.of (split_spec (x := x) ⟨qv, rfl, a4.keep hx3⟩) ?_
    rintro _ m4 ⟨rfl, hx4⟩
    simp only [go_sem, Int.reduceBEq, Int.reduceBNe, Int.reduceNeg, reduceCtorEq, Nat.reduceEqDiff, Nat.reduceAdd, Nat.reduceLeDiff, Nat.reduceMul, Nat.reduceSub, Int.reduceToNat, Int.reduceLT, Int.reduceLE]
    have hb4 := hb3.keep hx4
    have hx24 : Ext m2 m4 := hx3.trans hx4
    have ho4 := ho.keep hx24
    have s1 := step1 (show i < 1000000 by omega)
    have hd : isSp x = decide (0 < x.pieces.length) := rfl
    refine gT.of (fun h2 => ?_) (fun h2 => ?_)
    · have hd2 : isSp x = false := by rw [hd]; simpa using h2
      simp only [go_sem, Int.reduceBEq, Int.reduceBNe, Int.reduceNeg, reduceCtorEq, Nat.reduceEqDiff, Nat.reduceAdd, Nat.reduceLeDiff, Nat.reduceMul, Nat.reduceSub, Int.reduceToNat, Int.reduceLT, Int.reduceLE, h2, load_w, load_a, store_b, idxS_b, set_blk, new_blk, set_next, new_next, len_s, ldW_c, ldA_c, stB_c, toArr_one, size_one, toList_toArr, size_toArr, List.length_cons, List.length_nil, List.getElem?_cons_zero, List.getElem?_cons_succ, Nat.zero_add, Nat.add_zero, hb4.at_]
      refine gT.of (fun h3 => ?_) (fun h3 => ?_)
      · simp only [go_sem, Int.reduceBEq, Int.reduceBNe, Int.reduceNeg, reduceCtorEq, Nat.reduceEqDiff, Nat.reduceAdd, Nat.reduceLeDiff, Nat.reduceMul, Nat.reduceSub, Int.reduceToNat, Int.reduceLT, Int.reduceLE, h3, load_w, load_a, store_b, idxS_b, set_blk, new_blk, set_next, new_next, len_s, ldW_c, ldA_c, stB_c, toArr_one, size_one, toList_toArr, size_toArr, List.length_cons, List.length_nil, List.getElem?_cons_zero, List.getElem?_cons_succ, Nat.zero_add, Nat.add_zero, hb4.at_]
        obtain ⟨v', m5, e1, e2, e3⟩ := ho4.app (by_ := 16) (es := [.int .i64 x.unit, .int .i64 x.share]) (hx2.trans hx24) (by omega) rfl rfl (by omega) (by omega)
        rw [e1, Got.some]
        simp only [go_sem, Int.reduceBEq, Int.reduceBNe, Int.reduceNeg, reduceCtorEq, Nat.reduceEqDiff, Nat.reduceAdd, Nat.reduceLeDiff, Nat.reduceMul, Nat.reduceSub, Int.reduceToNat, Int.reduceLT, Int.reduceLE, s1]
        refine ⟨p.places.length - (i + 1), by omega, i + 1, v', by omega, rfl, rfl, ?_, e3⟩
        rw [hf, if_pos (show isWh c x = true by simp only [isWh, hd2, h3]; rfl), wts_append, List.length_append]; exact e2
      · simp only [go_sem, Int.reduceBEq, Int.reduceBNe, Int.reduceNeg, reduceCtorEq, Nat.reduceEqDiff, Nat.reduceAdd, Nat.reduceLeDiff, Nat.reduceMul, Nat.reduceSub, Int.reduceToNat, Int.reduceLT, Int.reduceLE, h3, s1]
        refine ⟨p.places.length - (i + 1), by omega, i + 1, w, by omega, rfl, rfl, ?_, hx2.trans hx24⟩
        rw [hf, if_neg (show ¬ isWh c x = true by simp only [isWh, hd2, h3]; decide), List.append_nil]; exact ho4
    · have hd2 : isSp x = true := by rw [hd]; simpa using h2
      simp only [go_sem, Int.reduceBEq, Int.reduceBNe, Int.reduceNeg, reduceCtorEq, Nat.reduceEqDiff, Nat.reduceAdd, Nat.reduceLeDiff, Nat.reduceMul, Nat.reduceSub, Int.reduceToNat, Int.reduceLT, Int.reduceLE, h2, s1]
      refine ⟨p.places.length - (i + 1), by omega, i + 1, w, by omega, rfl, rfl, ?_, hx2.trans hx24⟩
      rw [hf, if_neg (show ¬ isWh c x = true by simp only [isWh, hd2]; simp), List.append_nil]; exact ho4
  · simp only [go_sem, Int.reduceBEq, Int.reduceBNe, Int.reduceNeg, reduceCtorEq, Nat.reduceEqDiff, Nat.reduceAdd, Nat.reduceLeDiff, Nat.reduceMul, Nat.reduceSub, Int.reduceToNat, Int.reduceLT, Int.reduceLE]
    simp only [decide_eq_false_iff_not] at h1
    rw [List.take_of_length_le (by omega)] at ho
    exact ⟨ho.weak hx, hx.trans hx2⟩

def wtsL (l : List Pl) : List Wt := l.map wtOf
theorem wtsL_succ {l : List Pl} {i : Nat} (h : i < l.length) : wtsL (l.take (i + 1)) = wtsL (l.take i) ++ [wtOf l[i]] := by
  unfold wtsL
  rw [List.take_succ_eq_append_getElem h, List.map_append]; rfl
theorem wtsL_len {l : List Pl} {i : Nat} (h : i ≤ l.length) : (wtsL (l.take i)).length = i := by simp [wtsL]; omega
end Go.Am


/- PlanW5 over the table of stage (relayset.py). -/
set_option linter.unusedVariables false
set_option linter.unusedSimpArgs false
namespace Go.Am
variable {m : Mem}

def rwT (l : List Pl) (c t : Int) (w : BitVec 64) : BitVec 64 := l.foldl (fun w x => if 0 < x.pieces.countP (atB c t) then withB w t else w) w
def rwN (l : List Pl) (c : Int) : Nat → BitVec 64
  | 0 => 0#64
  | n + 1 => rwT l c n (rwN l c n)

def sumW (l : List Wt) : Int := (l.map (·.2)).sum
theorem sumW_succ {l : List Wt} {i : Nat} (h : i < l.length) : sumW (l.take (i + 1)) = sumW (l.take i) + l[i].2 := by
  unfold sumW
  rw [List.take_succ_eq_append_getElem h, List.map_append, List.sum_append]; simp
theorem sumW_le {l : List Wt} {f : Int} (h : ∀ w ∈ l, 0 ≤ w.2 ∧ w.2 ≤ f) : 0 ≤ sumW l ∧ sumW l ≤ f * l.length := by
  induction l with
  | nil => simp [sumW]
  | cons a t ih =>
    have := ih fun w hw => h w (by simp [hw])
    have h2 := h a (by simp)
    have e : sumW (a :: t) = a.2 + sumW t := by simp [sumW]
    have e2 : f * ((a :: t).length : Nat) = f + f * (t.length : Nat) := by
      rw [List.length_cons, Int.natCast_add, Int.mul_add]; omega
    omega

theorem whL_mem {l : List Pl} {c : Int} {w : Wt} (h : w ∈ whL l c) : ∃ x ∈ l, w = wtOf x := by
  unfold whL at h
  obtain ⟨x, hx, rfl⟩ := List.mem_map.1 h
  exact ⟨x, (List.mem_filter.1 hx).1, rfl⟩
theorem whL_le {l : List Pl} {c : Int} : (whL l c).length ≤ l.length := by
  unfold whL; rw [List.length_map]; exact List.length_filter_le _ _

def ShOk (l : List Pl) : Prop := ∀ x ∈ l, 0 ≤ x.share ∧ x.share ≤ 64
theorem whL_sh {l : List Pl} {c : Int} (h : ShOk l) : ∀ w ∈ whL l c, 0 ≤ w.2 ∧ w.2 ≤ 64 := by
  intro w hw
  obtain ⟨x, hx, rfl⟩ := whL_mem hw
  exact h x hx

theorem sum_take_bounds {l : List Wt} {i : Nat} (h : ∀ w ∈ l, 0 ≤ w.2 ∧ w.2 ≤ 64) (hl : l.length < 1000000) : 0 ≤ sumW (l.take i) ∧ sumW (l.take i) ≤ 64000000 := by
  have := sumW_le (l := l.take i) (f := 64) fun w hw => h w (List.mem_of_mem_take hw)
  have h2 : (l.take i).length ≤ l.length := by simp; omega
  omega

def loadR (p : PlanD) (c : Int) : Int := (tks (rwN p.places c 64) 64).length + sumW (whL p.places c)
end Go.Am


/- PlanW6 over the table of stage (relayset.py). -/
set_option linter.unusedVariables false
set_option linter.unusedSimpArgs false
namespace Go.Am
variable {m : Mem}

def leftP (p : PlanD) (c : Int) : Int := p.frame - (pop (winW p.places c) : Int) - sumW (whL p.places c)
theorem pop_le (x : BitVec 64) : pop x ≤ 64 := popN_le 64 _

/-- What is asked ahead of any reading of a plan. -/
structure PlanR (p : PlanD) : Prop where
  len : p.places.length < 1000000
  pcs : ∀ x ∈ p.places, x.pieces.length < 1000000
  sh : ShOk p.places
  fr : 0 ≤ p.frame ∧ p.frame ≤ 64

theorem left_spec {p : PlanD} {v : Value} {c : Int} (hv : PlanV m p v) (hr : PlanR p) : WC R F.plan_left [v, .int .i64 c] m fun r m' => r = .int .i64 (leftP p c) ∧ Ext m m' := by
  refine WC.of R.plan_left rfl ?_
  obtain ⟨pv, rfl, hp⟩ := hv
  obtain ⟨hl, hp1, hs, hfr⟩ := hr
  simp only [RC.plan_left, planV, go_sem, Int.reduceBEq, Int.reduceBNe, Int.reduceNeg, reduceCtorEq, Nat.reduceEqDiff, Nat.reduceAdd, Nat.reduceLeDiff, Nat.reduceMul, Nat.reduceSub, Int.reduceToNat, Int.reduceLT, Int.reduceLE, hp.one]
  have hx : Ext m (m.new (.cells [.int .i64 p.frame, u32 p.cores, pv] (some 3))) := Ext.new
  have hb : Bk (m.new (.cells [.int .i64 p.frame, u32 p.cores, pv] (some 3))) m.next [.int .i64 p.frame, u32 p.cores, pv] 3 := Bk.new
  generalize m.new (.cells [.int .i64 p.frame, u32 p.cores, pv] (some 3)) = m1 at hx hb ⊢
  simp only [go_sem, Int.reduceBEq, Int.reduceBNe, Int.reduceNeg, reduceCtorEq, Nat.reduceEqDiff, Nat.reduceAdd, Nat.reduceLeDiff, Nat.reduceMul, Nat.reduceSub, Int.reduceToNat, Int.reduceLT, Int.reduceLE, load_w, load_a, store_b, idxS_b, set_blk, new_blk, set_next, new_next, len_s, ldW_c, ldA_c, stB_c, toArr_one, size_one, toList_toArr, size_toArr, List.length_cons, List.length_nil, List.getElem?_cons_zero, List.getElem?_cons_succ, Nat.zero_add, Nat.add_zero, hb.at_]
  refine gC.of (Windows_spec (p := p) ⟨pv, rfl, hp.keep hx⟩ hl hp1) ?_
  rintro _ m2 ⟨rfl, hx2⟩
  simp only [go_sem, Int.reduceBEq, Int.reduceBNe, Int.reduceNeg, reduceCtorEq, Nat.reduceEqDiff, Nat.reduceAdd, Nat.reduceLeDiff, Nat.reduceMul, Nat.reduceSub, Int.reduceToNat, Int.reduceLT, Int.reduceLE]
  have hb2 := hb.keep hx2
  try simp only [go_sem, Int.reduceBEq, Int.reduceBNe, Int.reduceNeg, reduceCtorEq, Nat.reduceEqDiff, Nat.reduceAdd, Nat.reduceLeDiff, Nat.reduceMul, Nat.reduceSub, Int.reduceToNat, Int.reduceLT, Int.reduceLE, load_w, load_a, store_b, idxS_b, set_blk, new_blk, set_next, new_next, len_s, ldW_c, ldA_c, stB_c, toArr_one, size_one, toList_toArr, size_toArr, List.length_cons, List.length_nil, List.getElem?_cons_zero, List.getElem?_cons_succ, Nat.zero_add, Nat.add_zero, hb.at_, hb2.at_]
  refine gC.of mask_Count_spec ?_
  rintro _ m_ ⟨rfl, hm_⟩
  replace hm_ := hm_.symm
  subst hm_
  simp only [go_sem, Int.reduceBEq, Int.reduceBNe, Int.reduceNeg, reduceCtorEq, Nat.reduceEqDiff, Nat.reduceAdd, Nat.reduceLeDiff, Nat.reduceMul, Nat.reduceSub, Int.reduceToNat, Int.reduceLT, Int.reduceLE]
  try simp only [go_sem, Int.reduceBEq, Int.reduceBNe, Int.reduceNeg, reduceCtorEq, Nat.reduceEqDiff, Nat.reduceAdd, Nat.reduceLeDiff, Nat.reduceMul, Nat.reduceSub, Int.reduceToNat, Int.reduceLT, Int.reduceLE, load_w, load_a, store_b, idxS_b, set_blk, new_blk, set_next, new_next, len_s, ldW_c, ldA_c, stB_c, toArr_one, size_one, toList_toArr, size_toArr, List.length_cons, List.length_nil, List.getElem?_cons_zero, List.getElem?_cons_succ, Nat.zero_add, Nat.add_zero, hb.at_, hb2.at_]
  have hpop := pop_le (winW p.places c)
  refine gC.of (Wholes_spec (p := p) ⟨pv, rfl, (hp.keep hx).keep hx2⟩ hl) ?_
  rintro w m4 ⟨ho, hx4⟩
  simp only [go_sem, Int.reduceBEq, Int.reduceBNe, Int.reduceNeg, reduceCtorEq, Nat.reduceEqDiff, Nat.reduceAdd, Nat.reduceLeDiff, Nat.reduceMul, Nat.reduceSub, Int.reduceToNat, Int.reduceLT, Int.reduceLE, ho.sl.len]
  have hsl := ho.sl
  have hlt := ho.lt
  have hw := whL_sh (c := c) hs
  have hwl : (whL p.places c).length < 1000000 := Nat.lt_of_le_of_lt whL_le hl
  have hwr : IntKind.wrap .i64 (p.frame - (pop (winW p.places c) : Nat)) = p.frame - (pop (winW p.places c) : Nat) := by rw [wrap_i64 (by omega) (by omega)]
  rw [hwr]
  unfold leftP
  generalize whL p.places c = W at *
  have hT : ∃ T : Int, T = p.frame - (pop (winW p.places c) : Nat) ∧ -64 ≤ T ∧ T ≤ 64 := ⟨_, rfl, by omega, by omega⟩
  obtain ⟨T, hT, hT1, hT2⟩ := hT
  rw [← hT]
  refine WL.of (fun n e m' => ∃ i : Nat, i ≤ W.length ∧ n = W.length - i ∧ e = [(5, .int .i64 (T - sumW (W.take i))), (17, w), (18, .int .i64 W.length), (19, .int .i64 i)] ∧ Ext m4 m') W.length
    ⟨0, by omega, by omega, by simp only [go_sem, Int.reduceBEq, Int.reduceBNe, Int.reduceNeg, reduceCtorEq, Nat.reduceEqDiff, Nat.reduceAdd, Nat.reduceLeDiff, Nat.reduceMul, Nat.reduceSub, Int.reduceToNat, Int.reduceLT, Int.reduceLE, sumW, List.take_zero, List.map_nil, List.sum_nil, Int.sub_zero] <;> rfl, Ext.refl _⟩ ?_
  rintro _ _ m5 ⟨i, hi, rfl, rfl, hx5⟩
  simp only [RB.plan_left_1, go_sem, Int.reduceBEq, Int.reduceBNe, Int.reduceNeg, reduceCtorEq, Nat.reduceEqDiff, Nat.reduceAdd, Nat.reduceLeDiff, Nat.reduceMul, Nat.reduceSub, Int.reduceToNat, Int.reduceLT, Int.reduceLE]
  refine gT.of (fun h1 => ?_) (fun h1 => ?_)
  · simp only [decide_eq_true_eq] at h1
    have hil : i < W.length := by omega
    obtain ⟨b, o, a1, a2, a3, a4⟩ := (hsl.keep hlt hx5).elem wtV_len (k := .i64) hil
    have hf := sumW_succ hil
    have b1 := sum_take_bounds (i := i) hw hwl
    have b2 := hw _ (List.getElem_mem hil)
    generalize W[i] = z at *
    simp only [wtV] at a2
    simp only [go_sem, Int.reduceBEq, Int.reduceBNe, Int.reduceNeg, reduceCtorEq, Nat.reduceEqDiff, Nat.reduceAdd, Nat.reduceLeDiff, Nat.reduceMul, Nat.reduceSub, Int.reduceToNat, Int.reduceLT, Int.reduceLE, a1, a2, load_w, load_a, store_b, idxS_b, set_blk, new_blk, set_next, new_next, len_s, ldW_c, ldA_c, stB_c, toArr_one, size_one, toList_toArr, size_toArr, List.length_cons, List.length_nil, List.getElem?_cons_zero, List.getElem?_cons_succ, Nat.zero_add, Nat.add_zero]
    have hx6 : Ext m5 (m5.new (.cells [.int .i64 z.1, .int .i64 z.2] (some 2))) := Ext.new
    have hb6 : Bk (m5.new (.cells [.int .i64 z.1, .int .i64 z.2] (some 2))) m5.next [.int .i64 z.1, .int .i64 z.2] 2 := Bk.new
    generalize m5.new (.cells [.int .i64 z.1, .int .i64 z.2] (some 2)) = m6 at hx6 hb6 ⊢
    simp only [go_sem, Int.reduceBEq, Int.reduceBNe, Int.reduceNeg, reduceCtorEq, Nat.reduceEqDiff, Nat.reduceAdd, Nat.reduceLeDiff, Nat.reduceMul, Nat.reduceSub, Int.reduceToNat, Int.reduceLT, Int.reduceLE, load_w, load_a, store_b, idxS_b, set_blk, new_blk, set_next, new_next, len_s, ldW_c, ldA_c, stB_c, toArr_one, size_one, toList_toArr, size_toArr, List.length_cons, List.length_nil, List.getElem?_cons_zero, List.getElem?_cons_succ, Nat.zero_add, Nat.add_zero, hb6.at_, step1 (show i < 1000000 by omega)]
    refine ⟨W.length - (i + 1), by omega, i + 1, by omega, rfl, ?_, hx5.trans hx6⟩
    rw [hf, wrap_i64 (by omega) (by omega)]
    simp only [Int.sub_sub]
  · simp only [go_sem, Int.reduceBEq, Int.reduceBNe, Int.reduceNeg, reduceCtorEq, Nat.reduceEqDiff, Nat.reduceAdd, Nat.reduceLeDiff, Nat.reduceMul, Nat.reduceSub, Int.reduceToNat, Int.reduceLT, Int.reduceLE]
    simp only [decide_eq_false_iff_not] at h1
    rw [List.take_of_length_le (by omega)]
    exact ⟨rfl, hx.trans (hx2.trans (hx4.trans hx5))⟩

def roomP (p : PlanD) (c : Int) : Int := if hasC p c = true then max 0 (leftP p c) else 0
def roomR (p : PlanD) (c : Int) : Int := if hasC p c = true then p.frame - loadR p c else 0

theorem loadR_le {p : PlanD} {c : Int} (hr : PlanR p) : 0 ≤ loadR p c ∧ loadR p c ≤ 64000064 := by
  have h1 := sumW_le (whL_sh (c := c) hr.sh)
  have h2 : (whL p.places c).length < 1000000 := Nat.lt_of_le_of_lt whL_le hr.len
  have h3 := tks_len (x := rwN p.places c 64) (n := 64)
  unfold loadR
  omega
end Go.Am


/- PlanW7 over the table of stage (relayset.py). -/
set_option linter.unusedVariables false
set_option linter.unusedSimpArgs false
namespace Go.Am
variable {m : Mem}

theorem ints_get {l : List Nat} {i : Nat} (h : i < l.length) : (ints l)[i]? = some (.int .i64 (l[i] : Nat)) := by
  unfold ints; rw [List.getElem?_map, List.getElem?_eq_getElem h]; rfl

def sumI (l : List Int) : Int := l.sum
theorem sumI_succ {l : List Int} {i : Nat} (h : i < l.length) : sumI (l.take (i + 1)) = sumI (l.take i) + l[i] := by
  unfold sumI
  rw [List.take_succ_eq_append_getElem h, List.sum_append]; simp
theorem sumI_le {l : List Int} {a b : Int} (ha : a ≤ 0) (hb : 0 ≤ b) (h : ∀ w ∈ l, a ≤ w ∧ w ≤ b) {i : Nat} : a * l.length ≤ sumI (l.take i) ∧ sumI (l.take i) ≤ b * l.length := by
  induction l generalizing i with
  | nil => simp [sumI]
  | cons x t ih =>
    have h2 := h x (by simp)
    have e1 : a * ((x :: t).length : Nat) = a + a * (t.length : Nat) := by rw [List.length_cons, Int.natCast_add, Int.mul_add]; omega
    have e2 : b * ((x :: t).length : Nat) = b + b * (t.length : Nat) := by rw [List.length_cons, Int.natCast_add, Int.mul_add]; omega
    rw [e1, e2]
    cases i with
    | zero =>
      have q := ih (fun w hw => h w (by simp [hw])) (i := 0)
      simp only [List.take_zero, sumI, List.sum_nil] at *
      omega
    | succ i =>
      have q := ih (fun w hw => h w (by simp [hw])) (i := i)
      have e : sumI ((x :: t).take (i + 1)) = x + sumI (t.take i) := by simp [sumI]
      omega

def freeP (p : PlanD) : Int := sumI ((csP p 16).map fun (c : Nat) => roomP p c)
def rL (p : PlanD) : List Int := (List.range 16).map fun (c : Nat) => roomR p c
theorem rL_len {p : PlanD} : (rL p).length = 16 := by simp [rL]
theorem rL_get {p : PlanD} {i : Nat} (h : i < (rL p).length) : (rL p)[i] = roomR p i := by simp [rL]
def freeR (p : PlanD) : Int := sumI (rL p)

theorem roomP_le {p : PlanD} {c : Int} (hr : PlanR p) : 0 ≤ roomP p c ∧ roomP p c ≤ 64 := by
  have h1 := sumW_le (whL_sh (c := c) hr.sh)
  have := hr.fr
  unfold roomP leftP
  split <;> omega
theorem roomR_le {p : PlanD} {c : Int} (hr : PlanR p) : -64000064 ≤ roomR p c ∧ roomR p c ≤ 64000064 := by
  have h1 := loadR_le (c := c) hr
  have := hr.fr
  unfold roomR
  split <;> omega

def lightP (p : PlanD) : Bool := (p.places.take 300).all (fun x => decide (x.pieces.length ≤ 20)) && decide (p.places.length ≤ 60)

theorem Light_spec {p : PlanD} {v : Value} (hv : PlanV m p v) : WC R F.law16_Light [v] m fun r m' => r = .bool (lightP p) ∧ Ext m m' := by
  refine WC.of R.law16_Light rfl ?_
  obtain ⟨pv, rfl, hp⟩ := hv
  simp only [RC.law16_Light, planV, go_sem, Int.reduceBEq, Int.reduceBNe, Int.reduceNeg, reduceCtorEq, Nat.reduceEqDiff, Nat.reduceAdd, Nat.reduceLeDiff, Nat.reduceMul, Nat.reduceSub, Int.reduceToNat, Int.reduceLT, Int.reduceLE, hp.one]
  have hx : Ext m (m.new (.cells [.int .i64 p.frame, u32 p.cores, pv] (some 3))) := Ext.new
  have hb : Bk (m.new (.cells [.int .i64 p.frame, u32 p.cores, pv] (some 3))) m.next [.int .i64 p.frame, u32 p.cores, pv] 3 := Bk.new
  generalize m.new (.cells [.int .i64 p.frame, u32 p.cores, pv] (some 3)) = m1 at hx hb ⊢
  have hp1 := hp.keep hx
  refine WL.of (fun n e m' => ∃ i : Nat, i ≤ p.places.length ∧ i ≤ 300 ∧ n = 300 - i ∧ e = [(1, pt m.next), (3, .int .i64 i)] ∧ (∀ x ∈ p.places.take i, x.pieces.length ≤ 20) ∧ m' = m1) 300
    ⟨0, by omega, by omega, by omega, by simp only [go_sem, Int.reduceBEq, Int.reduceBNe, Int.reduceNeg, reduceCtorEq, Nat.reduceEqDiff, Nat.reduceAdd, Nat.reduceLeDiff, Nat.reduceMul, Nat.reduceSub, Int.reduceToNat, Int.reduceLT, Int.reduceLE] <;> rfl, by simp, rfl⟩ ?_
  rintro _ _ m3 ⟨i, hi, hi3, rfl, rfl, hall, rfl⟩
  have out : i = p.places.length ∨ i = 300 → lightP p = decide (p.places.length ≤ 60) := by
    intro h
    unfold lightP
    have : p.places.take 300 = p.places.take i := by
      rcases h with h | h
      · rw [List.take_of_length_le (by omega), List.take_of_length_le (by omega)]
      · rw [h]
    rw [this, List.all_eq_true.2 fun x hx => by simpa using hall x hx, Bool.true_and]
  simp only [RB.law16_Light_1, pt, go_sem, Int.reduceBEq, Int.reduceBNe, Int.reduceNeg, reduceCtorEq, Nat.reduceEqDiff, Nat.reduceAdd, Nat.reduceLeDiff, Nat.reduceMul, Nat.reduceSub, Int.reduceToNat, Int.reduceLT, Int.reduceLE, load_w, load_a, store_b, idxS_b, set_blk, new_blk, set_next, new_next, len_s, ldW_c, ldA_c, stB_c, toArr_one, size_one, toList_toArr, size_toArr, List.length_cons, List.length_nil, List.getElem?_cons_zero, List.getElem?_cons_succ, Nat.zero_add, Nat.add_zero, hb.at_, hp1.len]
  refine gT.of (fun h1' => ?_) (fun h1' => ?_) <;> (have h1 := h1'; try simp only [decide_eq_true_eq, decide_eq_false_iff_not, beq_iff_eq, bne_iff_ne, beq_eq_false_iff_ne, ne_eq, Bool.not_eq_true', Bool.not_eq_false', bne_eq_false_iff_eq, Int.not_lt, Int.not_le] at h1)
  · have hil : i < p.places.length := by omega
    try simp only [go_sem, Int.reduceBEq, Int.reduceBNe, Int.reduceNeg, reduceCtorEq, Nat.reduceEqDiff, Nat.reduceAdd, Nat.reduceLeDiff, Nat.reduceMul, Nat.reduceSub, Int.reduceToNat, Int.reduceLT, Int.reduceLE, load_w, load_a, store_b, idxS_b, set_blk, new_blk, set_next, new_next, len_s, ldW_c, ldA_c, stB_c, toArr_one, size_one, toList_toArr, size_toArr, List.length_cons, List.length_nil, List.getElem?_cons_zero, List.getElem?_cons_succ, Nat.zero_add, Nat.add_zero, h1']
    refine gT.of (fun h2' => ?_) (fun h2' => ?_) <;> (have h2 := h2'; try simp only [decide_eq_true_eq, decide_eq_false_iff_not, beq_iff_eq, bne_iff_ne, beq_eq_false_iff_ne, ne_eq, Bool.not_eq_true', Bool.not_eq_false', bne_eq_false_iff_eq, Int.not_lt, Int.not_le] at h2)
    · obtain ⟨b, o, qv, a1, a2, a3, a4, a5⟩ := hp1.elem hil
      have a33 := a3 3 (by omega)
      have hm : p.places[i] ∈ p.places.take 300 := by
        rw [List.mem_take_iff_getElem]
        exact ⟨i, by omega, rfl⟩
      have hsn : p.places.take (i + 1) = p.places.take i ++ [p.places[i]] := List.take_succ_eq_append_getElem hil
      generalize p.places[i] = x at *
      simp only [plV, List.getElem?_cons_zero, List.getElem?_cons_succ] at a33
      try simp only [go_sem, Int.reduceBEq, Int.reduceBNe, Int.reduceNeg, reduceCtorEq, Nat.reduceEqDiff, Nat.reduceAdd, Nat.reduceLeDiff, Nat.reduceMul, Nat.reduceSub, Int.reduceToNat, Int.reduceLT, Int.reduceLE, load_w, load_a, store_b, idxS_b, set_blk, new_blk, set_next, new_next, len_s, ldW_c, ldA_c, stB_c, toArr_one, size_one, toList_toArr, size_toArr, List.length_cons, List.length_nil, List.getElem?_cons_zero, List.getElem?_cons_succ, Nat.zero_add, Nat.add_zero, hb.at_, a1, a33, a4.len, h1', h2']
      refine gT.of (fun h3 => ?_) (fun h3 => ?_)
      · simp only [decide_eq_true_eq] at h3
        have : lightP p = false := by
          unfold lightP
          rw [Bool.and_eq_false_iff]
          left
          rw [List.all_eq_false]
          exact ⟨x, hm, by simp; omega⟩
        try simp only [go_sem, Int.reduceBEq, Int.reduceBNe, Int.reduceNeg, reduceCtorEq, Nat.reduceEqDiff, Nat.reduceAdd, Nat.reduceLeDiff, Nat.reduceMul, Nat.reduceSub, Int.reduceToNat, Int.reduceLT, Int.reduceLE, load_w, load_a, store_b, idxS_b, set_blk, new_blk, set_next, new_next, len_s, ldW_c, ldA_c, stB_c, toArr_one, size_one, toList_toArr, size_toArr, List.length_cons, List.length_nil, List.getElem?_cons_zero, List.getElem?_cons_succ, Nat.zero_add, Nat.add_zero, this]
        exact hx
      · simp only [decide_eq_false_iff_not] at h3
        try simp only [go_sem, Int.reduceBEq, Int.reduceBNe, Int.reduceNeg, reduceCtorEq, Nat.reduceEqDiff, Nat.reduceAdd, Nat.reduceLeDiff, Nat.reduceMul, Nat.reduceSub, Int.reduceToNat, Int.reduceLT, Int.reduceLE, load_w, load_a, store_b, idxS_b, set_blk, new_blk, set_next, new_next, len_s, ldW_c, ldA_c, stB_c, toArr_one, size_one, toList_toArr, size_toArr, List.length_cons, List.length_nil, List.getElem?_cons_zero, List.getElem?_cons_succ, Nat.zero_add, Nat.add_zero, step1 (show i < 1000000 by omega)]
        refine ⟨300 - (i + 1), by omega, i + 1, by omega, by omega, rfl, rfl, ?_⟩
        rw [hsn]
        intro y hy
        rcases List.mem_append.1 hy with hy | hy
        · exact hall y hy
        · rw [List.mem_singleton.1 hy]; omega
    · try simp only [go_sem, Int.reduceBEq, Int.reduceBNe, Int.reduceNeg, reduceCtorEq, Nat.reduceEqDiff, Nat.reduceAdd, Nat.reduceLeDiff, Nat.reduceMul, Nat.reduceSub, Int.reduceToNat, Int.reduceLT, Int.reduceLE, load_w, load_a, store_b, idxS_b, set_blk, new_blk, set_next, new_next, len_s, ldW_c, ldA_c, stB_c, toArr_one, size_one, toList_toArr, size_toArr, List.length_cons, List.length_nil, List.getElem?_cons_zero, List.getElem?_cons_succ, Nat.zero_add, Nat.add_zero, hb.at_, hp1.len, h1', h2']
      rw [out (.inr (by omega))]
      exact ⟨by rw [show (decide ((p.places.length : Int) ≤ 60)) = decide (p.places.length ≤ 60) from decide_eq_decide.2 (by omega)], hx⟩
  · try simp only [go_sem, Int.reduceBEq, Int.reduceBNe, Int.reduceNeg, reduceCtorEq, Nat.reduceEqDiff, Nat.reduceAdd, Nat.reduceLeDiff, Nat.reduceMul, Nat.reduceSub, Int.reduceToNat, Int.reduceLT, Int.reduceLE, load_w, load_a, store_b, idxS_b, set_blk, new_blk, set_next, new_next, len_s, ldW_c, ldA_c, stB_c, toArr_one, size_one, toList_toArr, size_toArr, List.length_cons, List.length_nil, List.getElem?_cons_zero, List.getElem?_cons_succ, Nat.zero_add, Nat.add_zero, hb.at_, hp1.len, h1']
    rw [out (.inl (by omega))]
    exact ⟨by rw [show (decide ((p.places.length : Int) ≤ 60)) = decide (p.places.length ≤ 60) from decide_eq_decide.2 (by omega)], hx⟩
end Go.Am


/- PlanW8 over the table of stage (relayset.py). -/
set_option linter.unusedVariables false
set_option linter.unusedSimpArgs false
namespace Go.Am
open Classical
variable {m : Mem}

def cntA (x : Pl) (t : Nat) : Nat := x.pieces.countP (atB (-1) t)
def sumA (x : Pl) : Nat → Nat
  | 0 => 0
  | n + 1 => sumA x n + cntA x n
def pcOk (p : PlanD) (ps : List Pc) (i : Nat) : Prop := ∃ h : i < ps.length, hasC p ps[i].1 = true ∧ (∀ h : 0 < i, (ps[i - 1]'(by omega)).1 < ps[i].1) ∧ ps[i].2 ≠ 0#64
def refPlaceP (p : PlanD) (x : Pl) : Prop :=
  isU x.unit ∧ 1 ≤ x.share ∧ x.share ≤ p.frame ∧ (x.pieces.length = 0 → hasC p x.core = true) ∧
  (x.pieces.length ≠ 0 → (∀ i, i < x.pieces.length → pcOk p x.pieces i) ∧ (∀ t, t < 64 → cntA x t ≤ 1 ∧ (0 < cntA x t → (t : Int) < p.frame)) ∧ 2 ≤ x.pieces.length ∧ x.core = 0 ∧ (sumA x 64 : Int) = x.share)

theorem sub1 {i : Nat} (h : 0 < i) (h2 : i < 1000000) : IntKind.wrap .i64 ((i : Int) - 1) = ((i - 1 : Nat) : Int) := by rw [wrap_i64 (by omega) (by omega)]; omega

theorem sumA_le {x : Pl} {n : Nat} (h : ∀ t, t < n → cntA x t ≤ 1) : sumA x n ≤ n := by
  induction n with
  | zero => simp [sumA]
  | succ n ih =>
    have := ih fun t ht => h t (by omega)
    have := h n (by omega)
    simp only [sumA]; omega
end Go.Am


/- PlanW9 over the table of stage (relayset.py). -/
set_option linter.unusedVariables false
set_option linter.unusedSimpArgs false
namespace Go.Am
open Classical
variable {m : Mem}

theorem fin_iff {P : Prop} {b : Bool} (h : b = true ↔ P) : (Value.bool b = Value.bool (decide P)) := by
  congr 1; rw [Bool.eq_iff_iff, decide_eq_true_eq]; exact h
theorem fin_no {P : Prop} (h : ¬ P) : (Value.bool false = Value.bool (decide P)) := by rw [decide_eq_false h]
theorem fin_yes {P : Prop} (h : P) : (Value.bool true = Value.bool (decide P)) := by rw [decide_eq_true h]

def cntL (l : List Pl) (c t : Int) : Nat := (l.map fun x => x.pieces.countP (atB c t)).sum
theorem cntL_succ {l : List Pl} {c t : Int} {i : Nat} (h : i < l.length) : cntL (l.take (i + 1)) c t = cntL (l.take i) c t + l[i].pieces.countP (atB c t) := by
  unfold cntL
  rw [List.take_succ_eq_append_getElem h, List.map_append, List.sum_append]; simp
theorem cntL_le {l : List Pl} {c t : Int} (h : ∀ x ∈ l, x.pieces.length < 1000000) : ∀ i, cntL (l.take i) c t ≤ 1000000 * i := by
  intro i
  induction i with
  | zero => simp [cntL]
  | succ i ih =>
    by_cases hi : i < l.length
    · rw [cntL_succ hi]
      have := h _ (List.getElem_mem hi)
      have h2 : l[i].pieces.countP (atB c t) ≤ l[i].pieces.length := List.countP_le_length
      omega
    · rw [List.take_of_length_le (by omega)] at *
      omega

def apartR (l : List Pl) : Prop := ∀ c, c < 16 → ∀ t, t < 64 → cntL l (c : Nat) (t : Nat) ≤ 1

def plOk (p : PlanD) (i : Nat) : Prop := ∃ h : i < p.places.length, refPlaceP p p.places[i] ∧ ∀ h : 0 < i, (p.places[i - 1]'(by omega)).unit < p.places[i].unit
def RightP (p : PlanD) : Prop :=
  2 ≤ p.frame ∧ p.frame ≤ 64 ∧ p.cores ≠ 0#32 ∧ p.cores.toNat ≤ 65535 ∧ (∀ i, i < p.places.length → plOk p i) ∧ apartR p.places ∧ p.places.countP isSp < (csP p 16).length ∧
  ∀ c ∈ csP p 16, loadR p (c : Nat) ≤ p.frame

theorem RightP.r {p : PlanD} (h : 2 ≤ p.frame) (h2 : p.frame ≤ 64) (hl : p.places.length < 1000000) (hp1 : ∀ x ∈ p.places, x.pieces.length < 1000000) (ha : ∀ i, i < p.places.length → plOk p i) : PlanR p := by
  refine ⟨hl, hp1, fun x hx => ?_, by omega, h2⟩
  obtain ⟨i, hi, rfl⟩ := List.getElem_of_mem hx
  obtain ⟨_, h, -⟩ := ha i hi
  have := h.2.1; have := h.2.2.1
  omega

theorem PlsV.prev {m : Mem} {l : List Pl} {v : Value} (h : PlsV m l v) {i : Nat} (hi : i < l.length) : ∃ b o, aIdxS 4 v (.int .i64 i) = some (.pointer (some ⟨b, o, none⟩)) ∧ ∀ m', Ext m m' → aLoad false 1 m' (.pointer (some ⟨b, o, none⟩)) = some (.int .i64 l[i].unit) := by
  obtain ⟨b, o, qv, a1, a2, a3, a4, a5⟩ := h.elem hi
  refine ⟨b, o, a1, fun m' hm => ?_⟩
  obtain ⟨b', o', qv', c1, c2, c3, c4, c5⟩ := (h.keep hm).elem hi
  rw [a1] at c1; cases c1
  have := c3 0 (by omega)
  simpa [plV] using this
end Go.Am


/- PlanM over the table of stage (relayset.py). -/
set_option linter.unusedVariables false
set_option linter.unusedSimpArgs false
namespace Go.Am
open Classical

/-! ### sums -/
def S (f : Nat → Int) : Nat → Int
  | 0 => 0
  | n + 1 => S f n + f n
theorem S_congr {f g : Nat → Int} {n : Nat} (h : ∀ i, i < n → f i = g i) : S f n = S g n := by
  induction n with
  | zero => rfl
  | succ n ih => simp only [S]; rw [ih fun i hi => h i (by omega), h n (by omega)]
theorem S_add {f g : Nat → Int} {n : Nat} : S (fun i => f i + g i) n = S f n + S g n := by
  induction n with
  | zero => rfl
  | succ n ih => simp only [S]; rw [ih]; omega
theorem S_sub {f g : Nat → Int} {n : Nat} : S (fun i => f i - g i) n = S f n - S g n := by
  induction n with
  | zero => rfl
  | succ n ih => simp only [S]; rw [ih]; omega
theorem S_zero {n : Nat} : S (fun _ => 0) n = 0 := by
  induction n with
  | zero => rfl
  | succ n ih => simp only [S]; rw [ih]; rfl
theorem S_swap {f : Nat → Nat → Int} {n k : Nat} : S (fun i => S (fun j => f i j) k) n = S (fun j => S (fun i => f i j) n) k := by
  induction n with
  | zero => simp only [S]; rw [S_zero]
  | succ n ih => simp only [S]; rw [ih, ← S_add]
/-- One of them alone. -/
theorem S_one {n d : Nat} {a : Int} (h : d < n) : S (fun i => if i = d then a else 0) n = a := by
  induction n with
  | zero => omega
  | succ n ih =>
    simp only [S]
    by_cases e : d = n
    · subst e
      rw [if_pos rfl, S_congr (g := fun _ => 0) (fun i hi => if_neg (by omega)), S_zero]; omega
    · rw [ih (by omega), if_neg (by omega)]; omega

theorem sumI_range {f : Nat → Int} {n : Nat} : sumI ((List.range n).map fun c => f c) = S f n := by
  induction n with
  | zero => rfl
  | succ n ih => rw [List.range_succ, List.map_append, S, ← ih]; simp [sumI]

theorem sumI_cores {p : PlanD} {f : Nat → Int} {n : Nat} : sumI ((csP p n).map fun c => f c) = S (fun c => if hasC p c = true then f c else 0) n := by
  induction n with
  | zero => rfl
  | succ n ih =>
    rw [csP_succ, List.map_append, S, ← ih]
    split <;> simp [sumI]

theorem cores_S {p : PlanD} {n : Nat} : ((csP p n).length : Int) = S (fun c => if hasC p c = true then 1 else 0) n := by
  induction n with
  | zero => rfl
  | succ n ih =>
    rw [csP_succ, List.length_append, S, ← ih]
    split <;> simp

/-! ### bits -/
theorem pop_tks (x : BitVec 64) : pop x = (tks x 64).length := by
  have : ∀ (n : Nat) (x : BitVec 64), n ≤ 64 → popN n x.toNat = (tks x n).length := by
    intro n
    induction n with
    | zero => intro x _; rfl
    | succ n ih =>
      intro x hn
      rw [popN_add n 1, ih x (by omega), tks_succ, List.length_append]
      have : x.getLsbD n = x.toNat.testBit n := rfl
      rw [this, Nat.testBit_eq_decide_div_mod_eq]
      simp only [popN, Nat.add_zero, decide_eq_true_eq]
      split <;> simp <;> omega
  exact this 64 x (Nat.le_refl _)

theorem tks_S {x : BitVec 64} {n : Nat} : ((tks x n).length : Int) = S (fun t => if x.getLsbD t = true then 1 else 0) n := by
  induction n with
  | zero => rfl
  | succ n ih =>
    rw [tks_succ, List.length_append, S, ← ih]
    split <;> simp

/-! ### windows -/
theorem winPc_bit {c : Int} {t : Nat} : ∀ {ps : List Pc} {a : BitVec 64}, (winPc c a ps).getLsbD t = (a.getLsbD t || ps.any fun y => decide (y.1 = c) && y.2.getLsbD t)
  | [], a => by simp [winPc]
  | y :: ps, a => by
    have : winPc c a (y :: ps) = winPc c (if y.1 = c then a ||| y.2 else a) ps := rfl
    rw [this, winPc_bit, List.any_cons]
    split
    · rename_i h; rw [BitVec.getLsbD_or]; simp [h, Bool.or_assoc]
    · rename_i h; simp [h]
theorem winW_bit' {c : Int} {t : Nat} : ∀ {l : List Pl} {a : BitVec 64}, (l.foldl (fun a x => winPc c a x.pieces) a).getLsbD t = (a.getLsbD t || l.any fun x => x.pieces.any fun y => decide (y.1 = c) && y.2.getLsbD t)
  | [], a => by simp
  | x :: l, a => by rw [List.foldl_cons, winW_bit', winPc_bit, List.any_cons, Bool.or_assoc]
theorem winW_bit {c : Int} {t : Nat} {l : List Pl} : (winW l c).getLsbD t = l.any fun x => x.pieces.any fun y => decide (y.1 = c) && y.2.getLsbD t := by
  unfold winW; rw [winW_bit']; simp

theorem atB_eq {c t : Nat} (ht : t < 64) (y : Pc) : atB c t y = (decide (y.1 = c) && y.2.getLsbD t) := by
  have : ¬ ((c : Int) < 0) := by omega
  simp only [atB, this, decide_false, Bool.false_or]
  rw [inB_of (by omega) (by omega), Int.toNat_natCast]
theorem atB_all {t : Nat} (ht : t < 64) (y : Pc) : atB (-1) t y = y.2.getLsbD t := by
  simp only [atB, show ((-1 : Int) < 0) by omega, decide_true, Bool.true_or, Bool.true_and]
  rw [inB_of (by omega) (by omega), Int.toNat_natCast]

theorem cntL_cons {x : Pl} {l : List Pl} {c t : Int} : cntL (x :: l) c t = x.pieces.countP (atB c t) + cntL l c t := by simp [cntL]

theorem cntL_pos {l : List Pl} {c t : Nat} (ht : t < 64) : (0 < cntL l c t) ↔ (winW l c).getLsbD t = true := by
  rw [winW_bit]
  induction l with
  | nil => simp [cntL]
  | cons x l ih =>
    rw [cntL_cons, List.any_cons, Bool.or_eq_true, ← ih]
    have : 0 < x.pieces.countP (atB c t) ↔ (x.pieces.any fun y => decide (y.1 = (c : Int)) && y.2.getLsbD t) = true := by
      rw [List.countP_pos_iff, List.any_eq_true]
      simp only [atB_eq ht]
    rw [← this]; omega

theorem rwT_bit {c : Int} {t i : Nat} (hi : i < 64) : ∀ {l : List Pl} {w : BitVec 64}, (rwT l c t w).getLsbD i = (w.getLsbD i || (decide (i = t) && l.any fun x => decide (0 < x.pieces.countP (atB c t))))
  | [], w => by simp [rwT]
  | x :: l, w => by
    have : rwT (x :: l) c t w = rwT l c t (if 0 < x.pieces.countP (atB c t) then withB w t else w) := rfl
    rw [this, rwT_bit hi, List.any_cons]
    split
    · rename_i h
      rw [withB_bit hi]
      have e : decide ((i : Int) = (t : Int)) = decide (i = t) := decide_eq_decide.2 (by omega)
      rw [e]
      simp [h]
      cases w.getLsbD i <;> simp <;> (intro h; intros; exact h)
    · rename_i h; simp [h]
theorem any_cnt {l : List Pl} {c t : Int} : (l.any fun x => decide (0 < x.pieces.countP (atB c t))) = decide (0 < cntL l c t) := by
  induction l with
  | nil => simp [cntL]
  | cons x l ih =>
    rw [List.any_cons, ih, cntL_cons, ← Bool.decide_or]
    exact decide_eq_decide.2 (by omega)
theorem rwN_bit {l : List Pl} {c : Int} {i : Nat} (hi : i < 64) : ∀ {n : Nat}, (rwN l c n).getLsbD i = (decide (i < n) && decide (0 < cntL l c i))
  | 0 => by simp [rwN]
  | n + 1 => by
    simp only [rwN]
    rw [rwT_bit hi, rwN_bit hi, any_cnt]
    by_cases e : i = n
    · subst e; simp
    · have : decide (i < n + 1) = decide (i < n) := decide_eq_decide.2 (by omega)
      rw [this]; simp [e]

/-- Both say the same windows. -/
theorem windows_same {l : List Pl} {c : Nat} : rwN l c 64 = winW l c := by
  refine word_ext fun i hi => ?_
  rw [rwN_bit hi, Bool.eq_iff_iff]
  simp only [hi, decide_true, Bool.true_and, decide_eq_true_eq]
  exact cntL_pos hi

/-! ### what is counted on all cores -/
def plFine (x : Pl) : Prop := (isSp x = true → (∀ y ∈ x.pieces, 0 ≤ y.1 ∧ y.1 < 16) ∧ (sumA x 64 : Int) = x.share) ∧ (isSp x = false → 0 ≤ x.core ∧ x.core < 16)

theorem sumA_S {x : Pl} {n : Nat} : (sumA x n : Int) = S (fun t => (cntA x t : Int)) n := by
  induction n with
  | zero => rfl
  | succ n ih => simp only [sumA, S]; rw [← ih]; omega

theorem pieces_cores {ps : List Pc} {t : Nat} (ht : t < 64) (h : ∀ y ∈ ps, 0 ≤ y.1 ∧ y.1 < 16) : S (fun c => ((ps.countP (atB (c : Nat) t) : Nat) : Int)) 16 = (ps.countP (atB (-1) t) : Nat) := by
  induction ps with
  | nil => simp only [List.countP_nil]; rw [show ((0 : Nat) : Int) = 0 from rfl, S_zero]
  | cons y ps ih =>
    have hy := h y (by simp)
    have e : ∀ c : Nat, (((y :: ps).countP (atB (c : Nat) t) : Nat) : Int) = (ps.countP (atB (c : Nat) t) : Nat) + (if c = y.1.toNat then (if y.2.getLsbD t = true then 1 else 0) else 0 : Int) := by
      intro c
      rw [List.countP_cons, atB_eq ht]
      by_cases h1 : y.1 = (c : Int)
      · have : c = y.1.toNat := by omega
        rw [if_pos this]; simp [h1]; split <;> rfl
      · have : ¬ c = y.1.toNat := by omega
        rw [if_neg this]; simp [h1]
    rw [S_congr (fun c _ => e c), S_add, ih fun z hz => h z (by simp [hz]), S_one (by omega), List.countP_cons, atB_all ht]
    split <;> simp

theorem all_cores {l : List Pl} (h : ∀ x ∈ l, plFine x) : S (fun c => S (fun t => (cntL l (c : Nat) (t : Nat) : Int)) 64 + sumW (whL l (c : Nat))) 16 = sumW (wtsL l) := by
  induction l with
  | nil =>
    have : ∀ c, c < 16 → S (fun t => (cntL [] (c : Nat) (t : Nat) : Int)) 64 + sumW (whL [] (c : Nat)) = (fun _ => (0 : Int)) c := by
      intro c _
      have : S (fun t => (cntL [] (c : Nat) (t : Nat) : Int)) 64 = 0 := by
        rw [S_congr (g := fun _ => 0) (fun t _ => by simp [cntL]), S_zero]
      rw [this]; simp [whL, sumW]
    rw [S_congr this, S_zero]; rfl
  | cons x l ih =>
    have hx := h x (by simp)
    have ih := ih fun y hy => h y (by simp [hy])
    have e1 : ∀ c, c < 16 → S (fun t => (cntL (x :: l) (c : Nat) (t : Nat) : Int)) 64 + sumW (whL (x :: l) (c : Nat)) =
        (S (fun t => ((x.pieces.countP (atB (c : Nat) (t : Nat)) : Nat) : Int)) 64 + (if isWh c x = true then x.share else 0)) + (S (fun t => (cntL l (c : Nat) (t : Nat) : Int)) 64 + sumW (whL l (c : Nat))) := by
      intro c _
      rw [S_congr (g := fun t => ((x.pieces.countP (atB (c : Nat) (t : Nat)) : Nat) : Int) + (cntL l (c : Nat) (t : Nat) : Int)) (fun t _ => by rw [cntL_cons]; omega), S_add]
      have : sumW (whL (x :: l) (c : Nat)) = (if isWh c x = true then x.share else 0) + sumW (whL l (c : Nat)) := by
        unfold whL sumW
        rw [List.filter_cons]
        split <;> simp [wtOf]
      rw [this]; omega
    rw [S_congr e1, S_add, ih, S_add]
    have e2 : sumW (wtsL (x :: l)) = x.share + sumW (wtsL l) := by simp [wtsL, sumW, wtOf]
    rw [e2, S_swap]
    cases hsp : isSp x
    · have hc := hx.2 hsp
      have hnil : x.pieces = [] := by
        simp only [isSp, decide_eq_false_iff_not] at hsp
        exact List.eq_nil_of_length_eq_zero (by omega)
      rw [hnil]
      have z : S (fun t => S (fun c => (([] : List Pc).countP (atB (c : Nat) (t : Nat)) : Nat) : Nat → Int) 16) 64 = 0 := by
        rw [S_congr (g := fun _ => 0) (fun t _ => by simp only [List.countP_nil]; rw [show ((0 : Nat) : Int) = 0 from rfl, S_zero]), S_zero]
      rw [z]
      have w : S (fun c => if isWh c x = true then x.share else 0) 16 = x.share := by
        rw [S_congr (g := fun c => if c = x.core.toNat then x.share else 0) (fun c hc2 => by
          have : isWh c x = decide (c = x.core.toNat) := by
            simp only [isWh, hsp, Bool.not_false, Bool.true_and]
            rw [Bool.eq_iff_iff, beq_iff_eq, decide_eq_true_eq]; omega
          rw [this]; simp), S_one (by omega)]
      rw [w]; omega
    · obtain ⟨h1, h2⟩ := hx.1 hsp
      rw [S_congr (fun t ht => pieces_cores ht h1)]
      have w : S (fun c => if isWh c x = true then x.share else 0) 16 = 0 := by
        rw [S_congr (g := fun _ => 0) (fun c _ => by simp [isWh, hsp]), S_zero]
      rw [w]
      have : S (fun t => ((x.pieces.countP (atB (-1) (t : Nat)) : Nat) : Int)) 64 = x.share := by rw [← h2, sumA_S]; rfl
      rw [this]; omega
end Go.Am


/- PlanM2 over the table of stage (relayset.py). -/
set_option linter.unusedVariables false
set_option linter.unusedSimpArgs false
namespace Go.Am
open Classical

structure PlanL (p : PlanD) : Prop where
  len : p.places.length < 1000000
  pcs : ∀ x ∈ p.places, x.pieces.length < 1000000

theorem RightP.pr {p : PlanD} (h : RightP p) (hl : PlanL p) : PlanR p := RightP.r h.1 h.2.1 hl.len hl.pcs h.2.2.2.2.1

theorem hasC_range {p : PlanD} {c : Int} (h : hasC p c = true) : 0 ≤ c ∧ c < 16 := by
  simp only [hasC, Bool.and_eq_true, decide_eq_true_eq] at h
  exact h.1

theorem RightP.place {p : PlanD} (h : RightP p) {x : Pl} (hx : x ∈ p.places) : refPlaceP p x := by
  obtain ⟨i, hi, rfl⟩ := List.getElem_of_mem hx
  obtain ⟨_, g, -⟩ := h.2.2.2.2.1 i hi
  exact g

theorem RightP.fine {p : PlanD} (h : RightP p) {x : Pl} (hx : x ∈ p.places) : plFine x := by
  obtain ⟨h1, h2, h3, h4, h5⟩ := h.place hx
  constructor
  · intro hs
    simp only [isSp, decide_eq_true_eq] at hs
    have := h5 (by omega)
    refine ⟨fun y hy => ?_, this.2.2.2.2⟩
    obtain ⟨i, hi, rfl⟩ := List.getElem_of_mem hy
    obtain ⟨_, g, -⟩ := this.1 i hi
    exact hasC_range g
  · intro hs
    simp only [isSp, decide_eq_false_iff_not] at hs
    exact hasC_range (h4 (by omega))

/-- Whose cores are asked. -/
theorem RightP.cnt {p : PlanD} (h : RightP p) {c : Nat} (hc : hasC p c = false) {t : Nat} (ht : t < 64) : cntL p.places (c : Nat) (t : Nat) = 0 ∧ whL p.places (c : Nat) = [] := by
  constructor
  · cases Nat.eq_zero_or_pos (cntL p.places (c : Nat) (t : Nat)) with
    | inl h => exact h
    | inr hpos =>
      exfalso
      replace hpos := (cntL_pos ht).1 hpos
      rw [winW_bit, List.any_eq_true] at hpos
      obtain ⟨x, hx, hy⟩ := hpos
      rw [List.any_eq_true] at hy
      obtain ⟨y, hy, hb⟩ := hy
      simp only [Bool.and_eq_true, decide_eq_true_eq] at hb
      have hp := (h.place hx).2.2.2.2 (by intro e; rw [List.eq_nil_of_length_eq_zero e] at hy; cases hy)
      obtain ⟨i, hi, rfl⟩ := List.getElem_of_mem hy
      obtain ⟨_, g, -⟩ := hp.1 i hi
      rw [hb.1, hc] at g; cases g
  · unfold whL
    rw [List.map_eq_nil_iff, List.filter_eq_nil_iff]
    intro x hx hw
    simp only [isWh, Bool.and_eq_true, beq_iff_eq, Bool.not_eq_true'] at hw
    have h4 := (h.place hx).2.2.2.1 (by have := hw.1; simp only [isSp, decide_eq_false_iff_not] at this; omega)
    rw [hw.2, hc] at h4; cases h4

def loadS (p : PlanD) (c : Nat) : Int := S (fun t => (cntL p.places (c : Nat) (t : Nat) : Int)) 64 + sumW (whL p.places (c : Nat))

theorem RightP.load {p : PlanD} (h : RightP p) {c : Nat} (hc : c < 16) : loadR p c = loadS p c := by
  unfold loadR loadS
  rw [tks_S]
  congr 1
  refine S_congr fun t ht => ?_
  rw [windows_same]
  have h1 := h.2.2.2.2.2.1 c hc t ht
  have h2 := cntL_pos (l := p.places) (c := c) ht
  split
  · rename_i e; rw [← h2] at e; omega
  · rename_i e; rw [← h2] at e; omega

theorem RightP.loadS0 {p : PlanD} (h : RightP p) {c : Nat} (hc : hasC p c = false) : loadS p c = 0 := by
  unfold loadS
  rw [S_congr (g := fun _ => 0) (fun t ht => by rw [(h.cnt hc ht).1]; rfl), S_zero, (h.cnt hc (show 0 < 64 by omega)).2]; rfl

theorem csP_mem {p : PlanD} {c : Nat} : c ∈ csP p 16 ↔ c < 16 ∧ hasC p c = true := by
  unfold csP; rw [List.mem_filter, List.mem_range]

theorem leftP_eq {p : PlanD} {c : Nat} : leftP p c = p.frame - loadR p c := by
  unfold leftP loadR
  rw [pop_tks, windows_same]; omega

theorem RightP.room {p : PlanD} (h : RightP p) {c : Int} : roomP p c = roomR p c := by
  unfold roomP roomR
  split
  · rename_i hc
    obtain ⟨h0, h1⟩ := hasC_range hc
    obtain ⟨n, rfl⟩ := Int.eq_ofNat_of_zero_le h0
    have := h.2.2.2.2.2.2.2 n (csP_mem.2 ⟨by omega, hc⟩)
    rw [leftP_eq]; omega
  · rfl

theorem RightP.free {p : PlanD} (h : RightP p) : freeP p = freeR p := by
  unfold freeP freeR rL
  rw [sumI_cores (f := fun c => roomP p (c : Nat)), sumI_range (f := fun c => roomR p (c : Nat))]
  refine S_congr fun c hc => ?_
  rw [h.room]
  split
  · rfl
  · rename_i e; unfold roomR; rw [if_neg e]

/-- All is counted. -/
theorem RightP.all {p : PlanD} (h : RightP p) : freeP p + sumW (wtsL p.places) = p.frame * ((csP p 16).length : Int) := by
  rw [h.free]
  unfold freeR rL
  rw [sumI_range (f := fun c => roomR p (c : Nat)), cores_S, ← all_cores (l := p.places) fun x hx => h.fine hx, ← S_add]
  have : ∀ f : Nat → Int, ∀ k : Int, ∀ n, k * S f n = S (fun i => k * f i) n := by
    intro f k n
    induction n with
    | zero => simp [S]
    | succ n ih => simp only [S]; rw [Int.mul_add, ih]
  rw [this]
  refine S_congr fun c hc => ?_
  show roomR p c + loadS p c = _
  unfold roomR
  cases e : hasC p c
  · rw [h.loadS0 e]; simp
  · rw [h.load hc]; simp
end Go.Am


/- PlanX1 over the table of stage (relayset.py). -/
set_option linter.unusedVariables false
set_option linter.unusedSimpArgs false
namespace Go.Am
open Classical
variable {m : Mem}

def orW (l : List Pc) : BitVec 64 := l.foldl (fun a y => a ||| y.2) 0#64
theorem orW_succ {l : List Pc} {i : Nat} (h : i < l.length) : orW (l.take (i + 1)) = orW (l.take i) ||| l[i].2 := foldl_take h
def pcIn (p : PlanD) (ps : List Pc) (i : Nat) : Prop := ∃ h : i < ps.length, (ps[i].2 &&& ~~~ allB (fr p.frame).toNat) = 0#64 ∧ (ps[i].2 &&& orW (ps.take i)) = 0#64
def pcsP (p : PlanD) (x : Pl) : Prop := (∀ i, i < x.pieces.length → pcOk p x.pieces i ∧ pcIn p x.pieces i) ∧ 1 < x.pieces.length ∧ x.core = 0 ∧ (pop (orW x.pieces) : Int) = x.share

theorem PcV.prev {m : Mem} {l : List Pc} {v : Value} (h : PcV m l v) {i : Nat} (hi : i < l.length) : ∃ b o, aIdxS 2 v (.int .i64 i) = some (.pointer (some ⟨b, o, none⟩)) ∧ ∀ m', Ext m m' → aLoad false 1 m' (.pointer (some ⟨b, o, none⟩)) = some (.int .i64 l[i].1) := by
  obtain ⟨b, o, a1, a2, a3, a4⟩ := h.elem hi
  refine ⟨b, o, a1, fun m' hm => ?_⟩
  obtain ⟨b', o', c1, c2, c3, c4⟩ := (h.keep hm).elem hi
  rw [a1] at c1; cases c1
  have := c3 0 (by omega)
  simpa [pcV] using this

set_option maxHeartbeats 4000000 in
theorem pieces_spec {p : PlanD} {x : Pl} {v w : Value} (hv : PlanV m p v) (hw : PlV m x w) (hl : x.pieces.length < 1000000) : WC R F.plan_pieces [v, w] m fun r m' => r = .bool (decide (pcsP p x)) ∧ Ext m m' := by
  refine WC.of R.plan_pieces rfl ?_
  obtain ⟨pv, rfl, hp⟩ := hv
  obtain ⟨qv, rfl, hq⟩ := hw
  simp only [RC.plan_pieces, planV, plV, go_sem, Int.reduceBEq, Int.reduceBNe, Int.reduceNeg, reduceCtorEq, Nat.reduceEqDiff, Nat.reduceAdd, Nat.reduceLeDiff, Nat.reduceMul, Nat.reduceSub, Int.reduceToNat, Int.reduceLT, Int.reduceLE, hp.one, hq.one]
  have hx : Ext m (m.new (.cells [.int .i64 p.frame, u32 p.cores, pv] (some 3))) := Ext.new
  have hb : Bk (m.new (.cells [.int .i64 p.frame, u32 p.cores, pv] (some 3))) m.next [.int .i64 p.frame, u32 p.cores, pv] 3 := Bk.new
  generalize m.new (.cells [.int .i64 p.frame, u32 p.cores, pv] (some 3)) = m1 at hx hb ⊢
  have hx2 : Ext m1 (m1.new (.cells [.int .i64 x.unit, .int .i64 x.share, .int .i64 x.core, qv] (some 4))) := Ext.new
  have hb2 : Bk (m1.new (.cells [.int .i64 x.unit, .int .i64 x.share, .int .i64 x.core, qv] (some 4))) m1.next [.int .i64 x.unit, .int .i64 x.share, .int .i64 x.core, qv] 4 := Bk.new
  generalize m1.new (.cells [.int .i64 x.unit, .int .i64 x.share, .int .i64 x.core, qv] (some 4)) = m2 at hx2 hb2 ⊢
  have hb := hb.keep hx2
  have hp := (hp.keep hx).keep hx2
  have hq := (hq.keep hx).keep hx2
  try simp only [go_sem, Int.reduceBEq, Int.reduceBNe, Int.reduceNeg, reduceCtorEq, Nat.reduceEqDiff, Nat.reduceAdd, Nat.reduceLeDiff, Nat.reduceMul, Nat.reduceSub, Int.reduceToNat, Int.reduceLT, Int.reduceLE, load_w, load_a, store_b, idxS_b, set_blk, new_blk, set_next, new_next, len_s, ldW_c, ldA_c, stB_c, toArr_one, size_one, toList_toArr, size_toArr, List.length_cons, List.length_nil, List.getElem?_cons_zero, List.getElem?_cons_succ, Nat.zero_add, Nat.add_zero, hb2.at_, hq.len]
  refine WL.of (fun n e m' => ∃ i : Nat, i ≤ x.pieces.length ∧ n = x.pieces.length - i ∧ e = [(2, pt m.next), (3, pt m1.next), (5, u64 (orW (x.pieces.take i))), (9, qv), (10, .int .i64 x.pieces.length), (11, .int .i64 i)] ∧ (∀ j, j < i → pcOk p x.pieces j ∧ pcIn p x.pieces j) ∧ Ext m2 m') x.pieces.length
    ⟨0, by omega, by omega, by simp only [go_sem, Int.reduceBEq, Int.reduceBNe, Int.reduceNeg, reduceCtorEq, Nat.reduceEqDiff, Nat.reduceAdd, Nat.reduceLeDiff, Nat.reduceMul, Nat.reduceSub, Int.reduceToNat, Int.reduceLT, Int.reduceLE] <;> rfl, fun j hj => by omega, Ext.refl _⟩ ?_
  rintro _ _ m3 ⟨i, hi, rfl, rfl, hall, hx3⟩
  have hq3 := hq.keep hx3
  have hb3 := hb2.keep hx3
  have hc3 := hb.keep hx3
  simp only [RB.plan_pieces_1, pt, go_sem, Int.reduceBEq, Int.reduceBNe, Int.reduceNeg, reduceCtorEq, Nat.reduceEqDiff, Nat.reduceAdd, Nat.reduceLeDiff, Nat.reduceMul, Nat.reduceSub, Int.reduceToNat, Int.reduceLT, Int.reduceLE]
  refine gT.of (fun h4' => ?_) (fun h4' => ?_) <;> (have h4 := h4'; try simp only [decide_eq_true_eq, decide_eq_false_iff_not, beq_iff_eq, bne_iff_ne, beq_eq_false_iff_ne, ne_eq, Bool.not_eq_true', Bool.not_eq_false', bne_eq_false_iff_eq, Int.not_lt, Int.not_le] at h4)
  · have hil : i < x.pieces.length := by omega
    obtain ⟨b, o, a1, a2, a3, a4⟩ := hq3.elem hil
    have bad : ¬ (pcOk p x.pieces i ∧ pcIn p x.pieces i) → ¬ pcsP p x := fun h h2 => h (h2.1 i hil)
    have hdef : pcOk p x.pieces i ↔ (hasC p x.pieces[i].1 = true ∧ (∀ h : 0 < i, (x.pieces[i - 1]'(by omega)).1 < x.pieces[i].1) ∧ x.pieces[i].2 ≠ 0#64) := ⟨fun ⟨_, h⟩ => h, fun h => ⟨hil, h⟩⟩
    have hdef2 : pcIn p x.pieces i ↔ ((x.pieces[i].2 &&& ~~~ allB (fr p.frame).toNat) = 0#64 ∧ (x.pieces[i].2 &&& orW (x.pieces.take i)) = 0#64) := ⟨fun ⟨_, h⟩ => h, fun h => ⟨hil, h⟩⟩
    have hprev : ∀ h : 0 < i, ∃ b' o', aIdxS 2 qv (.int .i64 (i - 1 : Nat)) = some (.pointer (some ⟨b', o', none⟩)) ∧ ∀ m', Ext m3 m' → aLoad false 1 m' (.pointer (some ⟨b', o', none⟩)) = some (.int .i64 (x.pieces[i - 1]'(by omega)).1) := fun h => hq3.prev (by omega)
    have hor := orW_succ hil
    generalize hy : x.pieces[i] = y at *
    simp only [pcV] at a2
    try simp only [go_sem, Int.reduceBEq, Int.reduceBNe, Int.reduceNeg, reduceCtorEq, Nat.reduceEqDiff, Nat.reduceAdd, Nat.reduceLeDiff, Nat.reduceMul, Nat.reduceSub, Int.reduceToNat, Int.reduceLT, Int.reduceLE, load_w, load_a, store_b, idxS_b, set_blk, new_blk, set_next, new_next, len_s, ldW_c, ldA_c, stB_c, toArr_one, size_one, toList_toArr, size_toArr, List.length_cons, List.length_nil, List.getElem?_cons_zero, List.getElem?_cons_succ, Nat.zero_add, Nat.add_zero, hb3.at_, hc3.at_, hb3.ne, hc3.ne, a1, a2]
    have hx4 : Ext m3 (m3.new (.cells [.int .i64 y.1, u64 y.2] (some 2))) := Ext.new
    have hb4 : Bk (m3.new (.cells [.int .i64 y.1, u64 y.2] (some 2))) m3.next [.int .i64 y.1, u64 y.2] 2 := Bk.new
    generalize m3.new (.cells [.int .i64 y.1, u64 y.2] (some 2)) = m4 at hx4 hb4 ⊢
    have hb5 := hb3.keep hx4
    have hc5 := hc3.keep hx4
    try simp only [go_sem, Int.reduceBEq, Int.reduceBNe, Int.reduceNeg, reduceCtorEq, Nat.reduceEqDiff, Nat.reduceAdd, Nat.reduceLeDiff, Nat.reduceMul, Nat.reduceSub, Int.reduceToNat, Int.reduceLT, Int.reduceLE, load_w, load_a, store_b, idxS_b, set_blk, new_blk, set_next, new_next, len_s, ldW_c, ldA_c, stB_c, toArr_one, size_one, toList_toArr, size_toArr, List.length_cons, List.length_nil, List.getElem?_cons_zero, List.getElem?_cons_succ, Nat.zero_add, Nat.add_zero, hb4.at_, hb5.at_, hc5.at_]
    refine gC.of (has_spec (p := p) ⟨pv, rfl, (hp.keep hx3).keep hx4⟩) ?_
    rintro _ m5 ⟨rfl, hx5⟩
    simp only [go_sem, Int.reduceBEq, Int.reduceBNe, Int.reduceNeg, reduceCtorEq, Nat.reduceEqDiff, Nat.reduceAdd, Nat.reduceLeDiff, Nat.reduceMul, Nat.reduceSub, Int.reduceToNat, Int.reduceLT, Int.reduceLE]
    have hb6 := hb5.keep hx5
    have hb7 := hb4.keep hx5
    have hc7 := hc5.keep hx5
    have hxx : Ext m2 m5 := hx3.trans (hx4.trans hx5)
    have hX : Ext m m5 := hx.trans (hx2.trans hxx)
    have fin2 : pcOk p x.pieces i → pcIn p x.pieces i → ∀ j, j < i + 1 → pcOk p x.pieces j ∧ pcIn p x.pieces j := by
      intro q1 q2 j hj
      by_cases e : j = i
      · subst e; exact ⟨q1, q2⟩
      · exact hall j (by omega)
    have s1 := step1 (show i < 1000000 by omega)
    have key : pcOk p x.pieces i → gT (decide (y.2 &&& ~~~ allB (fr p.frame).toNat ≠ 0#64)) False False → True := fun _ _ => trivial
    try simp only [go_sem, Int.reduceBEq, Int.reduceBNe, Int.reduceNeg, reduceCtorEq, Nat.reduceEqDiff, Nat.reduceAdd, Nat.reduceLeDiff, Nat.reduceMul, Nat.reduceSub, Int.reduceToNat, Int.reduceLT, Int.reduceLE, load_w, load_a, store_b, idxS_b, set_blk, new_blk, set_next, new_next, len_s, ldW_c, ldA_c, stB_c, toArr_one, size_one, toList_toArr, size_toArr, List.length_cons, List.length_nil, List.getElem?_cons_zero, List.getElem?_cons_succ, Nat.zero_add, Nat.add_zero, hb6.at_, hb7.at_, hb4.at_, hb5.at_]
    refine gT.of (fun h5' => ?_) (fun h5' => ?_) <;> (have h5 := h5'; try simp only [decide_eq_true_eq, decide_eq_false_iff_not, beq_iff_eq, bne_iff_ne, beq_eq_false_iff_ne, ne_eq, Bool.not_eq_true', Bool.not_eq_false', bne_eq_false_iff_eq, Int.not_lt, Int.not_le] at h5)
    · try simp only [go_sem, Int.reduceBEq, Int.reduceBNe, Int.reduceNeg, reduceCtorEq, Nat.reduceEqDiff, Nat.reduceAdd, Nat.reduceLeDiff, Nat.reduceMul, Nat.reduceSub, Int.reduceToNat, Int.reduceLT, Int.reduceLE, load_w, load_a, store_b, idxS_b, set_blk, new_blk, set_next, new_next, len_s, ldW_c, ldA_c, stB_c, toArr_one, size_one, toList_toArr, size_toArr, List.length_cons, List.length_nil, List.getElem?_cons_zero, List.getElem?_cons_succ, Nat.zero_add, Nat.add_zero, h5', hb6.at_, hb7.at_]
      exact ⟨fin_no (bad fun h => by rw [hdef] at h; simp [h.1.1] at h5), hX⟩
    · have g5 : hasC p y.1 = true := by simpa using h5'
      try simp only [go_sem, Int.reduceBEq, Int.reduceBNe, Int.reduceNeg, reduceCtorEq, Nat.reduceEqDiff, Nat.reduceAdd, Nat.reduceLeDiff, Nat.reduceMul, Nat.reduceSub, Int.reduceToNat, Int.reduceLT, Int.reduceLE, load_w, load_a, store_b, idxS_b, set_blk, new_blk, set_next, new_next, len_s, ldW_c, ldA_c, stB_c, toArr_one, size_one, toList_toArr, size_toArr, List.length_cons, List.length_nil, List.getElem?_cons_zero, List.getElem?_cons_succ, Nat.zero_add, Nat.add_zero, h5', g5, hb6.at_, hb7.at_]
      refine gT.of (fun h6' => ?_) (fun h6' => ?_) <;> (have h6 := h6'; try simp only [decide_eq_true_eq, decide_eq_false_iff_not, beq_iff_eq, bne_iff_ne, beq_eq_false_iff_ne, ne_eq, Bool.not_eq_true', Bool.not_eq_false', bne_eq_false_iff_eq, Int.not_lt, Int.not_le] at h6)
      · obtain ⟨b', o', c1, c2⟩ := hprev (by omega)
        have c3 := c2 m5 (hx4.trans hx5)
        try simp only [go_sem, Int.reduceBEq, Int.reduceBNe, Int.reduceNeg, reduceCtorEq, Nat.reduceEqDiff, Nat.reduceAdd, Nat.reduceLeDiff, Nat.reduceMul, Nat.reduceSub, Int.reduceToNat, Int.reduceLT, Int.reduceLE, load_w, load_a, store_b, idxS_b, set_blk, new_blk, set_next, new_next, len_s, ldW_c, ldA_c, stB_c, toArr_one, size_one, toList_toArr, size_toArr, List.length_cons, List.length_nil, List.getElem?_cons_zero, List.getElem?_cons_succ, Nat.zero_add, Nat.add_zero, h6', hb6.at_, hb7.at_, sub1 (show 0 < i by omega) (show i < 1000000 by omega), c1, c3]
        refine gT.of (fun h7' => ?_) (fun h7' => ?_) <;> (have h7 := h7'; try simp only [decide_eq_true_eq, decide_eq_false_iff_not, beq_iff_eq, bne_iff_ne, beq_eq_false_iff_ne, ne_eq, Bool.not_eq_true', Bool.not_eq_false', bne_eq_false_iff_eq, Int.not_lt, Int.not_le] at h7)
        · try simp only [go_sem, Int.reduceBEq, Int.reduceBNe, Int.reduceNeg, reduceCtorEq, Nat.reduceEqDiff, Nat.reduceAdd, Nat.reduceLeDiff, Nat.reduceMul, Nat.reduceSub, Int.reduceToNat, Int.reduceLT, Int.reduceLE, load_w, load_a, store_b, idxS_b, set_blk, new_blk, set_next, new_next, len_s, ldW_c, ldA_c, stB_c, toArr_one, size_one, toList_toArr, size_toArr, List.length_cons, List.length_nil, List.getElem?_cons_zero, List.getElem?_cons_succ, Nat.zero_add, Nat.add_zero, h7']
          exact ⟨fin_no (bad fun h => by rw [hdef] at h; have := h.1.2.1 (by omega); omega), hX⟩
        · try simp only [go_sem, Int.reduceBEq, Int.reduceBNe, Int.reduceNeg, reduceCtorEq, Nat.reduceEqDiff, Nat.reduceAdd, Nat.reduceLeDiff, Nat.reduceMul, Nat.reduceSub, Int.reduceToNat, Int.reduceLT, Int.reduceLE, load_w, load_a, store_b, idxS_b, set_blk, new_blk, set_next, new_next, len_s, ldW_c, ldA_c, stB_c, toArr_one, size_one, toList_toArr, size_toArr, List.length_cons, List.length_nil, List.getElem?_cons_zero, List.getElem?_cons_succ, Nat.zero_add, Nat.add_zero, h7', hb7.at_]
          refine gT.of (fun h8' => ?_) (fun h8' => ?_) <;> (have h8 := h8'; try simp only [decide_eq_true_eq, decide_eq_false_iff_not, beq_iff_eq, bne_iff_ne, beq_eq_false_iff_ne, ne_eq, Bool.not_eq_true', Bool.not_eq_false', bne_eq_false_iff_eq, Int.not_lt, Int.not_le] at h8)
          · try simp only [go_sem, Int.reduceBEq, Int.reduceBNe, Int.reduceNeg, reduceCtorEq, Nat.reduceEqDiff, Nat.reduceAdd, Nat.reduceLeDiff, Nat.reduceMul, Nat.reduceSub, Int.reduceToNat, Int.reduceLT, Int.reduceLE, load_w, load_a, store_b, idxS_b, set_blk, new_blk, set_next, new_next, len_s, ldW_c, ldA_c, stB_c, toArr_one, size_one, toList_toArr, size_toArr, List.length_cons, List.length_nil, List.getElem?_cons_zero, List.getElem?_cons_succ, Nat.zero_add, Nat.add_zero, h8']
            exact ⟨fin_no (bad fun h => by rw [hdef] at h; exact h.1.2.2 h8), hX⟩
          · have gok : pcOk p x.pieces i := hdef.2 ⟨g5, fun h => by omega, h8⟩
            try simp only [go_sem, Int.reduceBEq, Int.reduceBNe, Int.reduceNeg, reduceCtorEq, Nat.reduceEqDiff, Nat.reduceAdd, Nat.reduceLeDiff, Nat.reduceMul, Nat.reduceSub, Int.reduceToNat, Int.reduceLT, Int.reduceLE, load_w, load_a, store_b, idxS_b, set_blk, new_blk, set_next, new_next, len_s, ldW_c, ldA_c, stB_c, toArr_one, size_one, toList_toArr, size_toArr, List.length_cons, List.length_nil, List.getElem?_cons_zero, List.getElem?_cons_succ, Nat.zero_add, Nat.add_zero, h8', hb7.at_, hc7.at_]
            refine gC.of mask_All_spec ?_
            rintro _ m_ ⟨rfl, hm_⟩
            replace hm_ := hm_.symm
            subst hm_
            simp only [go_sem, Int.reduceBEq, Int.reduceBNe, Int.reduceNeg, reduceCtorEq, Nat.reduceEqDiff, Nat.reduceAdd, Nat.reduceLeDiff, Nat.reduceMul, Nat.reduceSub, Int.reduceToNat, Int.reduceLT, Int.reduceLE]
            try simp only [go_sem, Int.reduceBEq, Int.reduceBNe, Int.reduceNeg, reduceCtorEq, Nat.reduceEqDiff, Nat.reduceAdd, Nat.reduceLeDiff, Nat.reduceMul, Nat.reduceSub, Int.reduceToNat, Int.reduceLT, Int.reduceLE, load_w, load_a, store_b, idxS_b, set_blk, new_blk, set_next, new_next, len_s, ldW_c, ldA_c, stB_c, toArr_one, size_one, toList_toArr, size_toArr, List.length_cons, List.length_nil, List.getElem?_cons_zero, List.getElem?_cons_succ, Nat.zero_add, Nat.add_zero, hb7.at_, hc7.at_]
            refine gT.of (fun h9' => ?_) (fun h9' => ?_) <;> (have h9 := h9'; try simp only [decide_eq_true_eq, decide_eq_false_iff_not, beq_iff_eq, bne_iff_ne, beq_eq_false_iff_ne, ne_eq, Bool.not_eq_true', Bool.not_eq_false', bne_eq_false_iff_eq, Int.not_lt, Int.not_le] at h9)
            · try simp only [go_sem, Int.reduceBEq, Int.reduceBNe, Int.reduceNeg, reduceCtorEq, Nat.reduceEqDiff, Nat.reduceAdd, Nat.reduceLeDiff, Nat.reduceMul, Nat.reduceSub, Int.reduceToNat, Int.reduceLT, Int.reduceLE, load_w, load_a, store_b, idxS_b, set_blk, new_blk, set_next, new_next, len_s, ldW_c, ldA_c, stB_c, toArr_one, size_one, toList_toArr, size_toArr, List.length_cons, List.length_nil, List.getElem?_cons_zero, List.getElem?_cons_succ, Nat.zero_add, Nat.add_zero, h9']
              exact ⟨fin_no (bad fun h => by rw [hdef2] at h; exact h9 h.2.1), hX⟩
            · try simp only [go_sem, Int.reduceBEq, Int.reduceBNe, Int.reduceNeg, reduceCtorEq, Nat.reduceEqDiff, Nat.reduceAdd, Nat.reduceLeDiff, Nat.reduceMul, Nat.reduceSub, Int.reduceToNat, Int.reduceLT, Int.reduceLE, load_w, load_a, store_b, idxS_b, set_blk, new_blk, set_next, new_next, len_s, ldW_c, ldA_c, stB_c, toArr_one, size_one, toList_toArr, size_toArr, List.length_cons, List.length_nil, List.getElem?_cons_zero, List.getElem?_cons_succ, Nat.zero_add, Nat.add_zero, h9', hb7.at_]
              refine gT.of (fun h10' => ?_) (fun h10' => ?_) <;> (have h10 := h10'; try simp only [decide_eq_true_eq, decide_eq_false_iff_not, beq_iff_eq, bne_iff_ne, beq_eq_false_iff_ne, ne_eq, Bool.not_eq_true', Bool.not_eq_false', bne_eq_false_iff_eq, Int.not_lt, Int.not_le] at h10)
              · try simp only [go_sem, Int.reduceBEq, Int.reduceBNe, Int.reduceNeg, reduceCtorEq, Nat.reduceEqDiff, Nat.reduceAdd, Nat.reduceLeDiff, Nat.reduceMul, Nat.reduceSub, Int.reduceToNat, Int.reduceLT, Int.reduceLE, load_w, load_a, store_b, idxS_b, set_blk, new_blk, set_next, new_next, len_s, ldW_c, ldA_c, stB_c, toArr_one, size_one, toList_toArr, size_toArr, List.length_cons, List.length_nil, List.getElem?_cons_zero, List.getElem?_cons_succ, Nat.zero_add, Nat.add_zero, h10']
                exact ⟨fin_no (bad fun h => by rw [hdef2] at h; exact h10 h.2.2), hX⟩
              · try simp only [go_sem, Int.reduceBEq, Int.reduceBNe, Int.reduceNeg, reduceCtorEq, Nat.reduceEqDiff, Nat.reduceAdd, Nat.reduceLeDiff, Nat.reduceMul, Nat.reduceSub, Int.reduceToNat, Int.reduceLT, Int.reduceLE, load_w, load_a, store_b, idxS_b, set_blk, new_blk, set_next, new_next, len_s, ldW_c, ldA_c, stB_c, toArr_one, size_one, toList_toArr, size_toArr, List.length_cons, List.length_nil, List.getElem?_cons_zero, List.getElem?_cons_succ, Nat.zero_add, Nat.add_zero, h10', hb7.at_, s1]
                refine ⟨x.pieces.length - (i + 1), by omega, i + 1, by omega, rfl, by rw [hor], fin2 gok (hdef2.2 ⟨Decidable.not_not.1 h9, Decidable.not_not.1 h10⟩), hxx⟩
      · try simp only [go_sem, Int.reduceBEq, Int.reduceBNe, Int.reduceNeg, reduceCtorEq, Nat.reduceEqDiff, Nat.reduceAdd, Nat.reduceLeDiff, Nat.reduceMul, Nat.reduceSub, Int.reduceToNat, Int.reduceLT, Int.reduceLE, load_w, load_a, store_b, idxS_b, set_blk, new_blk, set_next, new_next, len_s, ldW_c, ldA_c, stB_c, toArr_one, size_one, toList_toArr, size_toArr, List.length_cons, List.length_nil, List.getElem?_cons_zero, List.getElem?_cons_succ, Nat.zero_add, Nat.add_zero, h6', hb7.at_]
        refine gT.of (fun h8' => ?_) (fun h8' => ?_) <;> (have h8 := h8'; try simp only [decide_eq_true_eq, decide_eq_false_iff_not, beq_iff_eq, bne_iff_ne, beq_eq_false_iff_ne, ne_eq, Bool.not_eq_true', Bool.not_eq_false', bne_eq_false_iff_eq, Int.not_lt, Int.not_le] at h8)
        · try simp only [go_sem, Int.reduceBEq, Int.reduceBNe, Int.reduceNeg, reduceCtorEq, Nat.reduceEqDiff, Nat.reduceAdd, Nat.reduceLeDiff, Nat.reduceMul, Nat.reduceSub, Int.reduceToNat, Int.reduceLT, Int.reduceLE, load_w, load_a, store_b, idxS_b, set_blk, new_blk, set_next, new_next, len_s, ldW_c, ldA_c, stB_c, toArr_one, size_one, toList_toArr, size_toArr, List.length_cons, List.length_nil, List.getElem?_cons_zero, List.getElem?_cons_succ, Nat.zero_add, Nat.add_zero, h8']
          exact ⟨fin_no (bad fun h => by rw [hdef] at h; exact h.1.2.2 h8), hX⟩
        · have gok : pcOk p x.pieces i := hdef.2 ⟨g5, fun h => by omega, h8⟩
          try simp only [go_sem, Int.reduceBEq, Int.reduceBNe, Int.reduceNeg, reduceCtorEq, Nat.reduceEqDiff, Nat.reduceAdd, Nat.reduceLeDiff, Nat.reduceMul, Nat.reduceSub, Int.reduceToNat, Int.reduceLT, Int.reduceLE, load_w, load_a, store_b, idxS_b, set_blk, new_blk, set_next, new_next, len_s, ldW_c, ldA_c, stB_c, toArr_one, size_one, toList_toArr, size_toArr, List.length_cons, List.length_nil, List.getElem?_cons_zero, List.getElem?_cons_succ, Nat.zero_add, Nat.add_zero, h8', hb7.at_, hc7.at_]
          refine gC.of mask_All_spec ?_
          rintro _ m_ ⟨rfl, hm_⟩
          replace hm_ := hm_.symm
          subst hm_
          simp only [go_sem, Int.reduceBEq, Int.reduceBNe, Int.reduceNeg, reduceCtorEq, Nat.reduceEqDiff, Nat.reduceAdd, Nat.reduceLeDiff, Nat.reduceMul, Nat.reduceSub, Int.reduceToNat, Int.reduceLT, Int.reduceLE]
          try simp only [go_sem, Int.reduceBEq, Int.reduceBNe, Int.reduceNeg, reduceCtorEq, Nat.reduceEqDiff, Nat.reduceAdd, Nat.reduceLeDiff, Nat.reduceMul, Nat.reduceSub, Int.reduceToNat, Int.reduceLT, Int.reduceLE, load_w, load_a, store_b, idxS_b, set_blk, new_blk, set_next, new_next, len_s, ldW_c, ldA_c, stB_c, toArr_one, size_one, toList_toArr, size_toArr, List.length_cons, List.length_nil, List.getElem?_cons_zero, List.getElem?_cons_succ, Nat.zero_add, Nat.add_zero, hb7.at_, hc7.at_]
          refine gT.of (fun h9' => ?_) (fun h9' => ?_) <;> (have h9 := h9'; try simp only [decide_eq_true_eq, decide_eq_false_iff_not, beq_iff_eq, bne_iff_ne, beq_eq_false_iff_ne, ne_eq, Bool.not_eq_true', Bool.not_eq_false', bne_eq_false_iff_eq, Int.not_lt, Int.not_le] at h9)
          · try simp only [go_sem, Int.reduceBEq, Int.reduceBNe, Int.reduceNeg, reduceCtorEq, Nat.reduceEqDiff, Nat.reduceAdd, Nat.reduceLeDiff, Nat.reduceMul, Nat.reduceSub, Int.reduceToNat, Int.reduceLT, Int.reduceLE, load_w, load_a, store_b, idxS_b, set_blk, new_blk, set_next, new_next, len_s, ldW_c, ldA_c, stB_c, toArr_one, size_one, toList_toArr, size_toArr, List.length_cons, List.length_nil, List.getElem?_cons_zero, List.getElem?_cons_succ, Nat.zero_add, Nat.add_zero, h9']
            exact ⟨fin_no (bad fun h => by rw [hdef2] at h; exact h9 h.2.1), hX⟩
          · try simp only [go_sem, Int.reduceBEq, Int.reduceBNe, Int.reduceNeg, reduceCtorEq, Nat.reduceEqDiff, Nat.reduceAdd, Nat.reduceLeDiff, Nat.reduceMul, Nat.reduceSub, Int.reduceToNat, Int.reduceLT, Int.reduceLE, load_w, load_a, store_b, idxS_b, set_blk, new_blk, set_next, new_next, len_s, ldW_c, ldA_c, stB_c, toArr_one, size_one, toList_toArr, size_toArr, List.length_cons, List.length_nil, List.getElem?_cons_zero, List.getElem?_cons_succ, Nat.zero_add, Nat.add_zero, h9', hb7.at_]
            refine gT.of (fun h10' => ?_) (fun h10' => ?_) <;> (have h10 := h10'; try simp only [decide_eq_true_eq, decide_eq_false_iff_not, beq_iff_eq, bne_iff_ne, beq_eq_false_iff_ne, ne_eq, Bool.not_eq_true', Bool.not_eq_false', bne_eq_false_iff_eq, Int.not_lt, Int.not_le] at h10)
            · try simp only [go_sem, Int.reduceBEq, Int.reduceBNe, Int.reduceNeg, reduceCtorEq, Nat.reduceEqDiff, Nat.reduceAdd, Nat.reduceLeDiff, Nat.reduceMul, Nat.reduceSub, Int.reduceToNat, Int.reduceLT, Int.reduceLE, load_w, load_a, store_b, idxS_b, set_blk, new_blk, set_next, new_next, len_s, ldW_c, ldA_c, stB_c, toArr_one, size_one, toList_toArr, size_toArr, List.length_cons, List.length_nil, List.getElem?_cons_zero, List.getElem?_cons_succ, Nat.zero_add, Nat.add_zero, h10']
              exact ⟨fin_no (bad fun h => by rw [hdef2] at h; exact h10 h.2.2), hX⟩
            · try simp only [go_sem, Int.reduceBEq, Int.reduceBNe, Int.reduceNeg, reduceCtorEq, Nat.reduceEqDiff, Nat.reduceAdd, Nat.reduceLeDiff, Nat.reduceMul, Nat.reduceSub, Int.reduceToNat, Int.reduceLT, Int.reduceLE, load_w, load_a, store_b, idxS_b, set_blk, new_blk, set_next, new_next, len_s, ldW_c, ldA_c, stB_c, toArr_one, size_one, toList_toArr, size_toArr, List.length_cons, List.length_nil, List.getElem?_cons_zero, List.getElem?_cons_succ, Nat.zero_add, Nat.add_zero, h10', hb7.at_, s1]
              refine ⟨x.pieces.length - (i + 1), by omega, i + 1, by omega, rfl, by rw [hor], fin2 gok (hdef2.2 ⟨Decidable.not_not.1 h9, Decidable.not_not.1 h10⟩), hxx⟩
  · have hil : i = x.pieces.length := by omega
    have pcs : ∀ j, j < x.pieces.length → pcOk p x.pieces j ∧ pcIn p x.pieces j := fun j hj => hall j (by omega)
    have hX : Ext m m3 := hx.trans (hx2.trans hx3)
    rw [List.take_of_length_le (show x.pieces.length ≤ i by omega)]
    try simp only [go_sem, Int.reduceBEq, Int.reduceBNe, Int.reduceNeg, reduceCtorEq, Nat.reduceEqDiff, Nat.reduceAdd, Nat.reduceLeDiff, Nat.reduceMul, Nat.reduceSub, Int.reduceToNat, Int.reduceLT, Int.reduceLE, load_w, load_a, store_b, idxS_b, set_blk, new_blk, set_next, new_next, len_s, ldW_c, ldA_c, stB_c, toArr_one, size_one, toList_toArr, size_toArr, List.length_cons, List.length_nil, List.getElem?_cons_zero, List.getElem?_cons_succ, Nat.zero_add, Nat.add_zero, h4', hb3.at_, hq3.len]
    refine gT.of (fun h6' => ?_) (fun h6' => ?_) <;> (have h6 := h6'; try simp only [decide_eq_true_eq, decide_eq_false_iff_not, beq_iff_eq, bne_iff_ne, beq_eq_false_iff_ne, ne_eq, Bool.not_eq_true', Bool.not_eq_false', bne_eq_false_iff_eq, Int.not_lt, Int.not_le] at h6)
    · try simp only [go_sem, Int.reduceBEq, Int.reduceBNe, Int.reduceNeg, reduceCtorEq, Nat.reduceEqDiff, Nat.reduceAdd, Nat.reduceLeDiff, Nat.reduceMul, Nat.reduceSub, Int.reduceToNat, Int.reduceLT, Int.reduceLE, load_w, load_a, store_b, idxS_b, set_blk, new_blk, set_next, new_next, len_s, ldW_c, ldA_c, stB_c, toArr_one, size_one, toList_toArr, size_toArr, List.length_cons, List.length_nil, List.getElem?_cons_zero, List.getElem?_cons_succ, Nat.zero_add, Nat.add_zero, h6', hb3.at_]
      refine gT.of (fun h7' => ?_) (fun h7' => ?_) <;> (have h7 := h7'; try simp only [decide_eq_true_eq, decide_eq_false_iff_not, beq_iff_eq, bne_iff_ne, beq_eq_false_iff_ne, ne_eq, Bool.not_eq_true', Bool.not_eq_false', bne_eq_false_iff_eq, Int.not_lt, Int.not_le] at h7)
      · try simp only [go_sem, Int.reduceBEq, Int.reduceBNe, Int.reduceNeg, reduceCtorEq, Nat.reduceEqDiff, Nat.reduceAdd, Nat.reduceLeDiff, Nat.reduceMul, Nat.reduceSub, Int.reduceToNat, Int.reduceLT, Int.reduceLE, load_w, load_a, store_b, idxS_b, set_blk, new_blk, set_next, new_next, len_s, ldW_c, ldA_c, stB_c, toArr_one, size_one, toList_toArr, size_toArr, List.length_cons, List.length_nil, List.getElem?_cons_zero, List.getElem?_cons_succ, Nat.zero_add, Nat.add_zero, h7', hb3.at_]
        refine gC.of mask_Count_spec ?_
        rintro _ m_ ⟨rfl, hm_⟩
        replace hm_ := hm_.symm
        subst hm_
        simp only [go_sem, Int.reduceBEq, Int.reduceBNe, Int.reduceNeg, reduceCtorEq, Nat.reduceEqDiff, Nat.reduceAdd, Nat.reduceLeDiff, Nat.reduceMul, Nat.reduceSub, Int.reduceToNat, Int.reduceLT, Int.reduceLE]
        try simp only [go_sem, Int.reduceBEq, Int.reduceBNe, Int.reduceNeg, reduceCtorEq, Nat.reduceEqDiff, Nat.reduceAdd, Nat.reduceLeDiff, Nat.reduceMul, Nat.reduceSub, Int.reduceToNat, Int.reduceLT, Int.reduceLE, load_w, load_a, store_b, idxS_b, set_blk, new_blk, set_next, new_next, len_s, ldW_c, ldA_c, stB_c, toArr_one, size_one, toList_toArr, size_toArr, List.length_cons, List.length_nil, List.getElem?_cons_zero, List.getElem?_cons_succ, Nat.zero_add, Nat.add_zero, hb3.at_]
        refine ⟨fin_iff ?_, hX⟩
        rw [beq_iff_eq]
        exact ⟨fun h => ⟨pcs, by omega, by omega, h⟩, fun h => h.2.2.2⟩
      · try simp only [go_sem, Int.reduceBEq, Int.reduceBNe, Int.reduceNeg, reduceCtorEq, Nat.reduceEqDiff, Nat.reduceAdd, Nat.reduceLeDiff, Nat.reduceMul, Nat.reduceSub, Int.reduceToNat, Int.reduceLT, Int.reduceLE, load_w, load_a, store_b, idxS_b, set_blk, new_blk, set_next, new_next, len_s, ldW_c, ldA_c, stB_c, toArr_one, size_one, toList_toArr, size_toArr, List.length_cons, List.length_nil, List.getElem?_cons_zero, List.getElem?_cons_succ, Nat.zero_add, Nat.add_zero, h7']
        exact ⟨fin_no fun h => by have := h.2.2.1; omega, hX⟩
    · try simp only [go_sem, Int.reduceBEq, Int.reduceBNe, Int.reduceNeg, reduceCtorEq, Nat.reduceEqDiff, Nat.reduceAdd, Nat.reduceLeDiff, Nat.reduceMul, Nat.reduceSub, Int.reduceToNat, Int.reduceLT, Int.reduceLE, load_w, load_a, store_b, idxS_b, set_blk, new_blk, set_next, new_next, len_s, ldW_c, ldA_c, stB_c, toArr_one, size_one, toList_toArr, size_toArr, List.length_cons, List.length_nil, List.getElem?_cons_zero, List.getElem?_cons_succ, Nat.zero_add, Nat.add_zero, h6']
      exact ⟨fin_no fun h => by have := h.2.1; omega, hX⟩
end Go.Am


/- PlanX2 over the table of stage (relayset.py). -/
set_option linter.unusedVariables false
set_option linter.unusedSimpArgs false
namespace Go.Am
open Classical
variable {m : Mem}

def placeP (p : PlanD) (x : Pl) : Prop := isU x.unit ∧ 1 ≤ x.share ∧ x.share ≤ p.frame ∧ (x.pieces.length = 0 → hasC p x.core = true) ∧ (x.pieces.length ≠ 0 → pcsP p x)

theorem place_spec {p : PlanD} {x : Pl} {v w : Value} (hv : PlanV m p v) (hw : PlV m x w) (hl : x.pieces.length < 1000000) : WC R F.plan_place [v, w] m fun r m' => r = .bool (decide (placeP p x)) ∧ Ext m m' := by
  refine WC.of R.plan_place rfl ?_
  obtain ⟨pv, rfl, hp⟩ := hv
  obtain ⟨qv, rfl, hq⟩ := hw
  simp only [RC.plan_place, planV, plV, go_sem, Int.reduceBEq, Int.reduceBNe, Int.reduceNeg, reduceCtorEq, Nat.reduceEqDiff, Nat.reduceAdd, Nat.reduceLeDiff, Nat.reduceMul, Nat.reduceSub, Int.reduceToNat, Int.reduceLT, Int.reduceLE, hp.one, hq.one]
  have hx : Ext m (m.new (.cells [.int .i64 p.frame, u32 p.cores, pv] (some 3))) := Ext.new
  have hb : Bk (m.new (.cells [.int .i64 p.frame, u32 p.cores, pv] (some 3))) m.next [.int .i64 p.frame, u32 p.cores, pv] 3 := Bk.new
  generalize m.new (.cells [.int .i64 p.frame, u32 p.cores, pv] (some 3)) = m1 at hx hb ⊢
  have hx2 : Ext m1 (m1.new (.cells [.int .i64 x.unit, .int .i64 x.share, .int .i64 x.core, qv] (some 4))) := Ext.new
  have hb2 : Bk (m1.new (.cells [.int .i64 x.unit, .int .i64 x.share, .int .i64 x.core, qv] (some 4))) m1.next [.int .i64 x.unit, .int .i64 x.share, .int .i64 x.core, qv] 4 := Bk.new
  generalize m1.new (.cells [.int .i64 x.unit, .int .i64 x.share, .int .i64 x.core, qv] (some 4)) = m2 at hx2 hb2 ⊢
  have hb := hb.keep hx2
  have hp := (hp.keep hx).keep hx2
  have hq := (hq.keep hx).keep hx2
  have hX := hx.trans hx2
  try simp only [go_sem, Int.reduceBEq, Int.reduceBNe, Int.reduceNeg, reduceCtorEq, Nat.reduceEqDiff, Nat.reduceAdd, Nat.reduceLeDiff, Nat.reduceMul, Nat.reduceSub, Int.reduceToNat, Int.reduceLT, Int.reduceLE, load_w, load_a, store_b, idxS_b, set_blk, new_blk, set_next, new_next, len_s, ldW_c, ldA_c, stB_c, toArr_one, size_one, toList_toArr, size_toArr, List.length_cons, List.length_nil, List.getElem?_cons_zero, List.getElem?_cons_succ, Nat.zero_add, Nat.add_zero, hb2.at_]
  refine gC.of Kind_spec ?_
  rintro _ m_ ⟨hu, hm_⟩
  replace hm_ := hm_.symm
  subst hm_
  rcases hu with ⟨hu, rfl⟩ | ⟨hu, rfl⟩
  · try simp only [go_sem, Int.reduceBEq, Int.reduceBNe, Int.reduceNeg, reduceCtorEq, Nat.reduceEqDiff, Nat.reduceAdd, Nat.reduceLeDiff, Nat.reduceMul, Nat.reduceSub, Int.reduceToNat, Int.reduceLT, Int.reduceLE, load_w, load_a, store_b, idxS_b, set_blk, new_blk, set_next, new_next, len_s, ldW_c, ldA_c, stB_c, toArr_one, size_one, toList_toArr, size_toArr, List.length_cons, List.length_nil, List.getElem?_cons_zero, List.getElem?_cons_succ, Nat.zero_add, Nat.add_zero, hb2.at_, aExt0, aExt1, aExt2]
    refine gT.of (fun h1' => ?_) (fun h1' => ?_) <;> (have h1 := h1'; try simp only [decide_eq_true_eq, decide_eq_false_iff_not, beq_iff_eq, bne_iff_ne, beq_eq_false_iff_ne, ne_eq, Bool.not_eq_true', Bool.not_eq_false', bne_eq_false_iff_eq, Int.not_lt, Int.not_le] at h1)
    · try simp only [go_sem, Int.reduceBEq, Int.reduceBNe, Int.reduceNeg, reduceCtorEq, Nat.reduceEqDiff, Nat.reduceAdd, Nat.reduceLeDiff, Nat.reduceMul, Nat.reduceSub, Int.reduceToNat, Int.reduceLT, Int.reduceLE, load_w, load_a, store_b, idxS_b, set_blk, new_blk, set_next, new_next, len_s, ldW_c, ldA_c, stB_c, toArr_one, size_one, toList_toArr, size_toArr, List.length_cons, List.length_nil, List.getElem?_cons_zero, List.getElem?_cons_succ, Nat.zero_add, Nat.add_zero, hb2.at_, h1']
      exact ⟨fin_no fun h => by have := h.2.1; omega, hX⟩
    · try simp only [go_sem, Int.reduceBEq, Int.reduceBNe, Int.reduceNeg, reduceCtorEq, Nat.reduceEqDiff, Nat.reduceAdd, Nat.reduceLeDiff, Nat.reduceMul, Nat.reduceSub, Int.reduceToNat, Int.reduceLT, Int.reduceLE, load_w, load_a, store_b, idxS_b, set_blk, new_blk, set_next, new_next, len_s, ldW_c, ldA_c, stB_c, toArr_one, size_one, toList_toArr, size_toArr, List.length_cons, List.length_nil, List.getElem?_cons_zero, List.getElem?_cons_succ, Nat.zero_add, Nat.add_zero, hb2.at_, hb.at_, h1']
      refine gT.of (fun h2' => ?_) (fun h2' => ?_) <;> (have h2 := h2'; try simp only [decide_eq_true_eq, decide_eq_false_iff_not, beq_iff_eq, bne_iff_ne, beq_eq_false_iff_ne, ne_eq, Bool.not_eq_true', Bool.not_eq_false', bne_eq_false_iff_eq, Int.not_lt, Int.not_le] at h2)
      · try simp only [go_sem, Int.reduceBEq, Int.reduceBNe, Int.reduceNeg, reduceCtorEq, Nat.reduceEqDiff, Nat.reduceAdd, Nat.reduceLeDiff, Nat.reduceMul, Nat.reduceSub, Int.reduceToNat, Int.reduceLT, Int.reduceLE, load_w, load_a, store_b, idxS_b, set_blk, new_blk, set_next, new_next, len_s, ldW_c, ldA_c, stB_c, toArr_one, size_one, toList_toArr, size_toArr, List.length_cons, List.length_nil, List.getElem?_cons_zero, List.getElem?_cons_succ, Nat.zero_add, Nat.add_zero, h2']
        exact ⟨fin_no fun h => by have := h.2.2.1; omega, hX⟩
      · try simp only [go_sem, Int.reduceBEq, Int.reduceBNe, Int.reduceNeg, reduceCtorEq, Nat.reduceEqDiff, Nat.reduceAdd, Nat.reduceLeDiff, Nat.reduceMul, Nat.reduceSub, Int.reduceToNat, Int.reduceLT, Int.reduceLE, load_w, load_a, store_b, idxS_b, set_blk, new_blk, set_next, new_next, len_s, ldW_c, ldA_c, stB_c, toArr_one, size_one, toList_toArr, size_toArr, List.length_cons, List.length_nil, List.getElem?_cons_zero, List.getElem?_cons_succ, Nat.zero_add, Nat.add_zero, h2', hb2.at_]
        refine gC.of (split_spec (x := x) ⟨qv, rfl, hq⟩) ?_
        rintro _ m3 ⟨rfl, hx3⟩
        simp only [go_sem, Int.reduceBEq, Int.reduceBNe, Int.reduceNeg, reduceCtorEq, Nat.reduceEqDiff, Nat.reduceAdd, Nat.reduceLeDiff, Nat.reduceMul, Nat.reduceSub, Int.reduceToNat, Int.reduceLT, Int.reduceLE]
        have hb2 := hb2.keep hx3
        have hb := hb.keep hx3
        have hp := hp.keep hx3
        have hq := hq.keep hx3
        refine gT.of (fun h3' => ?_) (fun h3' => ?_) <;> (have h3 := h3'; try simp only [decide_eq_true_eq, decide_eq_false_iff_not, beq_iff_eq, bne_iff_ne, beq_eq_false_iff_ne, ne_eq, Bool.not_eq_true', Bool.not_eq_false', bne_eq_false_iff_eq, Int.not_lt, Int.not_le] at h3)
        · try simp only [go_sem, Int.reduceBEq, Int.reduceBNe, Int.reduceNeg, reduceCtorEq, Nat.reduceEqDiff, Nat.reduceAdd, Nat.reduceLeDiff, Nat.reduceMul, Nat.reduceSub, Int.reduceToNat, Int.reduceLT, Int.reduceLE, load_w, load_a, store_b, idxS_b, set_blk, new_blk, set_next, new_next, len_s, ldW_c, ldA_c, stB_c, toArr_one, size_one, toList_toArr, size_toArr, List.length_cons, List.length_nil, List.getElem?_cons_zero, List.getElem?_cons_succ, Nat.zero_add, Nat.add_zero, h3', hb2.at_, hb.at_]
          refine gC.of (pieces_spec (p := p) (x := x) ⟨pv, rfl, hp⟩ ⟨qv, rfl, hq⟩ hl) ?_
          rintro _ m4 ⟨rfl, hx4⟩
          simp only [go_sem, Int.reduceBEq, Int.reduceBNe, Int.reduceNeg, reduceCtorEq, Nat.reduceEqDiff, Nat.reduceAdd, Nat.reduceLeDiff, Nat.reduceMul, Nat.reduceSub, Int.reduceToNat, Int.reduceLT, Int.reduceLE]
          exact ⟨fin_iff (by rw [decide_eq_true_eq]; exact ⟨fun h => ⟨hu, by omega, by omega, fun _ => by omega, fun _ => h⟩, fun h => h.2.2.2.2 (by omega)⟩), hX.trans (hx3.trans hx4)⟩
        · try simp only [go_sem, Int.reduceBEq, Int.reduceBNe, Int.reduceNeg, reduceCtorEq, Nat.reduceEqDiff, Nat.reduceAdd, Nat.reduceLeDiff, Nat.reduceMul, Nat.reduceSub, Int.reduceToNat, Int.reduceLT, Int.reduceLE, load_w, load_a, store_b, idxS_b, set_blk, new_blk, set_next, new_next, len_s, ldW_c, ldA_c, stB_c, toArr_one, size_one, toList_toArr, size_toArr, List.length_cons, List.length_nil, List.getElem?_cons_zero, List.getElem?_cons_succ, Nat.zero_add, Nat.add_zero, h3', hb2.at_, hb.at_]
          refine gC.of (has_spec (p := p) (c := x.core) ⟨pv, rfl, hp⟩) ?_
          rintro _ m4 ⟨rfl, hx4⟩
          simp only [go_sem, Int.reduceBEq, Int.reduceBNe, Int.reduceNeg, reduceCtorEq, Nat.reduceEqDiff, Nat.reduceAdd, Nat.reduceLeDiff, Nat.reduceMul, Nat.reduceSub, Int.reduceToNat, Int.reduceLT, Int.reduceLE]
          exact ⟨fin_iff ⟨fun h => ⟨hu, by omega, by omega, fun _ => h, fun _ => by omega⟩, fun h => h.2.2.2.1 (by omega)⟩, hX.trans (hx3.trans hx4)⟩
  · try simp only [go_sem, Int.reduceBEq, Int.reduceBNe, Int.reduceNeg, reduceCtorEq, Nat.reduceEqDiff, Nat.reduceAdd, Nat.reduceLeDiff, Nat.reduceMul, Nat.reduceSub, Int.reduceToNat, Int.reduceLT, Int.reduceLE, load_w, load_a, store_b, idxS_b, set_blk, new_blk, set_next, new_next, len_s, ldW_c, ldA_c, stB_c, toArr_one, size_one, toList_toArr, size_toArr, List.length_cons, List.length_nil, List.getElem?_cons_zero, List.getElem?_cons_succ, Nat.zero_add, Nat.add_zero]
    exact ⟨fin_no fun h => hu h.1, hX⟩

/-! ### windows that meet nowhere -/
def wAt (ps : List Pc) (c : Int) : BitVec 64 := winPc c 0#64 ps
def apartP (ps : List Pc) : Prop := ∀ i (h : i < ps.length), (wAt (ps.take i) ps[i].1 &&& ps[i].2) = 0#64
theorem wAt_snoc {ps : List Pc} {y : Pc} {c : Int} : wAt (ps ++ [y]) c = if y.1 = c then wAt ps c ||| y.2 else wAt ps c := by
  unfold wAt winPc; rw [List.foldl_append]; rfl
theorem apartP_snoc {ps : List Pc} {y : Pc} : apartP (ps ++ [y]) ↔ apartP ps ∧ (wAt ps y.1 &&& y.2) = 0#64 := by
  constructor
  · intro h
    refine ⟨fun i hi => ?_, ?_⟩
    · have := h i (by simp; omega)
      rw [List.getElem_append_left hi, List.take_append_of_le_length (by omega)] at this
      exact this
    · have := h ps.length (by simp)
      simpa using this
  · rintro ⟨h1, h2⟩ i hi
    by_cases e : i < ps.length
    · rw [List.getElem_append_left e, List.take_append_of_le_length (by omega)]; exact h1 i e
    · have : i = ps.length := by simp at hi; omega
      subst this
      simpa using h2
theorem apartP_pre {a b : List Pc} (h : apartP (a ++ b)) : apartP a := fun i hi => by
  have := h i (by simp; omega)
  rw [List.getElem_append_left hi, List.take_append_of_le_length (by omega)] at this
  exact this

def preP (l : List Pl) (i : Nat) : List Pc := (l.take i).flatMap (·.pieces)
theorem preP_succ {l : List Pl} {i : Nat} (h : i < l.length) : preP l (i + 1) = preP l i ++ l[i].pieces := by
  unfold preP; rw [List.take_succ_eq_append_getElem h, List.flatMap_append]; simp

/-- The words of sixteen cores. -/
structure Met (m : Mem) (b : Nat) (ps : List Pc) : Prop where
  wit : ∃ W : List (BitVec 64), Bk m b (W.map u64) 16 ∧ W.length = 16 ∧ ∀ c (h : c < W.length), W[c] = wAt ps (c : Nat)
theorem Met.keep {m m' : Mem} {b : Nat} {ps : List Pc} (h : Met m b ps) (hx : Ext m m') : Met m' b ps := let ⟨W, a, l, c⟩ := h.wit; ⟨W, a.keep hx, l, c⟩
theorem Met.get {m : Mem} {b : Nat} {ps : List Pc} (h : Met m b ps) {c : Int} (h0 : 0 ≤ c) (h1 : c < 16) : ldW (m.blk b) c.toNat = some (u64 (wAt ps c)) := by
  obtain ⟨W, a, l, g⟩ := h.wit
  rw [a.at_, ldW_c, List.getElem?_map, List.getElem?_eq_getElem (by omega), Option.map_some, g _ (by omega)]
  congr 3; omega
theorem Met.ne {m : Mem} {b : Nat} {ps : List Pc} (h : Met m b ps) : (b = m.next) = False := let ⟨_, a, _, _⟩ := h.wit; a.ne
theorem load_ext {m m' : Mem} {w : Bool} {u b o : Nat} (hx : Ext m m') (hb : b < m.next) : aLoad w u m' (.pointer (some ⟨b, o, none⟩)) = aLoad w u m (.pointer (some ⟨b, o, none⟩)) := by
  simp only [aLoad, aCells, hx.same b hb]
theorem got_eq {α : Type} {o : Option α} {a : α} {Q : α → Prop} (h : o = some a) (k : Q a) : Got o Q := ⟨a, h, k⟩
theorem Met.put {m : Mem} {b : Nat} {ps : List Pc} (h : Met m b ps) {y : Pc} (h0 : 0 ≤ y.1) (h1 : y.1 < 16) :
    ∃ m', stB m b (m.blk b) y.1.toNat [u64 (wAt ps y.1 ||| y.2)] = some m' ∧ Met m' b (ps ++ [y]) ∧ ∀ m0, Ext m0 m → m0.next ≤ b → Ext m0 m' := by
  obtain ⟨W, a, l, g⟩ := h.wit
  refine ⟨m.set b (some (.cells ((W.set y.1.toNat (wAt ps y.1 ||| y.2)).map u64) (some 16))), ?_, ⟨W.set y.1.toNat (wAt ps y.1 ||| y.2), ⟨by simp [Mem.set], by simpa [Mem.set] using a.lt⟩, by simp [l], fun c hc => ?_⟩, fun m0 hx hb => hx.set hb⟩
  · rw [a.at_, stB_c, if_pos ⟨by simp; omega, rfl⟩, writeL_set (by simp; omega), List.map_set]
  · rw [List.getElem_set, wAt_snoc]
    by_cases e : y.1 = (c : Int)
    · rw [if_pos (by omega), if_pos e, e]
    · rw [if_neg (by omega), if_neg e]
      exact g c (by simpa using hc)

theorem apart1p_loop {m0 : Mem} {x : Pl} {pv qv : Value} {b i n : Nat} {pre : List Pc} (hx0 : Ext m0 m) (hq : PcV m0 x.pieces qv) (hM : Met m b pre) (hb : m0.next ≤ b) (hap : apartP pre) (hl : x.pieces.length < 1000000) (hc : ∀ y ∈ x.pieces, 0 ≤ y.1 ∧ y.1 < 16) :
    WL R [3, 9, 10, 11, 16, 17, 18] RB.plan_apart_1 [(3, pt b), (9, pv), (10, .int .i64 n), (11, .int .i64 i), (16, qv), (17, .int .i64 x.pieces.length), (18, .int .i64 0)] m fun z e m' =>
      (z = .ret ∧ e = [(2, .bool false)] ∧ ¬ apartP (pre ++ x.pieces) ∧ Ext m0 m') ∨ (z = .exit 2 ∧ e = [(3, pt b), (9, pv), (10, .int .i64 n), (11, .int .i64 i), (16, qv), (17, .int .i64 x.pieces.length), (18, .int .i64 x.pieces.length), (19, .bool false)] ∧ Met m' b (pre ++ x.pieces) ∧ apartP (pre ++ x.pieces) ∧ Ext m0 m') := by
  refine WL.of (fun r e m' => ∃ j : Nat, j ≤ x.pieces.length ∧ r = x.pieces.length - j ∧ e = [(3, pt b), (9, pv), (10, .int .i64 n), (11, .int .i64 i), (16, qv), (17, .int .i64 x.pieces.length), (18, .int .i64 j)] ∧ Met m' b (pre ++ x.pieces.take j) ∧ apartP (pre ++ x.pieces.take j) ∧ Ext m0 m') x.pieces.length
    ⟨0, by omega, by omega, by simp only [go_sem, Int.reduceBEq, Int.reduceBNe, Int.reduceNeg, reduceCtorEq, Nat.reduceEqDiff, Nat.reduceAdd, Nat.reduceLeDiff, Nat.reduceMul, Nat.reduceSub, Int.reduceToNat, Int.reduceLT, Int.reduceLE] <;> rfl, by simpa using hM, by simpa using hap, hx0⟩ ?_
  rintro _ _ m3 ⟨j, hj, rfl, rfl, hM3, hap3, hx3⟩
  have hq3 := hq.keep hx3
  simp only [RB.plan_apart_1, pt, go_sem, Int.reduceBEq, Int.reduceBNe, Int.reduceNeg, reduceCtorEq, Nat.reduceEqDiff, Nat.reduceAdd, Nat.reduceLeDiff, Nat.reduceMul, Nat.reduceSub, Int.reduceToNat, Int.reduceLT, Int.reduceLE]
  refine gT.of (fun h1' => ?_) (fun h1' => ?_) <;> (have h1 := h1'; try simp only [decide_eq_true_eq, decide_eq_false_iff_not, beq_iff_eq, bne_iff_ne, beq_eq_false_iff_ne, ne_eq, Bool.not_eq_true', Bool.not_eq_false', bne_eq_false_iff_eq, Int.not_lt, Int.not_le] at h1)
  · have hjl : j < x.pieces.length := by omega
    obtain ⟨bb, o, a1, a2, a3, a4⟩ := hq3.elem hjl
    have hy := hc _ (List.getElem_mem hjl)
    have htk : x.pieces.take (j + 1) = x.pieces.take j ++ [x.pieces[j]] := List.take_succ_eq_append_getElem hjl
    have hdr : x.pieces = x.pieces.take j ++ [x.pieces[j]] ++ x.pieces.drop (j + 1) := by rw [← htk, List.take_append_drop]
    have s1 := step1 (show j < 1000000 by omega)
    generalize hyy : x.pieces[j] = y at *
    simp only [pcV] at a2
    have g3 := hM3.get hy.1 hy.2
    have n3 := hM3.ne
    try simp only [go_sem, Int.reduceBEq, Int.reduceBNe, Int.reduceNeg, reduceCtorEq, Nat.reduceEqDiff, Nat.reduceAdd, Nat.reduceLeDiff, Nat.reduceMul, Nat.reduceSub, Int.reduceToNat, Int.reduceLT, Int.reduceLE, load_w, load_a, store_b, idxS_b, set_blk, new_blk, set_next, new_next, len_s, ldW_c, ldA_c, stB_c, toArr_one, size_one, toList_toArr, size_toArr, List.length_cons, List.length_nil, List.getElem?_cons_zero, List.getElem?_cons_succ, Nat.zero_add, Nat.add_zero, a1, a2, hy.1, hy.2, g3, n3]
    have hx4 : Ext m3 (m3.new (.cells [.int .i64 y.1, u64 y.2] (some 2))) := Ext.new
    have hb4 : Bk (m3.new (.cells [.int .i64 y.1, u64 y.2] (some 2))) m3.next [.int .i64 y.1, u64 y.2] 2 := Bk.new
    generalize m3.new (.cells [.int .i64 y.1, u64 y.2] (some 2)) = m4 at hx4 hb4 ⊢
    have hM4 := hM3.keep hx4
    have g := hM4.get hy.1 hy.2
    try simp only [go_sem, Int.reduceBEq, Int.reduceBNe, Int.reduceNeg, reduceCtorEq, Nat.reduceEqDiff, Nat.reduceAdd, Nat.reduceLeDiff, Nat.reduceMul, Nat.reduceSub, Int.reduceToNat, Int.reduceLT, Int.reduceLE, load_w, load_a, store_b, idxS_b, set_blk, new_blk, set_next, new_next, len_s, ldW_c, ldA_c, stB_c, toArr_one, size_one, toList_toArr, size_toArr, List.length_cons, List.length_nil, List.getElem?_cons_zero, List.getElem?_cons_succ, Nat.zero_add, Nat.add_zero, hb4.at_, hy.1, hy.2, g]
    refine gT.of (fun h2' => ?_) (fun h2' => ?_) <;> (have h2 := h2'; try simp only [decide_eq_true_eq, decide_eq_false_iff_not, beq_iff_eq, bne_iff_ne, beq_eq_false_iff_ne, ne_eq, Bool.not_eq_true', Bool.not_eq_false', bne_eq_false_iff_eq, Int.not_lt, Int.not_le] at h2)
    · try simp only [go_sem, Int.reduceBEq, Int.reduceBNe, Int.reduceNeg, reduceCtorEq, Nat.reduceEqDiff, Nat.reduceAdd, Nat.reduceLeDiff, Nat.reduceMul, Nat.reduceSub, Int.reduceToNat, Int.reduceLT, Int.reduceLE, load_w, load_a, store_b, idxS_b, set_blk, new_blk, set_next, new_next, len_s, ldW_c, ldA_c, stB_c, toArr_one, size_one, toList_toArr, size_toArr, List.length_cons, List.length_nil, List.getElem?_cons_zero, List.getElem?_cons_succ, Nat.zero_add, Nat.add_zero, h2']
      refine .inl ⟨fun h => ?_, hx3.trans hx4⟩
      rw [hdr, ← List.append_assoc, ← List.append_assoc] at h
      exact h2 (apartP_snoc.1 (apartP_pre h)).2
    · try simp only [go_sem, Int.reduceBEq, Int.reduceBNe, Int.reduceNeg, reduceCtorEq, Nat.reduceEqDiff, Nat.reduceAdd, Nat.reduceLeDiff, Nat.reduceMul, Nat.reduceSub, Int.reduceToNat, Int.reduceLT, Int.reduceLE, load_w, load_a, store_b, idxS_b, set_blk, new_blk, set_next, new_next, len_s, ldW_c, ldA_c, stB_c, toArr_one, size_one, toList_toArr, size_toArr, List.length_cons, List.length_nil, List.getElem?_cons_zero, List.getElem?_cons_succ, Nat.zero_add, Nat.add_zero, h2', hb4.at_, hy.1, hy.2, g]
      obtain ⟨m5, q1, q2, q3⟩ := hM4.put hy.1 hy.2
      refine got_eq q1 ?_
      try simp only [go_sem, Int.reduceBEq, Int.reduceBNe, Int.reduceNeg, reduceCtorEq, Nat.reduceEqDiff, Nat.reduceAdd, Nat.reduceLeDiff, Nat.reduceMul, Nat.reduceSub, Int.reduceToNat, Int.reduceLT, Int.reduceLE, load_w, load_a, store_b, idxS_b, set_blk, new_blk, set_next, new_next, len_s, ldW_c, ldA_c, stB_c, toArr_one, size_one, toList_toArr, size_toArr, List.length_cons, List.length_nil, List.getElem?_cons_zero, List.getElem?_cons_succ, Nat.zero_add, Nat.add_zero, s1]
      refine ⟨x.pieces.length - (j + 1), by omega, j + 1, by omega, rfl, rfl, ?_, ?_, q3 _ (hx3.trans hx4) hb⟩
      · rw [htk, ← List.append_assoc]; exact q2
      · rw [htk, ← List.append_assoc, apartP_snoc]; exact ⟨hap3, Decidable.not_not.1 h2⟩
  · have : j = x.pieces.length := by omega
    subst this
    rw [List.take_length] at hM3 hap3
    try simp only [go_sem, Int.reduceBEq, Int.reduceBNe, Int.reduceNeg, reduceCtorEq, Nat.reduceEqDiff, Nat.reduceAdd, Nat.reduceLeDiff, Nat.reduceMul, Nat.reduceSub, Int.reduceToNat, Int.reduceLT, Int.reduceLE, load_w, load_a, store_b, idxS_b, set_blk, new_blk, set_next, new_next, len_s, ldW_c, ldA_c, stB_c, toArr_one, size_one, toList_toArr, size_toArr, List.length_cons, List.length_nil, List.getElem?_cons_zero, List.getElem?_cons_succ, Nat.zero_add, Nat.add_zero, h1']
    exact .inr ⟨hM3, hap3, hx3⟩

theorem apart_spec {p : PlanD} {v : Value} (hv : PlanV m p v) (hl : p.places.length < 1000000) (hp1 : ∀ x ∈ p.places, x.pieces.length < 1000000) (hc : ∀ x ∈ p.places, ∀ y ∈ x.pieces, 0 ≤ y.1 ∧ y.1 < 16) :
    WC R F.plan_apart [v] m fun r m' => r = .bool (decide (apartP (preP p.places p.places.length))) ∧ Ext m m' := by
  refine WC.of R.plan_apart rfl ?_
  obtain ⟨pv, rfl, hp⟩ := hv
  simp only [RC.plan_apart, planV, go_sem, Int.reduceBEq, Int.reduceBNe, Int.reduceNeg, reduceCtorEq, Nat.reduceEqDiff, Nat.reduceAdd, Nat.reduceLeDiff, Nat.reduceMul, Nat.reduceSub, Int.reduceToNat, Int.reduceLT, Int.reduceLE, hp.one]
  have hx : Ext m (m.new (.cells [.int .i64 p.frame, u32 p.cores, pv] (some 3))) := Ext.new
  have hb : Bk (m.new (.cells [.int .i64 p.frame, u32 p.cores, pv] (some 3))) m.next [.int .i64 p.frame, u32 p.cores, pv] 3 := Bk.new
  generalize m.new (.cells [.int .i64 p.frame, u32 p.cores, pv] (some 3)) = m1 at hx hb ⊢
  have hp1' := hp.keep hx
  have hbn := hb.ne
  try simp only [go_sem, Int.reduceBEq, Int.reduceBNe, Int.reduceNeg, reduceCtorEq, Nat.reduceEqDiff, Nat.reduceAdd, Nat.reduceLeDiff, Nat.reduceMul, Nat.reduceSub, Int.reduceToNat, Int.reduceLT, Int.reduceLE, load_w, load_a, store_b, idxS_b, set_blk, new_blk, set_next, new_next, len_s, ldW_c, ldA_c, stB_c, toArr_one, size_one, toList_toArr, size_toArr, List.length_cons, List.length_nil, List.getElem?_cons_zero, List.getElem?_cons_succ, Nat.zero_add, Nat.add_zero, hb.at_, hbn, hp1'.len]
  have hx2 : Ext m1 (m1.new (.cells [u64 0#64, u64 0#64, u64 0#64, u64 0#64, u64 0#64, u64 0#64, u64 0#64, u64 0#64, u64 0#64, u64 0#64, u64 0#64, u64 0#64, u64 0#64, u64 0#64, u64 0#64, u64 0#64] (some 16))) := Ext.new
  have hb2 : Bk (m1.new (.cells [u64 0#64, u64 0#64, u64 0#64, u64 0#64, u64 0#64, u64 0#64, u64 0#64, u64 0#64, u64 0#64, u64 0#64, u64 0#64, u64 0#64, u64 0#64, u64 0#64, u64 0#64, u64 0#64] (some 16))) m1.next [u64 0#64, u64 0#64, u64 0#64, u64 0#64, u64 0#64, u64 0#64, u64 0#64, u64 0#64, u64 0#64, u64 0#64, u64 0#64, u64 0#64, u64 0#64, u64 0#64, u64 0#64, u64 0#64] 16 := Bk.new
  generalize m1.new (.cells [u64 0#64, u64 0#64, u64 0#64, u64 0#64, u64 0#64, u64 0#64, u64 0#64, u64 0#64, u64 0#64, u64 0#64, u64 0#64, u64 0#64, u64 0#64, u64 0#64, u64 0#64, u64 0#64] (some 16)) = m2 at hx2 hb2 ⊢
  have hb2' := hb.keep hx2
  have hM2 : Met m2 m1.next [] := ⟨List.replicate 16 0#64, hb2, rfl, fun c hc => by rw [List.getElem_replicate]; rfl⟩
  try simp only [go_sem, Int.reduceBEq, Int.reduceBNe, Int.reduceNeg, reduceCtorEq, Nat.reduceEqDiff, Nat.reduceAdd, Nat.reduceLeDiff, Nat.reduceMul, Nat.reduceSub, Int.reduceToNat, Int.reduceLT, Int.reduceLE, load_w, load_a, store_b, idxS_b, set_blk, new_blk, set_next, new_next, len_s, ldW_c, ldA_c, stB_c, toArr_one, size_one, toList_toArr, size_toArr, List.length_cons, List.length_nil, List.getElem?_cons_zero, List.getElem?_cons_succ, Nat.zero_add, Nat.add_zero, hb2'.at_, hp1'.len]
  refine WL.of (fun n e m' => ∃ i : Nat, i ≤ p.places.length ∧ n = p.places.length - i ∧ e = [(3, pt m1.next), (9, pv), (10, .int .i64 p.places.length), (11, .int .i64 i)] ∧ Met m' m1.next (preP p.places i) ∧ apartP (preP p.places i) ∧ Ext m1 m') p.places.length
    ⟨0, by omega, by omega, by simp only [go_sem, Int.reduceBEq, Int.reduceBNe, Int.reduceNeg, reduceCtorEq, Nat.reduceEqDiff, Nat.reduceAdd, Nat.reduceLeDiff, Nat.reduceMul, Nat.reduceSub, Int.reduceToNat, Int.reduceLT, Int.reduceLE] <;> rfl, by simpa [preP] using hM2, by intro k hk; simp [preP] at hk, hx2⟩ ?_
  rintro _ _ m3 ⟨i, hi, rfl, rfl, hM, hap, hx3⟩
  have hp3 := hp1'.keep hx3
  simp only [RB.plan_apart_2, pt, go_sem, Int.reduceBEq, Int.reduceBNe, Int.reduceNeg, reduceCtorEq, Nat.reduceEqDiff, Nat.reduceAdd, Nat.reduceLeDiff, Nat.reduceMul, Nat.reduceSub, Int.reduceToNat, Int.reduceLT, Int.reduceLE]
  refine gT.of (fun h1' => ?_) (fun h1' => ?_) <;> (have h1 := h1'; try simp only [decide_eq_true_eq, decide_eq_false_iff_not, beq_iff_eq, bne_iff_ne, beq_eq_false_iff_ne, ne_eq, Bool.not_eq_true', Bool.not_eq_false', bne_eq_false_iff_eq, Int.not_lt, Int.not_le] at h1)
  · have hil : i < p.places.length := by omega
    obtain ⟨b, o, qv, a1, a2, a3, a4, a5⟩ := hp1'.elem hil
    rw [← load_ext hx3 a5] at a2
    have hpre := preP_succ hil
    have hmem := List.getElem_mem hil
    have hpl := hp1 _ hmem
    have hcc := hc _ hmem
    have s1 := step1 (show i < 1000000 by omega)
    have hrest : preP p.places p.places.length = preP p.places (i + 1) ++ (p.places.drop (i + 1)).flatMap (·.pieces) := by
      unfold preP
      rw [← List.flatMap_append, List.take_length, List.take_append_drop]
    generalize p.places[i] = x at *
    simp only [plV] at a2
    try simp only [go_sem, Int.reduceBEq, Int.reduceBNe, Int.reduceNeg, reduceCtorEq, Nat.reduceEqDiff, Nat.reduceAdd, Nat.reduceLeDiff, Nat.reduceMul, Nat.reduceSub, Int.reduceToNat, Int.reduceLT, Int.reduceLE, load_w, load_a, store_b, idxS_b, set_blk, new_blk, set_next, new_next, len_s, ldW_c, ldA_c, stB_c, toArr_one, size_one, toList_toArr, size_toArr, List.length_cons, List.length_nil, List.getElem?_cons_zero, List.getElem?_cons_succ, Nat.zero_add, Nat.add_zero, a1, a2, a4.one]
    have hx4 : Ext m3 (m3.new (.cells [.int .i64 x.unit, .int .i64 x.share, .int .i64 x.core, qv] (some 4))) := Ext.new
    have hb4 : Bk (m3.new (.cells [.int .i64 x.unit, .int .i64 x.share, .int .i64 x.core, qv] (some 4))) m3.next [.int .i64 x.unit, .int .i64 x.share, .int .i64 x.core, qv] 4 := Bk.new
    generalize m3.new (.cells [.int .i64 x.unit, .int .i64 x.share, .int .i64 x.core, qv] (some 4)) = m4 at hx4 hb4 ⊢
    try simp only [go_sem, Int.reduceBEq, Int.reduceBNe, Int.reduceNeg, reduceCtorEq, Nat.reduceEqDiff, Nat.reduceAdd, Nat.reduceLeDiff, Nat.reduceMul, Nat.reduceSub, Int.reduceToNat, Int.reduceLT, Int.reduceLE, load_w, load_a, store_b, idxS_b, set_blk, new_blk, set_next, new_next, len_s, ldW_c, ldA_c, stB_c, toArr_one, size_one, toList_toArr, size_toArr, List.length_cons, List.length_nil, List.getElem?_cons_zero, List.getElem?_cons_succ, Nat.zero_add, Nat.add_zero, hb4.at_, a4.len]
    have hx34 : Ext m1 m4 := hx3.trans hx4
    refine WL.mono (apart1p_loop (m0 := m1) (x := x) (b := m1.next) (pre := preP p.places i) hx34 a4 (hM.keep hx4) (Nat.le_refl _) hap hpl hcc) ?_
    rintro _ _ m5 (⟨rfl, rfl, hno, hx5⟩ | ⟨rfl, rfl, hM5, hap5, hx5⟩)
    · try simp only [go_sem, Int.reduceBEq, Int.reduceBNe, Int.reduceNeg, reduceCtorEq, Nat.reduceEqDiff, Nat.reduceAdd, Nat.reduceLeDiff, Nat.reduceMul, Nat.reduceSub, Int.reduceToNat, Int.reduceLT, Int.reduceLE, load_w, load_a, store_b, idxS_b, set_blk, new_blk, set_next, new_next, len_s, ldW_c, ldA_c, stB_c, toArr_one, size_one, toList_toArr, size_toArr, List.length_cons, List.length_nil, List.getElem?_cons_zero, List.getElem?_cons_succ, Nat.zero_add, Nat.add_zero]
      exact ⟨fin_no fun h => by rw [hrest, hpre] at h; exact hno (apartP_pre h), hx.trans hx5⟩
    · simp only [pt]
      try simp only [go_sem, Int.reduceBEq, Int.reduceBNe, Int.reduceNeg, reduceCtorEq, Nat.reduceEqDiff, Nat.reduceAdd, Nat.reduceLeDiff, Nat.reduceMul, Nat.reduceSub, Int.reduceToNat, Int.reduceLT, Int.reduceLE, load_w, load_a, store_b, idxS_b, set_blk, new_blk, set_next, new_next, len_s, ldW_c, ldA_c, stB_c, toArr_one, size_one, toList_toArr, size_toArr, List.length_cons, List.length_nil, List.getElem?_cons_zero, List.getElem?_cons_succ, Nat.zero_add, Nat.add_zero, s1]
      exact ⟨p.places.length - (i + 1), by omega, i + 1, by omega, rfl, rfl, by rw [hpre]; exact hM5, by rw [hpre]; exact hap5, hx5⟩
  · have : i = p.places.length := by omega
    subst this
    try simp only [go_sem, Int.reduceBEq, Int.reduceBNe, Int.reduceNeg, reduceCtorEq, Nat.reduceEqDiff, Nat.reduceAdd, Nat.reduceLeDiff, Nat.reduceMul, Nat.reduceSub, Int.reduceToNat, Int.reduceLT, Int.reduceLE, load_w, load_a, store_b, idxS_b, set_blk, new_blk, set_next, new_next, len_s, ldW_c, ldA_c, stB_c, toArr_one, size_one, toList_toArr, size_toArr, List.length_cons, List.length_nil, List.getElem?_cons_zero, List.getElem?_cons_succ, Nat.zero_add, Nat.add_zero, h1']
    exact ⟨fin_yes hap, hx.trans hx3⟩
end Go.Am
