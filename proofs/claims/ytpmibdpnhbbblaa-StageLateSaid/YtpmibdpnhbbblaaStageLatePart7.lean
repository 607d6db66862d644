/- Parts of the proofs of the statements of this seat: StagePlanZ1, StagePlanZ2, AmMap, StageS1, StageS2, StageS3, StageS4, StageS5, StageS6, StageS7, StageS8, StageS9, StageSA, StageSB, StageSC, StageSD, StageSE, StagePlanZ3, StagePlanZ4, StageSF, StageSG, StageSH, WStageLate. No conditions. -/
import Derived.Test.YtpmibdpnhbbblaaStageLatePart4
import Derived.Test.YtpmibdpnhbbblaaStageLatePart6
set_option linter.unusedVariables false
set_option linter.unusedSimpArgs false

/- PlanZ1 over the table of stage (relayset.py). -/
set_option linter.unusedVariables false
set_option linter.unusedSimpArgs false
namespace Go.Am
open Classical
variable {m : Mem}

/-- A place with where its pieces lie. -/
structure PE where
  pl : Pl
  pv : Value
  one : pv.oneCell' = true
def peV (e : PE) : List Value := plV e.pl e.pv
theorem peV_len (e : PE) : (peV e).length = 4 := rfl
theorem peV_one (e : PE) : oneCells (peV e) = true := by
  unfold peV plV oneCells
  simp [e.one]
  exact ⟨rfl, rfl, rfl⟩

/-- Places in a row of one's own. -/
structure OwnPls (m0 m : Mem) (l : List PE) (v : Value) : Prop where
  own : Own m0 m 4 l.length (l.flatMap peV) v
  el : ∀ e ∈ l, PcV m e.pl.pieces e.pv ∧ ∀ b ∈ vb e.pv, b ∉ vb v
  ext : Ext m0 m
theorem OwnPls.keep {m0 m m' : Mem} {l : List PE} {v : Value} (h : OwnPls m0 m l v) (hx : Ext m m') : OwnPls m0 m' l v :=
  ⟨h.own.keep hx, fun e he => ⟨(h.el e he).1.keep hx, (h.el e he).2⟩, h.ext.trans hx⟩
theorem PcV.upd {m m' : Mem} {l : List Pc} {v : Value} {fp : List Nat} (h : PcV m l v) (hx : Upd m m' fp) (ho : ∀ b ∈ vb v, b ∉ fp) : PcV m' l v :=
  ⟨h.1.upd h.2 (SlOff.vb_iff.2 ho) hx, h.2.upd hx⟩
theorem OwnPls.updq {m0 m m' : Mem} {l : List PE} {v : Value} {fp : List Nat} (h : OwnPls m0 m l v) (hx : Upd m m' fp) (h1 : ∀ b ∈ vb v, b ∉ fp) (h2 : ∀ e ∈ l, ∀ b ∈ vb e.pv, b ∉ fp) (h3 : ∀ x ∈ fp, m0.next ≤ x) : OwnPls m0 m' l v :=
  ⟨h.own.updq hx h1, fun e he => ⟨(h.el e he).1.upd hx (h2 e he), (h.el e he).2⟩, hx.ext_of h.ext h3⟩
theorem OwnPls.weak {m0 m1 m : Mem} {l : List PE} {v : Value} (h : OwnPls m1 m l v) (hx : Ext m0 m1) : OwnPls m0 m l v := ⟨h.own.weak hx, h.el, hx.trans h.ext⟩
theorem OwnPls.pls {m0 m : Mem} {l : List PE} {v : Value} (h : OwnPls m0 m l v) : PlsV m (l.map PE.pl) v := by
  refine ⟨l.flatMap peV, by rw [List.length_map]; exact h.own.sl, h.own.lt, fun i hi => ?_⟩
  have hi' : i < l.length := by simpa using hi
  refine ⟨l[i].pv, ?_, ?_⟩
  · rw [flat_drop peV_len hi']; simp [peV]
  · have := (h.el _ (List.getElem_mem hi')).1
    simpa using this

theorem OwnPls.app {m0 m : Mem} {l : List PE} {v : Value} {e : PE} (h : OwnPls m0 m l v) (hp : PcV m e.pl.pieces e.pv) (ho : ∀ b ∈ vb e.pv, b ∉ vb v) (hl : l.length < 1000000) :
    ∃ v' m', aApp none 4 48 (m.new (.cells (peV e) (some 4))) v (.slice (some ⟨m.next, 0, none⟩) 1 1) = some (v', m') ∧ OwnPls m0 m' (l ++ [e]) v' := by
  obtain ⟨v', m', e1, e2, e3⟩ := h.own.app (by_ := 48) (es := peV e) h.ext (by omega) rfl (peV_one e) (by omega) (by omega)
  have hx : Ext m (m.new (.cells (peV e) (some 4))) := Ext.new
  obtain ⟨a1, a2, a3⟩ := app_updA (M := (m.new (.cells (peV e) (some 4))).next) e1 (fun k hk => by cases hk) (Nat.le_refl _)
  have hn := hx.next
  have key : ∀ pc pv, PcV m pc pv → (∀ b ∈ vb pv, b ∉ vb v) → PcV m' pc pv ∧ ∀ b ∈ vb pv, b ∉ vb v' := fun pc pv h1 h2 => by
    have hlt := SlLt.vb_iff.1 h1.2
    refine ⟨(h1.keep hx).upd (fp := vb v) ⟨a1, fun b hb hnb => a2 b hb hnb⟩ h2, fun b hb hm => ?_⟩
    rcases a3 with e | ⟨k, e, hk⟩
    · rw [e] at hm; exact h2 b hb hm
    · rw [e] at hm
      simp at hm
      have := hlt b hb
      omega
  refine ⟨v', m', e1, ⟨?_, fun x hx' => ?_, e3⟩⟩
  · rw [List.length_append, List.flatMap_append]; simpa using e2
  · rcases List.mem_append.1 hx' with hx' | hx'
    · exact key _ _ (h.el x hx').1 (h.el x hx').2
    · rw [List.mem_singleton.1 hx']
      exact key _ _ hp ho


/-- A row of places, all of whose blocks are new. -/
structure NewPls (m0 m : Mem) (l : List PE) (v : Value) : Prop where
  pls : OwnPls m0 m l v
  new : ∀ e ∈ l, ∀ b ∈ vb e.pv, m0.next ≤ b
theorem NewPls.keep {m0 m m' : Mem} {l : List PE} {v : Value} (h : NewPls m0 m l v) (hx : Ext m m') : NewPls m0 m' l v := ⟨h.pls.keep hx, h.new⟩
theorem NewPls.weak {m0 m1 m : Mem} {l : List PE} {v : Value} (h : NewPls m1 m l v) (hx : Ext m0 m1) : NewPls m0 m l v := ⟨h.pls.weak hx, fun e he b hb => by have := h.new e he b hb; have := hx.next; omega⟩
theorem NewPls.old {m0 m m' : Mem} {l : List PE} {v : Value} {fp : List Nat} (h : NewPls m0 m l v) (hx : Upd m m' fp) (hf : ∀ x ∈ fp, x < m0.next) : OwnPls m0 m' l v ∨ True := .inr trivial
theorem plV_one {x : Pl} {w : Value} (h : w.oneCell' = true) : oneCells (plV x w) = true := by
  unfold plV oneCells
  simp [h]
  exact ⟨rfl, rfl, rfl⟩

theorem make0 {u by_ : Nat} {z : List Value} {m : Mem} {n : Nat} (h1 : n < 2 ^ 62) (h2 : n * by_ ≤ 2 ^ 47) (hz : z.length = u) (ho : oneCells z = true) :
    aMake none u by_ z m (.int .i64 0) (.int .i64 n) = some (.slice (some ⟨m.next, 0, none⟩) 0 n, m.new (.cells (zeros z n) (some u))) := by
  simp only [aMake, place]
  rw [if_pos ⟨by omega, by omega, by omega, by omega, hz, ho⟩, Int.toNat_natCast]
  rfl
theorem zeros_len {z : List Value} {n : Nat} : (zeros z n).length = n * z.length := by
  induction n with
  | zero => simp [zeros]
  | succ n ih => simp [zeros, ih, Nat.succ_mul]; omega

theorem new0 {m : Mem} {cs : List Value} {n : Nat} (h : cs.length = n * 4) (hx : Ext m (m.new (.cells cs (some 4)))) : NewPls m (m.new (.cells cs (some 4))) [] (.slice (some ⟨m.next, 0, none⟩) 0 n) := by
  refine ⟨⟨.at (all := cs) (Nat.le_refl _) (by simp [Mem.new]) (Nat.zero_le _) (by simp [Mem.new]) h ?_ rfl, (fun e he => by simp at he), hx⟩, (fun e he => by simp at he)⟩
  show cs.take (0 * 4) = []
  rw [Nat.zero_mul]; rfl

theorem mk_rule {R : Nat → Option FEnt} {e : Env} {m : Mem} {u b k : Nat} {z : List Value} {a v : Value} {Q : Value → Mem → Prop} (h : Env.get e k = some v) :
    gpA R none e m (.mkslice u b z (.c a) (.t k)) Q = Got (aMake none u b z m a v) fun r => Q r.1 r.2 := by
  rw [a_mkslice, act_mkslice, ev_c, ev_t, h, Option.bind_some, Option.bind_some]

set_option maxHeartbeats 4000000 in
theorem clone_spec {p : PlanD} {v : Value} (hv : PlanV m p v) (hl : PlanL p) :
    WC R F.plan_clone [v] m fun r m' => ∃ (l : List PE) (lv : Value), r = .agg (planV p lv).toArray ∧ l.map PE.pl = p.places ∧ NewPls m m' l lv := by
  refine WC.of R.plan_clone rfl ?_
  obtain ⟨pv, rfl, hp⟩ := hv
  have hln := hl.len
  simp only [RC.plan_clone, planV, go_sem, Int.reduceBEq, Int.reduceBNe, Int.reduceNeg, reduceCtorEq, Nat.reduceEqDiff, Nat.reduceAdd, Nat.reduceLeDiff, Nat.reduceMul, Nat.reduceSub, Int.reduceToNat, Int.reduceLT, Int.reduceLE, hp.one]
  have hx1 : Ext m (m.new (.cells [.int .i64 p.frame, u32 p.cores, pv] (some 3))) := Ext.new
  have hb1 : Bk (m.new (.cells [.int .i64 p.frame, u32 p.cores, pv] (some 3))) m.next [.int .i64 p.frame, u32 p.cores, pv] 3 := Bk.new
  generalize m.new (.cells [.int .i64 p.frame, u32 p.cores, pv] (some 3)) = m1 at hx1 hb1 ⊢
  have hbn := hb1.ne
  try simp only [go_sem, Int.reduceBEq, Int.reduceBNe, Int.reduceNeg, reduceCtorEq, Nat.reduceEqDiff, Nat.reduceAdd, Nat.reduceLeDiff, Nat.reduceMul, Nat.reduceSub, Int.reduceToNat, Int.reduceLT, Int.reduceLE, load_w, load_a, store_b, idxS_b, set_blk, new_blk, set_next, new_next, len_s, ldW_c, ldA_c, stB_c, toArr_one, size_one, toList_toArr, size_toArr, List.length_cons, List.length_nil, List.getElem?_cons_zero, List.getElem?_cons_succ, Nat.zero_add, Nat.add_zero, hb1.at_, hbn]
  have hx2 : Ext m1 (m1.new (.cells [.int .i64 0, u32 0#32, .slice none 0 0] (some 3))) := Ext.new
  have hb2 : Bk (m1.new (.cells [.int .i64 0, u32 0#32, .slice none 0 0] (some 3))) m1.next [.int .i64 0, u32 0#32, .slice none 0 0] 3 := Bk.new
  generalize m1.new (.cells [.int .i64 0, u32 0#32, .slice none 0 0] (some 3)) = m2 at hx2 hb2 ⊢
  have hb12 := hb1.keep hx2
  have hp2 := (hp.keep hx1).keep hx2
  try simp only [go_sem, Int.reduceBEq, Int.reduceBNe, Int.reduceNeg, reduceCtorEq, Nat.reduceEqDiff, Nat.reduceAdd, Nat.reduceLeDiff, Nat.reduceMul, Nat.reduceSub, Int.reduceToNat, Int.reduceLT, Int.reduceLE, load_w, load_a, store_b, idxS_b, set_blk, new_blk, set_next, new_next, len_s, ldW_c, ldA_c, stB_c, toArr_one, size_one, toList_toArr, size_toArr, List.length_cons, List.length_nil, List.getElem?_cons_zero, List.getElem?_cons_succ, Nat.zero_add, Nat.add_zero, hb12.at_]
  simp only [hp2.len, Got.some, wpO_cons, wpOp_on, put_some]
  rw [mk_rule (v := .int .i64 (p.places.length : Nat)) get_same]
  refine Got.of (make0 (u := 4) (by_ := 48) (n := p.places.length) (by omega) (by omega) rfl rfl) ?_
  try simp only [go_sem, Int.reduceBEq, Int.reduceBNe, Int.reduceNeg, reduceCtorEq, Nat.reduceEqDiff, Nat.reduceAdd, Nat.reduceLeDiff, Nat.reduceMul, Nat.reduceSub, Int.reduceToNat, Int.reduceLT, Int.reduceLE, load_w, load_a, store_b, idxS_b, set_blk, new_blk, set_next, new_next, len_s, ldW_c, ldA_c, stB_c, toArr_one, size_one, toList_toArr, size_toArr, List.length_cons, List.length_nil, List.getElem?_cons_zero, List.getElem?_cons_succ, Nat.zero_add, Nat.add_zero, hb12.at_, hb12.ne, hp2.len]
  have hx3 : Ext m2 (m2.new (.cells (zeros [.int .i64 0, .int .i64 0, .int .i64 0, .slice none 0 0] p.places.length) (some 4))) := Ext.new
  have ho : NewPls m2 (m2.new (.cells (zeros [.int .i64 0, .int .i64 0, .int .i64 0, .slice none 0 0] p.places.length) (some 4))) [] (.slice (some ⟨m2.next, 0, none⟩) 0 p.places.length) := new0 zeros_len hx3
  generalize m2.new (.cells (zeros [.int .i64 0, .int .i64 0, .int .i64 0, .slice none 0 0] p.places.length) (some 4)) = m3 at hx3 ho ⊢
  have hle : m1.next + 1 ≤ m2.next := hb2.lt
  have hle0 : m.next + 1 ≤ m1.next := hb1.lt
  refine WL.of (fun n e m' => ∃ (i : Nat) (l : List PE) (lv : Value), i ≤ p.places.length ∧ n = p.places.length - i ∧ e = [(1, pt m.next), (2, pt m1.next), (3, lv), (11, pv), (12, .int .i64 p.places.length), (13, .int .i64 i)] ∧ l.map PE.pl = p.places.take i ∧ NewPls m2 m' l lv) p.places.length
    ⟨0, [], _, by omega, by omega, by simp only [go_sem, Int.reduceBEq, Int.reduceBNe, Int.reduceNeg, reduceCtorEq, Nat.reduceEqDiff, Nat.reduceAdd, Nat.reduceLeDiff, Nat.reduceMul, Nat.reduceSub, Int.reduceToNat, Int.reduceLT, Int.reduceLE] <;> rfl, by simp, ho⟩ ?_
  rintro _ _ m4 ⟨i, l, lv, hi, rfl, rfl, hmp, hN⟩
  have hx4 := hN.pls.ext
  have hp4 := hp2.keep hx4
  have hb14 := hb12.keep hx4
  have hb24 := hb2.keep hx4
  have hll : l.length = i := by have := congrArg List.length hmp; simp at this; omega
  simp only [RB.plan_clone_1, pt, go_sem, Int.reduceBEq, Int.reduceBNe, Int.reduceNeg, reduceCtorEq, Nat.reduceEqDiff, Nat.reduceAdd, Nat.reduceLeDiff, Nat.reduceMul, Nat.reduceSub, Int.reduceToNat, Int.reduceLT, Int.reduceLE]
  refine gT.of (fun h1' => ?_) (fun h1' => ?_) <;> (have h1 := h1'; try simp only [decide_eq_true_eq, decide_eq_false_iff_not, beq_iff_eq, bne_iff_ne, beq_eq_false_iff_ne, ne_eq, Bool.not_eq_true', Bool.not_eq_false', bne_eq_false_iff_eq, Int.not_lt, Int.not_le] at h1)
  · have hil : i < p.places.length := by omega
    obtain ⟨b, o, qv, a1, a2, a3, a4, a5⟩ := hp4.elem hil
    have htk : p.places.take (i + 1) = p.places.take i ++ [p.places[i]] := List.take_succ_eq_append_getElem hil
    have hpl := hl.pcs _ (List.getElem_mem hil)
    have s1 := step1 (show i < 1000000 by omega)
    generalize p.places[i] = x at *
    simp only [plV] at a2
    try simp only [go_sem, Int.reduceBEq, Int.reduceBNe, Int.reduceNeg, reduceCtorEq, Nat.reduceEqDiff, Nat.reduceAdd, Nat.reduceLeDiff, Nat.reduceMul, Nat.reduceSub, Int.reduceToNat, Int.reduceLT, Int.reduceLE, load_w, load_a, store_b, idxS_b, set_blk, new_blk, set_next, new_next, len_s, ldW_c, ldA_c, stB_c, toArr_one, size_one, toList_toArr, size_toArr, List.length_cons, List.length_nil, List.getElem?_cons_zero, List.getElem?_cons_succ, Nat.zero_add, Nat.add_zero, h1', a1, a2, a4.one]
    have hx5 : Ext m4 (m4.new (.cells [.int .i64 x.unit, .int .i64 x.share, .int .i64 x.core, qv] (some 4))) := Ext.new
    have hb5 : Bk (m4.new (.cells [.int .i64 x.unit, .int .i64 x.share, .int .i64 x.core, qv] (some 4))) m4.next [.int .i64 x.unit, .int .i64 x.share, .int .i64 x.core, qv] 4 := Bk.new
    generalize m4.new (.cells [.int .i64 x.unit, .int .i64 x.share, .int .i64 x.core, qv] (some 4)) = m5 at hx5 hb5 ⊢
    try simp only [go_sem, Int.reduceBEq, Int.reduceBNe, Int.reduceNeg, reduceCtorEq, Nat.reduceEqDiff, Nat.reduceAdd, Nat.reduceLeDiff, Nat.reduceMul, Nat.reduceSub, Int.reduceToNat, Int.reduceLT, Int.reduceLE, load_w, load_a, store_b, idxS_b, set_blk, new_blk, set_next, new_next, len_s, ldW_c, ldA_c, stB_c, toArr_one, size_one, toList_toArr, size_toArr, List.length_cons, List.length_nil, List.getElem?_cons_zero, List.getElem?_cons_succ, Nat.zero_add, Nat.add_zero, hb5.at_]
    refine gC.of (Clone_spec (a4.keep hx5) hpl) ?_
    rintro w m6 ⟨hw, hx6⟩
    have hb6 := hb5.keep hx6
    have hw1 := hw.sl.one
    have hwc := hw.sl.cells
    have hge := hw.ge
    have hwl := hw.lt
    have hwp : PcV m6 x.pieces w := ⟨hw.sl, hw.lt⟩
    have hn5 := hx5.next
    have hn4 := hx4.next
    have hb5l := hb5.lt
    have hws : ∃ a n c, w = .slice a n c := by cases hw <;> exact ⟨_, _, _, rfl⟩
    obtain ⟨wa, wn, wc, rfl⟩ := hws
    try simp only [go_sem, Int.reduceBEq, Int.reduceBNe, Int.reduceNeg, reduceCtorEq, Nat.reduceEqDiff, Nat.reduceAdd, Nat.reduceLeDiff, Nat.reduceMul, Nat.reduceSub, Int.reduceToNat, Int.reduceLT, Int.reduceLE, load_w, load_a, store_b, idxS_b, set_blk, new_blk, set_next, new_next, len_s, ldW_c, ldA_c, stB_c, toArr_one, size_one, toList_toArr, size_toArr, List.length_cons, List.length_nil, List.getElem?_cons_zero, List.getElem?_cons_succ, Nat.zero_add, Nat.add_zero, hb6.at_, hw1]
    have hU : Upd m6 (m6.set m4.next (some (.cells [.int .i64 x.unit, .int .i64 x.share, .int .i64 x.core, .slice wa wn wc] (some 4)))) [m4.next] := Upd.set (by simp)
    have hN6 := (hN.keep hx5).keep hx6
    have hN7 : NewPls m2 _ l lv := ⟨hN6.pls.updq hU (fun b hb => by
        have := (SlLt.vb_iff.1 hN.pls.own.lt) b hb; simp; omega) (fun e he b hb => by
        have := (SlLt.vb_iff.1 (hN.pls.el e he).1.2) b hb; simp; omega) (by simp; omega), hN.new⟩
    have hwp7 := hwp.upd hU (fun b hb => by have := hge b hb; simp; omega)
    have hwv : ∀ b ∈ vb (Value.slice wa wn wc), b ∉ vb lv := fun b hb hm => by
      have := hge b hb
      have := (SlLt.vb_iff.1 hN.pls.own.lt) b hm
      omega
    obtain ⟨v', m8, q1, q2⟩ := hN7.pls.app (e := ⟨x, .slice wa wn wc, rfl⟩) hwp7 hwv (by omega)
    rw [show (m6.set m4.next (some (.cells [.int .i64 x.unit, .int .i64 x.share, .int .i64 x.core, Value.slice wa wn wc] (some 4)))).next = m6.next from rfl] at q1
    simp only [peV, plV] at q1
    rw [q1, Got.some]
    try simp only [go_sem, Int.reduceBEq, Int.reduceBNe, Int.reduceNeg, reduceCtorEq, Nat.reduceEqDiff, Nat.reduceAdd, Nat.reduceLeDiff, Nat.reduceMul, Nat.reduceSub, Int.reduceToNat, Int.reduceLT, Int.reduceLE, load_w, load_a, store_b, idxS_b, set_blk, new_blk, set_next, new_next, len_s, ldW_c, ldA_c, stB_c, toArr_one, size_one, toList_toArr, size_toArr, List.length_cons, List.length_nil, List.getElem?_cons_zero, List.getElem?_cons_succ, Nat.zero_add, Nat.add_zero, s1]
    refine ⟨p.places.length - (i + 1), by omega, i + 1, l ++ [⟨x, .slice wa wn wc, rfl⟩], v', by omega, rfl, rfl, ?_, q2, ?_⟩
    · rw [htk, List.map_append, hmp]; rfl
    · intro e he b hb
      rcases List.mem_append.1 he with he | he
      · exact hN.new e he b hb
      · rw [List.mem_singleton.1 he] at hb
        have := hge b hb; omega
  · have hil : i = p.places.length := by omega
    subst hil
    rw [List.take_length] at hmp
    have hlo := hN.pls.own.sl.one
    have hls : ∃ a n c, lv = .slice a n c := by cases hN.pls.own <;> exact ⟨_, _, _, rfl⟩
    obtain ⟨wa, wn, wc, rfl⟩ := hls
    have hne : (m.next = m1.next) = False := hbn
    have hne2 : (m1.next = m.next) = False := eq_false (by omega)
    try simp only [go_sem, Int.reduceBEq, Int.reduceBNe, Int.reduceNeg, reduceCtorEq, Nat.reduceEqDiff, Nat.reduceAdd, Nat.reduceLeDiff, Nat.reduceMul, Nat.reduceSub, Int.reduceToNat, Int.reduceLT, Int.reduceLE, load_w, load_a, store_b, idxS_b, set_blk, new_blk, set_next, new_next, len_s, ldW_c, ldA_c, stB_c, toArr_one, size_one, toList_toArr, size_toArr, List.length_cons, List.length_nil, List.getElem?_cons_zero, List.getElem?_cons_succ, Nat.zero_add, Nat.add_zero, h1', hb14.at_, hlo, hb24.at_, hne, hne2]
    have hX := (hx1.trans hx2)
    have hge := hN.pls.own.ge
    have hNw := hN.weak hX
    have hU : ∀ {m'}, Upd m4 m' [m.next, m1.next] → NewPls m m' l (.slice wa wn wc) := fun hU => ⟨hNw.pls.updq hU (fun b hb => by have := hge b hb; simp; omega) (fun e he b hb => by have := hN.new e he b hb; simp; omega) (by simp; omega), hNw.new⟩
    exact ⟨l, _, rfl, hmp, hU ((Upd.set (fp := [m.next, m1.next]) (by simp)).trans (Upd.set (fp := [m.next, m1.next]) (by simp)) (fun _ h => h) (fun _ h => .inl h))⟩
end Go.Am


/- PlanZ2 over the table of stage (relayset.py). -/
set_option linter.unusedVariables false
set_option linter.unusedSimpArgs false
namespace Go.Am
open Classical
variable {m : Mem}

theorem insert_upd {u by_ : Nat} {m m' : Mem} {v v' : Value} {i : Int} {q : Nat} (h : X.insert u by_ [v, .int .i64 i, .slice (some ⟨q, 0, none⟩) 1 1] m = some (v', m')) :
    Upd m m' (vb v) ∧ (vb v' = vb v ∨ ∃ k, vb v' = [k] ∧ m.next ≤ k) := by
  have key : ∀ x, aApp none u by_ m v x = some (v', m') → Upd m m' (vb v) ∧ (vb v' = vb v ∨ ∃ k, vb v' = [k] ∧ m.next ≤ k) := fun x hx => by
    obtain ⟨a1, a2, a3⟩ := app_updA (M := m.next) hx (fun k hk => by cases hk) (Nat.le_refl _)
    exact ⟨⟨a1, a2⟩, a3⟩
  unfold X.insert at h
  split at h
  · rename_i e
    simp only [List.cons.injEq] at e
    obtain ⟨rfl, -, -⟩ := e
    split at h
    · exact key _ h
    · cases h
  · rename_i e
    simp only [List.cons.injEq] at e
    obtain ⟨rfl, -, -⟩ := e
    split at h
    · exact key _ h
    · split at h
      · split at h
        · cases h
          exact ⟨(Upd.set (by simp [vb])).new_of, .inr ⟨_, rfl, Nat.le_refl _⟩⟩
        · cases h
      · cases h
  · cases h

theorem NewPls.ins {m0 m : Mem} {l : List PE} {v : Value} {e : PE} {q i : Nat} (h : NewPls m0 m l v) (hq : Bk m q (peV e) 4) (hqv : q ∉ vb v) (hp : PcV m e.pl.pieces e.pv) (ho : ∀ b ∈ vb e.pv, b ∉ vb v ∧ m0.next ≤ b) (hl : l.length < 100000) (hi : i ≤ l.length) :
    ∃ v' m', X.insert 4 48 [v, .int .i64 i, .slice (some ⟨q, 0, none⟩) 1 1] m = some (v', m') ∧ NewPls m0 m' (l.take i ++ e :: l.drop i) v' ∧ Upd m m' (vb v) ∧ (vb v' = vb v ∨ ∃ k, vb v' = [k] ∧ m.next ≤ k) := by
  obtain ⟨v', m', e1, e2, e3⟩ := insert_own (u := 4) (by_ := 48) (i := i) h.pls.own h.pls.ext hq hqv rfl (peV_one e) (by omega) (by omega) (by omega) (by omega) hi
  obtain ⟨u1, u2⟩ := insert_upd e1
  have key : ∀ pc pv, PcV m pc pv → (∀ b ∈ vb pv, b ∉ vb v) → PcV m' pc pv ∧ ∀ b ∈ vb pv, b ∉ vb v' := fun pc pv h1 h2 => by
    have hlt := SlLt.vb_iff.1 h1.2
    refine ⟨h1.upd u1 h2, fun b hb hm => ?_⟩
    rcases u2 with e | ⟨k, e, hk⟩
    · rw [e] at hm; exact h2 b hb hm
    · rw [e] at hm
      simp at hm
      have := hlt b hb
      omega
  refine ⟨v', m', e1, ⟨⟨?_, fun x hx' => ?_, e3⟩, fun x hx' => ?_⟩, u1, u2⟩
  · rw [insRow_flat peV_len hi] at e2
    have : (l.take i ++ e :: l.drop i).length = l.length + 1 := by simp; omega
    rw [this]; exact e2
  · rcases List.mem_append.1 hx' with hx' | hx'
    · exact key _ _ (h.pls.el x (List.mem_of_mem_take hx')).1 (h.pls.el x (List.mem_of_mem_take hx')).2
    · rcases List.mem_cons.1 hx' with rfl | hx'
      · exact key _ _ hp fun b hb => (ho b hb).1
      · exact key _ _ (h.pls.el x (List.mem_of_mem_drop hx')).1 (h.pls.el x (List.mem_of_mem_drop hx')).2
  · rcases List.mem_append.1 hx' with hx' | hx'
    · exact h.new x (List.mem_of_mem_take hx')
    · rcases List.mem_cons.1 hx' with rfl | hx'
      · exact fun b hb => (ho b hb).2
      · exact h.new x (List.mem_of_mem_drop hx')

theorem del_spec {m0 : Mem} {l : List PE} {v : Value} {i : Nat} (h : NewPls m0 m l v) (hl : l.length < 100000) (hi : i < l.length) :
    WC R F.slices_Delete_api_Place_api_Place [v, .int .i64 i, .int .i64 (i + 1 : Nat)] m fun r m' => NewPls m0 m' (l.eraseIdx i) r ∧ Upd m m' (vb v) ∧ vb r = vb v := by
  refine WC.mono (pl_Delete1 peV_len peV_one h.pls.own h.pls.ext hl hi) ?_
  rintro r m' ⟨h1, h2, h3, h4⟩
  refine ⟨⟨⟨h1, fun e he => ?_, h2⟩, fun e he => h.new e (List.mem_of_mem_eraseIdx he)⟩, h4, h3⟩
  have := h.pls.el e (List.mem_of_mem_eraseIdx he)
  exact ⟨this.1.upd h4 this.2, by rw [h3]; exact this.2⟩

theorem map_eraseIdx' {α β : Type} {f : α → β} : ∀ {l : List α} {k : Nat}, (l.eraseIdx k).map f = (l.map f).eraseIdx k
  | [], _ => rfl
  | _ :: _, 0 => rfl
  | a :: l, k + 1 => by simp only [List.eraseIdx_cons_succ, List.map_cons, map_eraseIdx']

def dropU (l : List Pl) (u : Int) : List Pl := l.filter fun x => decide (x.unit ≠ u)
theorem dropU_not {l : List Pl} {u : Int} (h : ∀ k (hk : k < l.length), l[k].unit ≠ u) : dropU l u = l := by
  unfold dropU
  rw [List.filter_eq_self]
  intro x hx
  obtain ⟨k, hk, rfl⟩ := List.getElem_of_mem hx
  exact decide_eq_true (h k hk)
theorem dropU_at {l : List Pl} {u : Int} {k : Nat} (ha : Asc l) (hk : k < l.length) (hu : l[k].unit = u) : dropU l u = l.eraseIdx k := by
  have e0 : l = l.take k ++ l[k] :: l.drop (k + 1) := by rw [← List.drop_eq_getElem_cons hk, List.take_append_drop]
  unfold dropU
  rw [List.eraseIdx_eq_take_drop_succ]
  conv => lhs; rw [e0]
  rw [List.filter_append, List.filter_cons, if_neg (by simp [hu]), List.filter_eq_self.2, List.filter_eq_self.2]
  · intro x hx
    obtain ⟨t, ht, rfl⟩ := List.getElem_of_mem hx
    rw [List.getElem_drop]
    rw [List.length_drop] at ht
    have := ha k (k + 1 + t) (by omega) (by omega)
    exact decide_eq_true (by omega)
  · intro x hx
    obtain ⟨t, ht, rfl⟩ := List.getElem_of_mem hx
    rw [List.getElem_take]
    rw [List.length_take] at ht
    have := ha t k (by omega) hk
    exact decide_eq_true (by omega)
theorem Asc.filter {l : List Pl} (h : Asc l) (f : Pl → Bool) : Asc (l.filter f) := by
  have hp : l.Pairwise fun a b => a.unit < b.unit := List.pairwise_iff_getElem.2 fun i j hi hj hij => h i j hij hj
  intro i j hij hj
  exact List.pairwise_iff_getElem.1 (hp.filter f) i j (by omega) hj hij

/-- Stores into boxes leave a row of new blocks. -/
theorem NewPls.box {m0 m m' : Mem} {l : List PE} {v : Value} {fp : List Nat} (h : NewPls m0 m l v) (hx : Upd m m' fp) (h1 : ∀ x ∈ fp, m0.next ≤ x) (h2 : ∀ x ∈ fp, x ∉ vb v) (h3 : ∀ x ∈ fp, ∀ e ∈ l, x ∉ vb e.pv) : NewPls m0 m' l v :=
  ⟨h.pls.updq hx (fun b hb hf => h2 b hf hb) (fun e he b hb hf => h3 b hf e he hb) h1, h.new⟩
/-- Blocks below it, or behind what it was told at. -/
theorem NewPls.out {m0 m : Mem} {l : List PE} {v : Value} (h : NewPls m0 m l v) {x : Nat} (hx : x < m0.next ∨ m.next ≤ x) : x ∉ vb v ∧ ∀ e ∈ l, x ∉ vb e.pv := by
  refine ⟨fun hb => ?_, fun e he hb => ?_⟩
  · have := h.pls.own.ge x hb
    have := (SlLt.vb_iff.1 h.pls.own.lt) x hb
    omega
  · have := h.new e he x hb
    have := (SlLt.vb_iff.1 (h.pls.el e he).1.2) x hb
    omega

theorem plan_of {p : PlanD} {l : List PE} {m0 m : Mem} {lv : Value} (h : NewPls m0 m l lv) : PlanV m ⟨p.frame, p.cores, l.map PE.pl⟩ (.agg #[.int .i64 p.frame, u32 p.cores, lv]) := ⟨lv, rfl, h.pls.pls⟩
theorem slice_of {m0 m : Mem} {u n : Nat} {cs : List Value} {v : Value} (h : Own m0 m u n cs v) : ∃ a n c, v = .slice a n c := by cases h <;> exact ⟨_, _, _, rfl⟩

set_option maxHeartbeats 4000000 in
theorem Drop_spec {p : PlanD} {v : Value} {u : Int} (hv : PlanV m p v) (hl : PlanL p) (hl2 : p.places.length < 100000) (ha : Asc p.places) :
    WC R F.plan_Drop [v, .int .i64 u] m fun r m' => ∃ (l : List PE) (lv : Value), r = .agg (planV p lv).toArray ∧ l.map PE.pl = dropU p.places u ∧ NewPls m m' l lv := by
  refine WC.of R.plan_Drop rfl ?_
  obtain ⟨pv, rfl, hp⟩ := hv
  simp only [RC.plan_Drop, planV, go_sem, Int.reduceBEq, Int.reduceBNe, Int.reduceNeg, reduceCtorEq, Nat.reduceEqDiff, Nat.reduceAdd, Nat.reduceLeDiff, Nat.reduceMul, Nat.reduceSub, Int.reduceToNat, Int.reduceLT, Int.reduceLE, hp.one]
  have hx1 : Ext m (m.new (.cells [.int .i64 p.frame, u32 p.cores, pv] (some 3))) := Ext.new
  have hb1 : Bk (m.new (.cells [.int .i64 p.frame, u32 p.cores, pv] (some 3))) m.next [.int .i64 p.frame, u32 p.cores, pv] 3 := Bk.new
  generalize m.new (.cells [.int .i64 p.frame, u32 p.cores, pv] (some 3)) = m1 at hx1 hb1 ⊢
  have hbn := hb1.ne
  try simp only [go_sem, Int.reduceBEq, Int.reduceBNe, Int.reduceNeg, reduceCtorEq, Nat.reduceEqDiff, Nat.reduceAdd, Nat.reduceLeDiff, Nat.reduceMul, Nat.reduceSub, Int.reduceToNat, Int.reduceLT, Int.reduceLE, load_w, load_a, store_b, idxS_b, set_blk, new_blk, set_next, new_next, len_s, ldW_c, ldA_c, stB_c, toArr_one, size_one, toList_toArr, size_toArr, List.length_cons, List.length_nil, List.getElem?_cons_zero, List.getElem?_cons_succ, Nat.zero_add, Nat.add_zero, hb1.at_, hbn]
  have hx2 : Ext m1 (m1.new (.cells [.int .i64 0, u32 0#32, .slice none 0 0] (some 3))) := Ext.new
  have hb2 : Bk (m1.new (.cells [.int .i64 0, u32 0#32, .slice none 0 0] (some 3))) m1.next [.int .i64 0, u32 0#32, .slice none 0 0] 3 := Bk.new
  generalize m1.new (.cells [.int .i64 0, u32 0#32, .slice none 0 0] (some 3)) = m2 at hx2 hb2 ⊢
  have hb12 := hb1.keep hx2
  have hp2 := (hp.keep hx1).keep hx2
  try simp only [go_sem, Int.reduceBEq, Int.reduceBNe, Int.reduceNeg, reduceCtorEq, Nat.reduceEqDiff, Nat.reduceAdd, Nat.reduceLeDiff, Nat.reduceMul, Nat.reduceSub, Int.reduceToNat, Int.reduceLT, Int.reduceLE, load_w, load_a, store_b, idxS_b, set_blk, new_blk, set_next, new_next, len_s, ldW_c, ldA_c, stB_c, toArr_one, size_one, toList_toArr, size_toArr, List.length_cons, List.length_nil, List.getElem?_cons_zero, List.getElem?_cons_succ, Nat.zero_add, Nat.add_zero, hb12.at_]
  refine gC.of (clone_spec (p := p) ⟨pv, rfl, hp2⟩ hl) ?_
  rintro _ m3 ⟨l, lv, rfl, hmp, hN⟩
  have hlo := hN.pls.own.sl.one
  obtain ⟨wa, wn, wc, rfl⟩ := slice_of hN.pls.own
  simp only [planV]
  try simp only [go_sem, Int.reduceBEq, Int.reduceBNe, Int.reduceNeg, reduceCtorEq, Nat.reduceEqDiff, Nat.reduceAdd, Nat.reduceLeDiff, Nat.reduceMul, Nat.reduceSub, Int.reduceToNat, Int.reduceLT, Int.reduceLE, load_w, load_a, store_b, idxS_b, set_blk, new_blk, set_next, new_next, len_s, ldW_c, ldA_c, stB_c, toArr_one, size_one, toList_toArr, size_toArr, List.length_cons, List.length_nil, List.getElem?_cons_zero, List.getElem?_cons_succ, Nat.zero_add, Nat.add_zero, hlo]
  have hx4 : Ext m3 (m3.new (.cells [.int .i64 p.frame, u32 p.cores, .slice wa wn wc] (some 3))) := Ext.new
  have hb4 : Bk (m3.new (.cells [.int .i64 p.frame, u32 p.cores, .slice wa wn wc] (some 3))) m3.next [.int .i64 p.frame, u32 p.cores, .slice wa wn wc] 3 := Bk.new
  generalize m3.new (.cells [.int .i64 p.frame, u32 p.cores, .slice wa wn wc] (some 3)) = m4 at hx4 hb4 ⊢
  have hN4 := hN.keep hx4
  have hx34 := hN.pls.ext
  have hr := (hb2.keep hx34).keep hx4
  try simp only [go_sem, Int.reduceBEq, Int.reduceBNe, Int.reduceNeg, reduceCtorEq, Nat.reduceEqDiff, Nat.reduceAdd, Nat.reduceLeDiff, Nat.reduceMul, Nat.reduceSub, Int.reduceToNat, Int.reduceLT, Int.reduceLE, load_w, load_a, store_b, idxS_b, set_blk, new_blk, set_next, new_next, len_s, ldW_c, ldA_c, stB_c, toArr_one, size_one, toList_toArr, size_toArr, List.length_cons, List.length_nil, List.getElem?_cons_zero, List.getElem?_cons_succ, Nat.zero_add, Nat.add_zero, hb4.at_]
  have hlen : l.length = p.places.length := by rw [← hmp, List.length_map]
  have hP := plan_of (p := p) hN4
  rw [hmp] at hP
  refine gC.of (find_spec (u := u) hP hl.len ha) ?_
  rintro _ m5 ⟨k, ⟨hk1, hk2, hk3⟩, rfl, hx5⟩
  replace hk1 : k ≤ p.places.length := hk1
  replace hk2 : ∀ t (h : t < p.places.length), t < k → p.places[t].unit < u := hk2
  replace hk3 : ∀ t (h : t < p.places.length), k ≤ t → u ≤ p.places[t].unit := hk3
  have hN5 := hN4.keep hx5
  have hb5 := hb4.keep hx5
  have hr5 := hr.keep hx5
  have hnb : m.next + 1 ≤ m1.next ∧ m1.next + 1 ≤ m2.next ∧ m2.next ≤ m3.next ∧ m3.next + 1 ≤ m4.next ∧ m4.next ≤ m5.next := ⟨hb1.lt, hb2.lt, hx34.next, hb4.lt, hx5.next⟩
  have s1 := step1 (show k < 1000000 by omega)
  have hout := hN.out (x := m3.next) (.inr (Nat.le_refl _))
  have hout1 := hN.out (x := m1.next) (.inl (by omega))
  have hX := hx1.trans hx2
  try simp only [go_sem, Int.reduceBEq, Int.reduceBNe, Int.reduceNeg, reduceCtorEq, Nat.reduceEqDiff, Nat.reduceAdd, Nat.reduceLeDiff, Nat.reduceMul, Nat.reduceSub, Int.reduceToNat, Int.reduceLT, Int.reduceLE, load_w, load_a, store_b, idxS_b, set_blk, new_blk, set_next, new_next, len_s, ldW_c, ldA_c, stB_c, toArr_one, size_one, toList_toArr, size_toArr, List.length_cons, List.length_nil, List.getElem?_cons_zero, List.getElem?_cons_succ, Nat.zero_add, Nat.add_zero, aExt0, aExt1]
  refine gT.of (fun h1' => ?_) (fun h1' => ?_) <;> (have h1 := h1'; try simp only [decide_eq_true_eq, decide_eq_false_iff_not, beq_iff_eq, bne_iff_ne, beq_eq_false_iff_ne, ne_eq, Bool.not_eq_true', Bool.not_eq_false', bne_eq_false_iff_eq, Int.not_lt, Int.not_le] at h1)
  · obtain ⟨hkl, hku⟩ : isAt p.places u k := by simpa using h1'
    have hd := dropU_at ha hkl hku
    try simp only [go_sem, Int.reduceBEq, Int.reduceBNe, Int.reduceNeg, reduceCtorEq, Nat.reduceEqDiff, Nat.reduceAdd, Nat.reduceLeDiff, Nat.reduceMul, Nat.reduceSub, Int.reduceToNat, Int.reduceLT, Int.reduceLE, load_w, load_a, store_b, idxS_b, set_blk, new_blk, set_next, new_next, len_s, ldW_c, ldA_c, stB_c, toArr_one, size_one, toList_toArr, size_toArr, List.length_cons, List.length_nil, List.getElem?_cons_zero, List.getElem?_cons_succ, Nat.zero_add, Nat.add_zero, h1', hb5.at_, s1]
    refine gC.of (del_spec (i := k) hN5 (by omega) (by omega)) ?_
    rintro rv m6 ⟨hN6, hU6, hvb⟩
    obtain ⟨xa, xn, xc, rfl⟩ := slice_of hN6.pls.own
    have hb6 := hb5.upd hU6 hout.1
    have hr6 := hr5.upd hU6 hout1.1
    have hne : (m3.next = m1.next) = False := eq_false (by omega)
    have hne2 : (m1.next = m3.next) = False := eq_false (by omega)
    have hlo6 := hN6.pls.own.sl.one
    try simp only [go_sem, Int.reduceBEq, Int.reduceBNe, Int.reduceNeg, reduceCtorEq, Nat.reduceEqDiff, Nat.reduceAdd, Nat.reduceLeDiff, Nat.reduceMul, Nat.reduceSub, Int.reduceToNat, Int.reduceLT, Int.reduceLE, load_w, load_a, store_b, idxS_b, set_blk, new_blk, set_next, new_next, len_s, ldW_c, ldA_c, stB_c, toArr_one, size_one, toList_toArr, size_toArr, List.length_cons, List.length_nil, List.getElem?_cons_zero, List.getElem?_cons_succ, Nat.zero_add, Nat.add_zero, hb6.at_, hlo6, hr6.at_, hne, hne2]
    refine ⟨l.eraseIdx k, _, rfl, ?_, ?_⟩
    · rw [hd, ← hmp, map_eraseIdx']
    · refine (hN6.weak hX).box (fp := [m3.next, m1.next]) ((Upd.set (fp := [m3.next, m1.next]) (by simp)).trans (Upd.set (fp := [m3.next, m1.next]) (by simp)) (fun _ h => h) (fun _ h => .inl h)) (by simp; omega) ?_ ?_
      · rw [hvb]; simp; exact ⟨hout.1, hout1.1⟩
      · intro x hx e he
        have he := List.mem_of_mem_eraseIdx he
        simp at hx
        rcases hx with rfl | rfl
        · exact hout.2 e he
        · exact hout1.2 e he
  · have hno : ¬ isAt p.places u k := by simpa using h1'
    have hd : dropU p.places u = p.places := dropU_not fun t ht e => by
      have : t = k := by
        rcases Nat.lt_trichotomy t k with g | g | g
        · have := hk2 t ht g; omega
        · exact g
        · have h1 := hk3 k (by omega) (Nat.le_refl _)
          have := ha k t g ht
          omega
      subst this; exact hno ⟨ht, e⟩
    try simp only [go_sem, Int.reduceBEq, Int.reduceBNe, Int.reduceNeg, reduceCtorEq, Nat.reduceEqDiff, Nat.reduceAdd, Nat.reduceLeDiff, Nat.reduceMul, Nat.reduceSub, Int.reduceToNat, Int.reduceLT, Int.reduceLE, load_w, load_a, store_b, idxS_b, set_blk, new_blk, set_next, new_next, len_s, ldW_c, ldA_c, stB_c, toArr_one, size_one, toList_toArr, size_toArr, List.length_cons, List.length_nil, List.getElem?_cons_zero, List.getElem?_cons_succ, Nat.zero_add, Nat.add_zero, h1', hb5.at_, hr5.at_]
    refine ⟨l, _, rfl, by rw [hd, hmp], ?_⟩
    refine (hN5.weak hX).box (fp := [m1.next]) (Upd.set (by simp)) (by simp; omega) (by simpa using hout1.1) ?_
    intro x hx e he
    simp at hx; subst hx
    exact hout1.2 e he
end Go.Am


/- Maps whose keys are whole numbers. -/
set_option linter.unusedVariables false
namespace Go.Am
variable {α : Type}

def mpL (e : α → Value) (L : List (Int × α)) : List (Value × Value) := L.map fun p => (.int .i64 p.1, e p.2)
def lkp : List (Int × α) → Int → Option α
  | [], _ => none
  | (k, a) :: r, x => if k = x then some a else lkp r x
def updL : List (Int × α) → Int → α → List (Int × α)
  | [], x, a => [(x, a)]
  | (k, b) :: r, x, a => if k = x then (x, a) :: r else (k, b) :: updL r x a
def delL : List (Int × α) → Int → List (Int × α)
  | [], _ => []
  | (k, b) :: r, x => if k = x then r else (k, b) :: delL r x

theorem lkp_upd {L : List (Int × α)} {x y : Int} {a : α} : lkp (updL L x a) y = if y = x then some a else lkp L y := by
  induction L with
  | nil => simp only [updL, lkp]; by_cases h : x = y <;> simp [h]; intro e; exact absurd e.symm h
  | cons p r ih =>
    obtain ⟨k, b⟩ := p
    simp only [updL]
    by_cases h : k = x
    · subst h
      simp only [if_true, lkp]
      by_cases g : k = y
      · subst g; simp
      · rw [if_neg g, if_neg (fun e => g e.symm), if_neg g]
    · simp only [h, if_false, lkp]
      by_cases g : k = y
      · subst g; rw [if_pos rfl, if_neg h, if_pos rfl]
      · rw [if_neg g, ih, if_neg g]

theorem findK_mp {e : α → Value} {x : Int} : ∀ (L : List (Int × α)) (i : Nat), (lkp L x = none → findK .int (.int .i64 x) (mpL e L) i = some none ∧ ∀ a, mpL e L ++ [(.int .i64 x, e a)] = mpL e (updL L x a)) ∧
    ∀ a, lkp L x = some a → ∃ j, findK .int (.int .i64 x) (mpL e L) i = some (some (i + j, e a)) ∧ (∀ b, (mpL e L).set j (.int .i64 x, e b) = mpL e (updL L x b)) ∧ (mpL e L).eraseIdx j = mpL e (delL L x)
  | [], i => ⟨fun _ => ⟨rfl, fun a => rfl⟩, fun a h => by simp [lkp] at h⟩
  | (k, b) :: r, i => by
    by_cases h : k = x
    · subst h
      refine ⟨fun h => by simp [lkp] at h, fun a ha => ?_⟩
      simp only [lkp, if_true, Option.some.injEq] at ha
      subst ha
      refine ⟨0, ?_, fun b => ?_, ?_⟩
      · simp [mpL, findK, keyEq]
      · simp [mpL, updL]
      · simp [mpL, delL]
    · have hk : keyEq .int (.int .i64 x) (.int .i64 k) = some false := by simp [keyEq]; exact fun e => h e.symm
      have hf : findK .int (.int .i64 x) (mpL e ((k, b) :: r)) i = findK .int (.int .i64 x) (mpL e r) (i + 1) := by
        show (match keyEq .int (.int .i64 x) (.int .i64 k) with | some true => _ | some false => _ | none => _) = _
        rw [hk]; rfl
      obtain ⟨h1, h2⟩ := findK_mp (e := e) r (i + 1)
      refine ⟨fun hn => ?_, fun a ha => ?_⟩
      · simp only [lkp, h, if_false] at hn
        obtain ⟨g1, g2⟩ := h1 hn
        refine ⟨by rw [hf, g1], fun a => ?_⟩
        simp only [updL, h, if_false]
        show (.int .i64 k, e b) :: (mpL e r ++ _) = _
        rw [g2]; rfl
      · simp only [lkp, h, if_false] at ha
        obtain ⟨j, g1, g2, g3⟩ := h2 a ha
        refine ⟨j + 1, by rw [hf, g1]; congr 3; omega, fun c => ?_, ?_⟩
        · simp only [updL, h, if_false]
          show (.int .i64 k, e b) :: ((mpL e r).set j _) = _
          rw [g2]; rfl
        · simp only [delL, h, if_false]
          show (.int .i64 k, e b) :: ((mpL e r).eraseIdx j) = _
          rw [g3]; rfl

/-- A map that is there. -/
structure Mp (m : Mem) (r : Nat) (e : α → Value) (L : List (Int × α)) : Prop where
  at_ : m.blk r = some (.map (mpL e L))
  lt : r < m.next
theorem Mp.new {m : Mem} {e : α → Value} : Mp (m.new (.map [])) m.next e [] := ⟨by simp [Mem.new, mpL], by simp [Mem.new]⟩
theorem Mp.keep {m m' : Mem} {r : Nat} {e : α → Value} {L : List (Int × α)} (h : Mp m r e L) (hx : Ext m m') : Mp m' r e L := ⟨by rw [hx.same _ h.lt]; exact h.at_, Nat.lt_of_lt_of_le h.lt hx.next⟩
theorem Mp.upd {m m' : Mem} {r : Nat} {e : α → Value} {L : List (Int × α)} {fp : List Nat} (h : Mp m r e L) (hx : Upd m m' fp) (hn : r ∉ fp) : Mp m' r e L := ⟨by rw [hx.same _ h.lt hn]; exact h.at_, Nat.lt_of_lt_of_le h.lt hx.next⟩
theorem Mp.other {m : Mem} {r b : Nat} {e : α → Value} {L : List (Int × α)} {o : Option AObj} (h : Mp m r e L) (hn : r ≠ b) : Mp (m.set b o) r e L := ⟨by simp [Mem.set, hn]; exact h.at_, h.lt⟩
theorem Mp.self {m : Mem} {r : Nat} {e : α → Value} {L L' : List (Int × α)} (h : Mp m r e L) : Mp (m.set r (some (.map (mpL e L')))) r e L' := ⟨by simp [Mem.set], h.lt⟩

theorem Mp.look {m : Mem} {r : Nat} {e : α → Value} {L : List (Int × α)} (h : Mp m r e L) {x : Int} {z : α} : aLook .int (e z) false m (.map (some r)) (.int .i64 x) = some (e ((lkp L x).getD z)) := by
  simp only [aLook, h.at_, Option.bind_some]
  obtain ⟨h1, h2⟩ := findK_mp (e := e) (x := x) L 0
  cases hl : lkp L x with
  | none => rw [(h1 hl).1]; rfl
  | some a =>
    obtain ⟨j, g, -⟩ := h2 a hl
    rw [g]; rfl
theorem Mp.look_ok {m : Mem} {r : Nat} {e : α → Value} {L : List (Int × α)} (h : Mp m r e L) {x : Int} {z : α} : aLook .int (e z) true m (.map (some r)) (.int .i64 x) = some (.tuple #[e ((lkp L x).getD z), .bool (lkp L x).isSome]) := by
  simp only [aLook, h.at_, Option.bind_some]
  obtain ⟨h1, h2⟩ := findK_mp (e := e) (x := x) L 0
  cases hl : lkp L x with
  | none => rw [(h1 hl).1]; rfl
  | some a =>
    obtain ⟨j, g, -⟩ := h2 a hl
    rw [g]; rfl
theorem Mp.put {m : Mem} {r : Nat} {e : α → Value} {L : List (Int × α)} (h : Mp m r e L) {x : Int} {a : α} : aUpd .int m (.map (some r)) (.int .i64 x) (e a) = some (m.set r (some (.map (mpL e (updL L x a))))) := by
  simp only [aUpd, h.at_]
  obtain ⟨h1, h2⟩ := findK_mp (e := e) (x := x) L 0
  cases hl : lkp L x with
  | none => rw [(h1 hl).1]; simp only [Option.map_some]; rw [(h1 hl).2]
  | some b =>
    obtain ⟨j, g, g2, -⟩ := h2 b hl
    rw [g]; simp only [Option.map_some, Nat.zero_add]; rw [g2]
theorem Mp.del {m : Mem} {r : Nat} {e : α → Value} {L : List (Int × α)} (h : Mp m r e L) {x : Int} : ∃ L', L' = (if (lkp L x).isSome then delL L x else L) ∧ ∃ m', aDel .int m (.map (some r)) (.int .i64 x) = some m' ∧ Mp m' r e L' ∧ Upd m m' [r] := by
  refine ⟨_, rfl, ?_⟩
  simp only [aDel, h.at_]
  obtain ⟨h1, h2⟩ := findK_mp (e := e) (x := x) L 0
  cases hl : lkp L x with
  | none => rw [(h1 hl).1]; exact ⟨m, rfl, h, Upd.refl _ _⟩
  | some b =>
    obtain ⟨j, g, -, g3⟩ := h2 b hl
    rw [g]; simp only [Option.map_some, Nat.zero_add]
    rw [g3]
    exact ⟨_, rfl, h.self, Upd.set (by simp)⟩

abbrev vI (n : Int) : Value := .int .i64 n
abbrev vB (b : Bool) : Value := .bool b
end Go.Am


/- Diff: the places of a plan by unit; the units in order. -/
set_option linter.unusedVariables false
set_option linter.unusedSimpArgs false
namespace Go.Am
open Classical
variable {m : Mem}

def eP (e : PE) : Value := .agg (peV e).toArray
def unitE (e : PE) : Int := e.pl.unit
def asMap (l : List PE) : List (Int × PE) := l.map fun e => (unitE e, e)
theorem updL_new {α : Type} {L : List (Int × α)} {x : Int} {a : α} (h : ∀ p ∈ L, p.1 ≠ x) : updL L x a = L ++ [(x, a)] := by
  induction L with
  | nil => rfl
  | cons p r ih =>
    obtain ⟨k, b⟩ := p
    simp only [updL]
    rw [if_neg (h (k, b) (by simp)), ih fun q hq => h q (by simp [hq])]; rfl
theorem asMap_succ {l : List PE} {i : Nat} (hi : i < l.length) (hn : (l.map unitE).Nodup) : updL (asMap (l.take i)) (unitE l[i]) l[i] = asMap (l.take (i + 1)) := by
  rw [updL_new]
  · unfold asMap
    rw [List.take_succ_eq_append_getElem hi, List.map_append]; rfl
  · intro p hp
    unfold asMap at hp
    obtain ⟨e, he, rfl⟩ := List.mem_map.1 hp
    obtain ⟨t, ht, rfl⟩ := List.getElem_of_mem he
    rw [List.getElem_take]
    rw [List.length_take] at ht
    intro e
    have := (List.nodup_iff_pairwise_ne.1 hn)
    rw [List.pairwise_iff_getElem] at this
    exact this t i (by simp; omega) (by simpa using hi) (by omega) (by simpa using e)

/-- A row of places as it lies (kept from plan's texts). -/
structure RowS (m : Mem) (l : List PE) (v : Value) : Prop where
  sl : Sl m 4 l.length (l.flatMap peV) v
  lt : SlLt m v
theorem RowS.keep {m m' : Mem} {l : List PE} {v : Value} (h : RowS m l v) (hx : Ext m m') : RowS m' l v := ⟨h.sl.keep h.lt hx, h.lt.keep hx⟩

set_option maxHeartbeats 4000000 in
theorem places_spec {l : List PE} {f : Int} {c : BitVec 32} {pv : Value} (hs : RowS m l pv) (hl : l.length < 1000000) (hn : (l.map unitE).Nodup) :
    WC R F.diff_places [.agg #[.int .i64 f, u32 c, pv]] m fun r m' => ∃ q, r = .map (some q) ∧ Mp m' q eP (asMap l) ∧ m.next ≤ q ∧ Ext m m' := by
  refine WC.of R.diff_places rfl ?_
  simp only [RC.diff_places, go_sem, Int.reduceBEq, Int.reduceBNe, Int.reduceNeg, reduceCtorEq, Nat.reduceEqDiff, Nat.reduceAdd, Nat.reduceLeDiff, Nat.reduceMul, Nat.reduceSub, Int.reduceToNat, Int.reduceLT, Int.reduceLE, hs.sl.one]
  have hx1 : Ext m (m.new (.cells [.int .i64 f, u32 c, pv] (some 3))) := Ext.new
  have hb1 : Bk (m.new (.cells [.int .i64 f, u32 c, pv] (some 3))) m.next [.int .i64 f, u32 c, pv] 3 := Bk.new
  generalize m.new (.cells [.int .i64 f, u32 c, pv] (some 3)) = m1 at hx1 hb1 ⊢
  have hs1 := hs.keep hx1
  have hbn := hb1.ne
  try simp only [go_sem, Int.reduceBEq, Int.reduceBNe, Int.reduceNeg, reduceCtorEq, Nat.reduceEqDiff, Nat.reduceAdd, Nat.reduceLeDiff, Nat.reduceMul, Nat.reduceSub, Int.reduceToNat, Int.reduceLT, Int.reduceLE, load_w, load_a, store_b, idxS_b, set_blk, new_blk, set_next, new_next, len_s, ldW_c, ldA_c, stB_c, toArr_one, size_one, toList_toArr, size_toArr, List.length_cons, List.length_nil, List.getElem?_cons_zero, List.getElem?_cons_succ, Nat.zero_add, Nat.add_zero, hbn, hb1.at_, hs1.sl.len]
  have hM : Mp (m1.new (.map [])) m1.next eP (asMap ([] : List PE)) := Mp.new
  have hx2 : Ext m1 (m1.new (.map [])) := Ext.new
  generalize m1.new (.map []) = m2 at hM hx2 ⊢
  refine WL.of (fun n e m' => ∃ i : Nat, i ≤ l.length ∧ n = l.length - i ∧ e = [(3, .map (some m1.next)), (8, pv), (9, .int .i64 l.length), (10, .int .i64 i)] ∧ Mp m' m1.next eP (asMap (l.take i)) ∧ Ext m1 m') l.length
    ⟨0, by omega, by omega, by simp only [go_sem, Int.reduceBEq, Int.reduceBNe, Int.reduceNeg, reduceCtorEq, Nat.reduceEqDiff, Nat.reduceAdd, Nat.reduceLeDiff, Nat.reduceMul, Nat.reduceSub, Int.reduceToNat, Int.reduceLT, Int.reduceLE] <;> rfl, hM, hx2⟩ ?_
  rintro _ _ m3 ⟨i, hi, rfl, rfl, hM3, hx3⟩
  have hs3 := hs1.keep hx3
  simp only [RB.diff_places_1, go_sem, Int.reduceBEq, Int.reduceBNe, Int.reduceNeg, reduceCtorEq, Nat.reduceEqDiff, Nat.reduceAdd, Nat.reduceLeDiff, Nat.reduceMul, Nat.reduceSub, Int.reduceToNat, Int.reduceLT, Int.reduceLE]
  refine gT.of (fun h1' => ?_) (fun h1' => ?_) <;> (have h1 := h1'; try simp only [decide_eq_true_eq, decide_eq_false_iff_not, beq_iff_eq, bne_iff_ne, beq_eq_false_iff_ne, ne_eq, Bool.not_eq_true', Bool.not_eq_false', bne_eq_false_iff_eq, Int.not_lt, Int.not_le] at h1)
  · have hil : i < l.length := by omega
    obtain ⟨b, o, a1, a2, a3, a4⟩ := hs3.sl.elem peV_len (k := .i64) (i := i) hil
    have hsu := asMap_succ hil hn
    have s1 := step1 (show i < 1000000 by omega)
    have q1 := l[i].one
    generalize l[i] = x at *
    simp only [peV, plV] at a2
    try simp only [go_sem, Int.reduceBEq, Int.reduceBNe, Int.reduceNeg, reduceCtorEq, Nat.reduceEqDiff, Nat.reduceAdd, Nat.reduceLeDiff, Nat.reduceMul, Nat.reduceSub, Int.reduceToNat, Int.reduceLT, Int.reduceLE, load_w, load_a, store_b, idxS_b, set_blk, new_blk, set_next, new_next, len_s, ldW_c, ldA_c, stB_c, toArr_one, size_one, toList_toArr, size_toArr, List.length_cons, List.length_nil, List.getElem?_cons_zero, List.getElem?_cons_succ, Nat.zero_add, Nat.add_zero, h1', a1, a2, q1]
    have hx4 : Ext m3 (m3.new (.cells [.int .i64 x.pl.unit, .int .i64 x.pl.share, .int .i64 x.pl.core, x.pv] (some 4))) := Ext.new
    have hb4 : Bk (m3.new (.cells [.int .i64 x.pl.unit, .int .i64 x.pl.share, .int .i64 x.pl.core, x.pv] (some 4))) m3.next [.int .i64 x.pl.unit, .int .i64 x.pl.share, .int .i64 x.pl.core, x.pv] 4 := Bk.new
    generalize m3.new (.cells [.int .i64 x.pl.unit, .int .i64 x.pl.share, .int .i64 x.pl.core, x.pv] (some 4)) = m4 at hx4 hb4 ⊢
    have hM4 := hM3.keep hx4
    have hp := hM4.put (x := x.pl.unit) (a := x)
    simp only [eP, peV, plV] at hp
    try simp only [go_sem, Int.reduceBEq, Int.reduceBNe, Int.reduceNeg, reduceCtorEq, Nat.reduceEqDiff, Nat.reduceAdd, Nat.reduceLeDiff, Nat.reduceMul, Nat.reduceSub, Int.reduceToNat, Int.reduceLT, Int.reduceLE, load_w, load_a, store_b, idxS_b, set_blk, new_blk, set_next, new_next, len_s, ldW_c, ldA_c, stB_c, toArr_one, size_one, toList_toArr, size_toArr, List.length_cons, List.length_nil, List.getElem?_cons_zero, List.getElem?_cons_succ, Nat.zero_add, Nat.add_zero, hb4.at_, hp, s1]
    have hn1 := hx1.next
    refine ⟨l.length - (i + 1), by omega, i + 1, by omega, rfl, rfl, ?_, (hx3.trans hx4).set (Nat.le_refl _)⟩
    rw [← hsu]
    exact hM4.self
  · have hil : i = l.length := by omega
    subst hil
    rw [List.take_length] at hM3
    try simp only [go_sem, Int.reduceBEq, Int.reduceBNe, Int.reduceNeg, reduceCtorEq, Nat.reduceEqDiff, Nat.reduceAdd, Nat.reduceLeDiff, Nat.reduceMul, Nat.reduceSub, Int.reduceToNat, Int.reduceLT, Int.reduceLE, load_w, load_a, store_b, idxS_b, set_blk, new_blk, set_next, new_next, len_s, ldW_c, ldA_c, stB_c, toArr_one, size_one, toList_toArr, size_toArr, List.length_cons, List.length_nil, List.getElem?_cons_zero, List.getElem?_cons_succ, Nat.zero_add, Nat.add_zero, h1']
    exact ⟨_, rfl, hM3, hx1.next, hx1.trans hx3⟩
end Go.Am


/- Diff: a map's keys in order. -/
set_option linter.unusedVariables false
set_option linter.unusedSimpArgs false
namespace Go.Am
open Classical
variable {m : Mem}

theorem keyInts_asMap : ∀ {l : List PE}, (∀ e ∈ l, (Lit.int .i64 (unitE e)).wf = true) → keyInts (mpL eP (asMap l)) = some (l.map unitE)
  | [], _ => rfl
  | e :: l, h => by
    simp only [asMap, mpL, List.map_cons, keyInts]
    rw [if_pos (h e (by simp))]
    have := keyInts_asMap (l := l) fun x hx => h x (by simp [hx])
    simp only [asMap, mpL] at this
    rw [this]; rfl

theorem keys_spec {q : Nat} : WC R F.maps_Keys_map_int_api_Place_int_api_Place [.map (some q)] m fun r m' => r = .func (.func F.maps_Keys_map_int_api_Place_int_api_Place_1) #[] #[.pointer (some ⟨m.next, 0, none⟩)] ∧ m' = m.new (.cells [.map (some q)] (some 1)) := by
  refine WC.of R.maps_Keys_map_int_api_Place_int_api_Place rfl ?_
  simp only [RC.maps_Keys_map_int_api_Place_int_api_Place, go_sem, Int.reduceBEq, Int.reduceBNe, Int.reduceNeg, reduceCtorEq, Nat.reduceEqDiff, Nat.reduceAdd, Nat.reduceLeDiff, Nat.reduceMul, Nat.reduceSub, Int.reduceToNat, Int.reduceLT, Int.reduceLE]

theorem ints_one {l : List Int} : oneCells (l.map (.int .i64)) = true := by
  unfold oneCells
  rw [List.all_eq_true]
  intro x hx
  obtain ⟨y, _, rfl⟩ := List.mem_map.1 hx
  rfl

theorem sorted_spec {l : List PE} {b q : Nat} (hb : Bk m b [.map (some q)] 1) (hq : Mp m q eP (asMap l)) (hw : ∀ e ∈ l, (Lit.int .i64 (unitE e)).wf = true) (hn : (l.map unitE).Nodup) (hl : l.length ≤ 1000000) :
    WC R F.slices_Sorted_int [.func (.func F.maps_Keys_map_int_api_Place_int_api_Place_1) #[] #[.pointer (some ⟨b, 0, none⟩)]] m fun r m' => Own m m' 1 l.length (intsZ (sortI (l.map unitE))) r ∧ Ext m m' ∧ Full r := by
  have hg : F.maps_Keys_map_int_api_Place_int_api_Place_1 = 60 := by unfold F.maps_Keys_map_int_api_Place_int_api_Place_1; rfl
  have hk := keyInts_asMap hw
  have hnd := noDup_iff.2 hn
  have hlen : (l.map unitE).length ≤ 1000000 := by rw [List.length_map]; exact hl
  have key : ∃ r m', X.sk [.func (.func 60) #[] #[.pointer (some ⟨b, 0, none⟩)]] m = some (r, m') ∧ Own m m' 1 l.length (intsZ (sortI (l.map unitE))) r ∧ Ext m m' ∧ Full r := by
    cases l with
    | nil =>
      refine ⟨.slice none 0 0, m, ?_, .nil rfl rfl, Ext.refl _, fun a p q e => by cases e; rfl⟩
      have hc : ([60] : List Nat).contains 60 = true := rfl
      have h0 : ((#[] : Array Value).toList) = [] := rfl
      have h1 : ((#[Value.pointer (some ⟨b, 0, none⟩)] : Array Value).toList) = [.pointer (some ⟨b, 0, none⟩)] := rfl
      simp only [X.sk, X.skeys, hc, h0, h1, hb.at_, List.getElem?_cons_zero, hq.at_, hk, Option.bind_some]
      rw [if_pos ⟨hnd, hlen⟩]
      rfl
    | cons e l =>
      refine ⟨.slice (some ⟨m.next, 0, none⟩) (e :: l).length (e :: l).length, m.new (.cells ((sortI ((e :: l).map unitE)).map (.int .i64)) (some 1)), ?_, ?_, Ext.new, fun a p q e => by cases e; rfl⟩
      · have hc : ([60] : List Nat).contains 60 = true := rfl
        have h0 : ((#[] : Array Value).toList) = [] := rfl
        have h1 : ((#[Value.pointer (some ⟨b, 0, none⟩)] : Array Value).toList) = [.pointer (some ⟨b, 0, none⟩)] := rfl
        simp only [X.sk, X.skeys, hc, h0, h1, hb.at_, List.getElem?_cons_zero, hq.at_, hk, Option.bind_some]
        rw [if_pos ⟨hnd, hlen⟩]
        simp only [List.map_cons, List.length_cons, List.length_map]
      · refine .at (all := (sortI ((e :: l).map unitE)).map (.int .i64)) (Nat.le_refl _) (by simp [Mem.new]) (Nat.le_refl _) (by simp [Mem.new]) ?_ ?_ ?_
        · rw [List.length_map, sortI_len, List.length_map, Nat.mul_one]
        · rw [List.take_of_length_le]; rfl
          rw [List.length_map, sortI_len, List.length_map, Nat.mul_one]; exact Nat.le_refl _
        · exact ints_one
  obtain ⟨r, m', h1, h2⟩ := key
  rw [hg]
  exact WC.ext R.slices_Sorted_int h1 h2
end Go.Am


/- Diff: whole numbers sorted in place. -/
set_option linter.unusedVariables false
set_option linter.unusedSimpArgs false
namespace Go.Am
open Classical
variable {m : Mem}

theorem Sort_spec {m0 : Mem} {zs : List Int} {v : Value} (ho : Own m0 m 1 zs.length (intsZ zs) v) (hx : Ext m0 m) (hl : zs.length ≤ 1000000) :
    WC R F.slices_Sort_int_int [v] m fun r m' => r = .tuple #[] ∧ Own m0 m' 1 zs.length (intsZ (sortI zs)) v ∧ Upd m m' (vb v) ∧ Ext m0 m' := by
  cases ho with
  | nil h hc =>
    obtain rfl : zs = [] := List.eq_nil_of_length_eq_zero h
    exact WC.ext R.slices_Sort_int_int (v := .tuple #[]) (m' := m) rfl ⟨rfl, .nil rfl rfl, Upd.refl _ _, hx⟩
  | @«at» b c all hb hb2 hnc hm hal hcs hone =>
    have hall : all.take zs.length = zs.map (.int .i64) := by simpa [intsZ] using hcs
    have key : X.so [.slice (some ⟨b, 0, none⟩) zs.length c] m = some (.tuple #[], m.set b (some (.cells (writeL all 0 ((sortI zs).map (.int .i64))) (some 1)))) := by
      simp only [X.so, X.isort, hm, List.drop_zero]
      rw [if_pos ⟨by omega, hl⟩, hall, cellInts_map]
      rfl
    refine WC.ext R.slices_Sort_int_int key ⟨rfl, ?_, Upd.set (by simp [vb]), hx.set hb⟩
    have hsl : ((sortI zs).map (Value.int .i64)).length = zs.length := by rw [List.length_map, sortI_len]
    have hw : writeL all 0 ((sortI zs).map (Value.int .i64)) = (sortI zs).map (Value.int .i64) ++ all.drop zs.length := by
      unfold writeL
      simp [sortI_len]
    refine .at (all := writeL all 0 ((sortI zs).map (Value.int .i64))) hb (by simpa [Mem.set] using hb2) hnc (by simp [Mem.set]) ?_ ?_ ?_
    · rw [hw, List.length_append, hsl, List.length_drop]; omega
    · rw [hw, Nat.mul_one, List.take_left' hsl]; rfl
    · exact ints_one

def compL : List Int → List Int
  | [] => []
  | [a] => [a]
  | a :: b :: r => if a = b then compL (b :: r) else a :: compL (b :: r)
theorem compL_snoc : ∀ {l : List Int} {x y : Int}, compL (l ++ [x, y]) = compL (l ++ [x]) ++ (if x = y then [] else [y])
  | [], x, y => by
    simp only [List.nil_append, compL]
    by_cases h : x = y
    · simp [h]
    · simp [h]
  | [a], x, y => by
    have ih := compL_snoc (l := []) (x := x) (y := y)
    simp only [List.nil_append] at ih
    simp only [List.cons_append, List.nil_append, compL]
    by_cases h : x = y <;> by_cases g : a = x <;> simp [h, g] 
  | a :: b :: l, x, y => by
    have ih := compL_snoc (l := b :: l) (x := x) (y := y)
    simp only [List.cons_append] at ih ⊢
    simp only [compL]
    by_cases g : a = b
    · simp [g, ih]
    · simp [g, ih]
theorem compL_len : ∀ {l : List Int}, (compL l).length ≤ l.length
  | [] => Nat.le_refl _
  | [a] => Nat.le_refl _
  | a :: b :: r => by
    have ih := compL_len (l := b :: r)
    simp only [compL]
    split
    · simp only [List.length_cons] at ih ⊢; omega
    · simp only [List.length_cons] at ih ⊢; omega
theorem compL_take {l : List Int} {j : Nat} (h : 0 < j) (hj : j < l.length) : compL (l.take (j + 1)) = compL (l.take j) ++ (if l[j - 1] = l[j] then [] else [l[j]]) := by
  obtain ⟨i, rfl⟩ : ∃ i, j = i + 1 := ⟨j - 1, by omega⟩
  have e1 : l.take (i + 1 + 1) = l.take i ++ [l[i], l[i + 1]] := by
    rw [List.take_succ_eq_append_getElem hj, List.take_succ_eq_append_getElem (show i < l.length by omega), List.append_assoc]; rfl
  have e2 : l.take (i + 1) = l.take i ++ [l[i]] := List.take_succ_eq_append_getElem (by omega)
  rw [e1, e2, compL_snoc]; rfl
end Go.Am


/- Diff: whole numbers left out. -/
set_option linter.unusedVariables false
set_option linter.unusedSimpArgs false
namespace Go.Am
open Classical
variable {m : Mem}

theorem intsZ_getq {l : List Int} {i : Nat} (h : i < l.length) : (intsZ l)[i]? = some (.int .i64 l[i]) := by
  unfold intsZ; rw [List.getElem?_map, List.getElem?_eq_getElem h]; rfl
theorem intsZ_len' {l : List Int} : (intsZ l).length = l.length := by unfold intsZ; rw [List.length_map]
theorem Sl.geti {l : List Int} {v : Value} (h : Sl m 1 l.length (intsZ l) v) {i : Nat} (hi : i < l.length) :
    ∃ b o, aIdxS 1 v (.int .i64 i) = some (.pointer (some ⟨b, o, none⟩)) ∧ aLoad false 1 m (.pointer (some ⟨b, o, none⟩)) = some (.int .i64 l[i]) := by
  obtain ⟨b, o, h1, h2, -⟩ := h.cell (k := .i64) hi
  have := h2 0 (by omega)
  rw [Nat.mul_one, Nat.add_zero, Nat.add_zero, intsZ_getq hi] at this
  exact ⟨b, o, h1, this⟩

theorem iIndex {l : List Int} {v fv : Value} {p : Int → Bool} (hs : Sl m 1 l.length (intsZ l) v) (hb : SlLt m v) (hl : l.length ≤ 3000000)
    (hp : ∀ m1 x, Ext m m1 → gV R fv [.int .i64 x] m1 fun r m' => r = .bool (p x) ∧ Ext m1 m') :
    WC R F.slices_IndexFunc_int_int [v, fv] m fun r m' => ((l.any p = false ∧ r = .int .i64 (-1)) ∨ ∃ i : Nat, ∃ h : i < l.length, r = .int .i64 i ∧ p l[i] = true ∧ ∀ j (hj : j < i), p (l[j]'(by omega)) = false) ∧ Ext m m' := by
  refine WC.of R.slices_IndexFunc_int_int rfl ?_
  simp only [RC.slices_IndexFunc_int_int, go_sem, Int.reduceBEq, Int.reduceBNe, Int.reduceNeg, reduceCtorEq, Nat.reduceEqDiff, Nat.reduceAdd, Nat.reduceLeDiff, Nat.reduceMul, Nat.reduceSub, Int.reduceToNat, Int.reduceLT, Int.reduceLE, hs.len]
  refine WL.of (fun n e m' => ∃ i : Nat, i ≤ l.length ∧ n = l.length - i ∧ e = [(0, v), (1, fv), (7, .int .i64 l.length), (8, .int .i64 i)] ∧ (∀ j (hj : j < l.length), j < i → p l[j] = false) ∧ Ext m m') l.length
    ⟨0, by omega, by omega, by simp only [go_sem, Int.reduceBEq, Int.reduceBNe, Int.reduceNeg, reduceCtorEq, Nat.reduceEqDiff, Nat.reduceAdd, Nat.reduceLeDiff, Nat.reduceMul, Nat.reduceSub, Int.reduceToNat, Int.reduceLT, Int.reduceLE] <;> rfl, fun _ _ h => by omega, Ext.refl _⟩ ?_
  rintro _ _ m1 ⟨i, hi, rfl, rfl, hj, hx⟩
  have hs1 := hs.keep hb hx
  simp only [RB.slices_IndexFunc_int_int_1, go_sem, Int.reduceBEq, Int.reduceBNe, Int.reduceNeg, reduceCtorEq, Nat.reduceEqDiff, Nat.reduceAdd, Nat.reduceLeDiff, Nat.reduceMul, Nat.reduceSub, Int.reduceToNat, Int.reduceLT, Int.reduceLE]
  refine gT.of (fun g1' => ?_) (fun g1' => ?_) <;> (have g1 := g1'; try simp only [decide_eq_true_eq, decide_eq_false_iff_not, beq_iff_eq, bne_iff_ne, beq_eq_false_iff_ne, ne_eq, Bool.not_eq_true', Bool.not_eq_false', bne_eq_false_iff_eq, Int.not_lt, Int.not_le] at g1)
  · have hil : i < l.length := by omega
    obtain ⟨b, o, a1, a2⟩ := hs1.geti hil
    simp only [go_sem, Int.reduceBEq, Int.reduceBNe, Int.reduceNeg, reduceCtorEq, Nat.reduceEqDiff, Nat.reduceAdd, Nat.reduceLeDiff, Nat.reduceMul, Nat.reduceSub, Int.reduceToNat, Int.reduceLT, Int.reduceLE, g1', a1, a2]
    refine gV.of (hp m1 l[i] hx) ?_
    rintro _ m2 ⟨rfl, hx2⟩
    simp only [go_sem, Int.reduceBEq, Int.reduceBNe, Int.reduceNeg, reduceCtorEq, Nat.reduceEqDiff, Nat.reduceAdd, Nat.reduceLeDiff, Nat.reduceMul, Nat.reduceSub, Int.reduceToNat, Int.reduceLT, Int.reduceLE]
    refine gT.of (fun g2 => ?_) (fun g2 => ?_)
    · simp only [go_sem, Int.reduceBEq, Int.reduceBNe, Int.reduceNeg, reduceCtorEq, Nat.reduceEqDiff, Nat.reduceAdd, Nat.reduceLeDiff, Nat.reduceMul, Nat.reduceSub, Int.reduceToNat, Int.reduceLT, Int.reduceLE]
      exact ⟨.inr ⟨i, hil, rfl, g2, fun j hj2 => hj j (by omega) hj2⟩, hx.trans hx2⟩
    · have w : IntKind.wrap .i64 ((i : Int) + 1) = ((i + 1 : Nat) : Int) := by rw [wrap_i64 (by omega) (by omega)]; rfl
      simp only [go_sem, Int.reduceBEq, Int.reduceBNe, Int.reduceNeg, reduceCtorEq, Nat.reduceEqDiff, Nat.reduceAdd, Nat.reduceLeDiff, Nat.reduceMul, Nat.reduceSub, Int.reduceToNat, Int.reduceLT, Int.reduceLE, w]
      refine ⟨l.length - (i + 1), by omega, i + 1, by omega, rfl, rfl, fun j h1 h2 => ?_, hx.trans hx2⟩
      by_cases e : j = i
      · subst e; exact g2
      · exact hj j h1 (by omega)
  · have : i = l.length := by omega
    subst this
    simp only [go_sem, Int.reduceBEq, Int.reduceBNe, Int.reduceNeg, reduceCtorEq, Nat.reduceEqDiff, Nat.reduceAdd, Nat.reduceLeDiff, Nat.reduceMul, Nat.reduceSub, Int.reduceToNat, Int.reduceLT, Int.reduceLE, g1']
    refine ⟨.inl ?_, hx⟩
    refine List.any_eq_false.2 fun x hx' => ?_
    obtain ⟨j, h1, rfl⟩ := List.getElem_of_mem hx'
    rw [hj j h1 h1]; simp

theorem iupd {all A B C : List Value} {o : Nat} (h : all = A ++ B ++ C) (ho : A.length = o) {X : List Value} (hl : X.length = B.length) : writeL all o X = A ++ X ++ C := by
  subst h
  unfold writeL
  have e1 : (A ++ B ++ C).take o = A := by rw [List.append_assoc]; exact List.take_left' ho
  have e2 : (A ++ B ++ C).drop (o + X.length) = C := List.drop_left' (by rw [List.length_append, ho, hl])
  rw [e1, e2]
theorem intsZ_one {l : List Int} : oneCells (intsZ l) = true := ints_one
theorem zeros1 {n : Nat} : oneCells (zeros [.int .i64 0] n) = true ∧ (zeros [.int .i64 0] n).length = n := by
  rw [zeros_int]
  exact ⟨intsZ_one, by rw [intsZ_len', List.length_replicate]⟩

/-- The tail of one's own row is cleared, the rest is handed back. -/
theorem tail_cut {M : Mem} {b c n k : Nat} {K mid rest : List Value} (hm : M.blk b = some (.cells (K ++ mid ++ rest) (some 1))) (hK : K.length = k) (hmid : mid.length = n - k) (hkn : k ≤ n) (hnc : n ≤ c) :
    ∃ M', aSub 1 M (.slice (some ⟨b, 0, none⟩) n c) (some (.int .i64 k)) none none = some (.slice (some ⟨b, k, none⟩) (n - k) (c - k)) ∧
      aClr 1 [.int .i64 0] M (.slice (some ⟨b, k, none⟩) (n - k) (c - k)) = some M' ∧ aSub 1 M' (.slice (some ⟨b, 0, none⟩) n c) none (some (.int .i64 k)) none = some (.slice (some ⟨b, 0, none⟩) k c) ∧
      ∃ Z : List Value, Z.length = n - k ∧ M'.blk b = some (.cells (K ++ Z ++ rest) (some 1)) ∧ Upd M M' [b] := by
  have hun : unitOk 1 M b = true := unitOk_own hm
  have cs1 := sub_from (m := M) (b := b) (o := 0) (n := n) (c := c) (u := 1) (k := .i64) (i := k) hun hkn hnc
  rw [Nat.zero_add, Nat.mul_one] at cs1
  by_cases hz : n - k = 0
  · refine ⟨M, cs1, ?_, sub_to (k := .i64) hun (by omega), mid, hmid, hm, Upd.refl _ _⟩
    simp only [aClr]
    rw [if_pos hz]
  · refine ⟨M.set b (some (.cells (K ++ zeros [.int .i64 0] (n - k) ++ rest) (some 1))), cs1, ?_, ?_, zeros [.int .i64 0] (n - k), zeros1.2, by simp [Mem.set], Upd.set (by simp)⟩
    · simp only [aClr]
      rw [if_neg hz, if_pos (show ([.int .i64 0] : List Value).length = 1 from rfl)]
      unfold aWrite
      rw [hm]
      simp only
      rw [if_pos ⟨by rw [zeros1.2]; simp only [List.length_append, hK, hmid]; omega, zeros1.1⟩]
      congr 4
      exact iupd rfl hK (by rw [zeros1.2, hmid])
    · exact sub_to (k := .i64) (unitOk_own (cs := K ++ zeros [.int .i64 0] (n - k) ++ rest) (by simp [Mem.set])) (by omega)
end Go.Am


/- Diff: DeleteFunc at whole numbers. -/
set_option linter.unusedVariables false
set_option linter.unusedSimpArgs false
namespace Go.Am
open Classical
variable {m : Mem}

/-- A store of a whole number into one's own row. -/
theorem istore {M : Mem} {b k : Nat} {A B C : List Value} {x y : Value} (hm : M.blk b = some (.cells (A ++ x :: B) (some 1))) (hA : A.length = k) (hy : y.cells = #[y]) (h1 : y.oneCell' = true) :
    aStore 1 M (.pointer (some ⟨b, k, none⟩)) y = some (M.set b (some (.cells (A ++ y :: B) (some 1)))) := by
  simp only [aStore, hy]
  rw [if_pos (by rfl)]
  unfold aWrite
  rw [hm]
  simp only
  rw [if_pos ⟨by simp [hA], by simp [oneCells, h1]⟩]
  congr 4
  have := iupd (all := A ++ x :: B) (A := A) (B := [x]) (C := B) (o := k) (X := [y]) (by simp) hA rfl
  simpa using this

theorem iDeleteFunc {l : List Int} {v fv : Value} {p : Int → Bool} {m0 : Mem} (ho : Own m0 m 1 l.length (intsZ l) v) (hx0 : Ext m0 m) (hl : l.length ≤ 3000000)
    (hp : ∀ m1 x, Ext m0 m1 → gV R fv [.int .i64 x] m1 fun r m' => r = .bool (p x) ∧ Ext m1 m') :
    WC R F.slices_DeleteFunc_int_int [v, fv] m fun r m' => Own m0 m' 1 (l.filter fun x => !p x).length (intsZ (l.filter fun x => !p x)) r ∧ Ext m0 m' := by
  refine WC.of R.slices_DeleteFunc_int_int rfl ?_
  simp only [RC.slices_DeleteFunc_int_int, go_sem, Int.reduceBEq, Int.reduceBNe, Int.reduceNeg, reduceCtorEq, Nat.reduceEqDiff, Nat.reduceAdd, Nat.reduceLeDiff, Nat.reduceMul, Nat.reduceSub, Int.reduceToNat, Int.reduceLT, Int.reduceLE]
  refine gC.of (iIndex ho.sl ho.lt hl (fun m1 x hx => hp m1 x (hx0.trans hx))) ?_
  rintro _ m1 ⟨⟨h2, rfl⟩ | ⟨i0, hi0, rfl, h2, h3⟩, hx1⟩
  · have e : l.filter (fun x => !p x) = l := by
      rw [List.filter_eq_self]
      intro x hx
      have := List.any_eq_false.1 h2 x hx
      simpa using this
    rw [e]
    simp only [go_sem, Int.reduceBEq, Int.reduceBNe, Int.reduceNeg, reduceCtorEq, Nat.reduceEqDiff, Nat.reduceAdd, Nat.reduceLeDiff, Nat.reduceMul, Nat.reduceSub, Int.reduceToNat, Int.reduceLT, Int.reduceLE]
    exact ⟨ho.keep hx1, hx0.trans hx1⟩
  · have ho1 := ho.keep hx1
    have hx01 := hx0.trans hx1
    clear hx0
    cases ho1 with
    | nil h hc => omega
    | @«at» b c all hb hb2 hnc hm hal hcs hone =>
      have hall : all = intsZ l ++ all.drop l.length := by
        rw [Nat.mul_one] at hcs
        rw [← hcs, List.take_append_drop]
      generalize hrest : all.drop l.length = rest at hall
      have w1 : ∀ k : Nat, k < 3000000 → IntKind.wrap .i64 ((k : Int) + 1) = ((k + 1 : Nat) : Int) := fun k hk => by rw [wrap_i64 (by omega) (by omega)]; rfl
      have ef : ((i0 : Int) == -1) = false := by rw [beq_eq_false_iff_ne]; omega
      simp only [go_sem, Int.reduceBEq, Int.reduceBNe, Int.reduceNeg, reduceCtorEq, Nat.reduceEqDiff, Nat.reduceAdd, Nat.reduceLeDiff, Nat.reduceMul, Nat.reduceSub, Int.reduceToNat, Int.reduceLT, Int.reduceLE, ef, w1 i0 (by omega)]
      have start : (l.take i0).filter (fun x => !p x) = l.take i0 := by
        rw [List.filter_eq_self]
        intro x hx
        obtain ⟨j, hj, rfl⟩ := List.getElem_of_mem hx
        rw [List.length_take] at hj
        rw [List.getElem_take, h3 j (by omega)]; rfl
      have hsplit : ∀ j, j < l.length → intsZ (l.drop j) = .int .i64 l[j]! :: intsZ (l.drop (j + 1)) := fun j hj => by
        rw [List.drop_eq_getElem_cons hj, getElem!_pos l j hj]; rfl
      refine WL.of (fun r e m' => ∃ (j : Nat) (K : List Int) (mid : List Value), r = l.length - j ∧ j ≤ l.length ∧ K = (l.take j).filter (fun x => !p x) ∧ K.length < j ∧ mid.length = j - K.length ∧
          e = [(0, .slice (some ⟨b, 0, none⟩) l.length c), (1, fv), (5, .int .i64 K.length), (6, .int .i64 j)] ∧ m'.blk b = some (.cells (intsZ K ++ mid ++ (intsZ (l.drop j) ++ rest)) (some 1)) ∧ Upd m1 m' [b]) (l.length - (i0 + 1))
        ⟨i0 + 1, l.take i0, [.int .i64 l[i0]], by omega, by omega, ?_, by rw [List.length_take]; omega, by rw [List.length_take]; simp; omega, ?_, ?_, Upd.refl _ _⟩ ?_
      · rw [List.take_succ_eq_append_getElem hi0, List.filter_append, start]; simp [h2]
      · rw [List.length_take, Nat.min_eq_left (by omega)]; simp only [go_sem, Int.reduceBEq, Int.reduceBNe, Int.reduceNeg, reduceCtorEq, Nat.reduceEqDiff, Nat.reduceAdd, Nat.reduceLeDiff, Nat.reduceMul, Nat.reduceSub, Int.reduceToNat, Int.reduceLT, Int.reduceLE] <;> rfl
      · rw [hm, hall]
        congr 2
        have e : intsZ l = intsZ (l.take i0) ++ (.int .i64 l[i0] :: intsZ (l.drop (i0 + 1))) := by
          unfold intsZ
          rw [← List.map_cons, ← List.drop_eq_getElem_cons hi0, ← List.map_append, List.take_append_drop]
        rw [e]; simp only [List.append_assoc, List.cons_append, List.nil_append]
      · rintro r0 _ m2 ⟨j, K, mid, hr, hj, hK, hKj, hmid, rfl, hm2, hu2⟩
        have hx02 : Ext m0 m2 := hu2.ext_of hx01 (by simpa using hb)
        have hKl : K.length < 3000000 := by omega
        have hfK : (intsZ K).length = K.length := intsZ_len'
        have hbn : b < m2.next := Nat.lt_of_lt_of_le hb2 hu2.next
        simp only [RB.slices_DeleteFunc_int_int_1, go_sem, Int.reduceBEq, Int.reduceBNe, Int.reduceNeg, reduceCtorEq, Nat.reduceEqDiff, Nat.reduceAdd, Nat.reduceLeDiff, Nat.reduceMul, Nat.reduceSub, Int.reduceToNat, Int.reduceLT, Int.reduceLE, len_s]
        refine gT.of (fun g1' => ?_) (fun g1' => ?_) <;> (have g1 := g1'; try simp only [decide_eq_true_eq, decide_eq_false_iff_not, beq_iff_eq, bne_iff_ne, beq_eq_false_iff_ne, ne_eq, Bool.not_eq_true', Bool.not_eq_false', bne_eq_false_iff_eq, Int.not_lt, Int.not_le] at g1)
        · have hjl : j < l.length := by omega
          have hd := hsplit j hjl
          rw [getElem!_pos l j hjl] at hd
          rw [hd] at hm2
          have ix : ∀ k : Nat, k < l.length → aIdxS 1 (.slice (some ⟨b, 0, none⟩) l.length c) (.int .i64 k) = some (.pointer (some ⟨b, k, none⟩)) := fun k hk => by
            simp only [aIdxS]
            rw [if_pos (by omega), Nat.zero_add]; simp
          have a2 : aLoad false 1 m2 (.pointer (some ⟨b, j, none⟩)) = some (.int .i64 l[j]) := by
            have hpre : (intsZ K ++ mid).length = j := by rw [List.length_append, hfK, hmid]; omega
            rw [load_w, hm2]
            show (intsZ K ++ mid ++ _)[j]? = _
            rw [List.getElem?_append_right (by omega), hpre, Nat.sub_self]; rfl
          simp only [go_sem, Int.reduceBEq, Int.reduceBNe, Int.reduceNeg, reduceCtorEq, Nat.reduceEqDiff, Nat.reduceAdd, Nat.reduceLeDiff, Nat.reduceMul, Nat.reduceSub, Int.reduceToNat, Int.reduceLT, Int.reduceLE, g1', ix j hjl, a2]
          refine gV.of (hp m2 l[j] hx02) ?_
          rintro _ m4 ⟨rfl, hx4⟩
          have hm4 : m4.blk b = _ := (hx4.same b hbn).trans hm2
          have hu4 : Upd m1 m4 [b] := hu2.trans hx4.upd (fun _ h => h) (fun _ h => .inl h)
          have tk : l.take (j + 1) = l.take j ++ [l[j]] := List.take_succ_eq_append_getElem hjl
          simp only [go_sem, Int.reduceBEq, Int.reduceBNe, Int.reduceNeg, reduceCtorEq, Nat.reduceEqDiff, Nat.reduceAdd, Nat.reduceLeDiff, Nat.reduceMul, Nat.reduceSub, Int.reduceToNat, Int.reduceLT, Int.reduceLE]
          refine gT.of (fun g2 => ?_) (fun g2 => ?_)
          · have g2 : p l[j] = false := by simpa using g2
            obtain ⟨x0, M2, hM⟩ : ∃ x0 M2, mid = x0 :: M2 := by
              cases mid with
              | nil => simp at hmid; omega
              | cons x0 M2 => exact ⟨x0, M2, rfl⟩
            subst hM
            have hw : aStore 1 m4 (.pointer (some ⟨b, K.length, none⟩)) (.int .i64 l[j]) = some (m4.set b (some (.cells (intsZ (K ++ [l[j]]) ++ (M2 ++ [.int .i64 l[j]]) ++ (intsZ (l.drop (j + 1)) ++ rest)) (some 1)))) := by
              rw [istore (C := []) (A := intsZ K) (x := x0) (B := M2 ++ (.int .i64 l[j] :: intsZ (l.drop (j + 1)) ++ rest)) (by rw [hm4]; simp) hfK rfl rfl]
              congr 4
              unfold intsZ
              simp
            have hg2 : (!p l[j]) = true := by rw [g2]; rfl
            simp only [go_sem, Int.reduceBEq, Int.reduceBNe, Int.reduceNeg, reduceCtorEq, Nat.reduceEqDiff, Nat.reduceAdd, Nat.reduceLeDiff, Nat.reduceMul, Nat.reduceSub, Int.reduceToNat, Int.reduceLT, Int.reduceLE, g2, ix K.length (by omega), hw, w1 K.length hKl, w1 j (by omega)]
            refine ⟨l.length - (j + 1), by omega, j + 1, K ++ [l[j]], M2 ++ [.int .i64 l[j]], rfl, by omega, ?_, by simp; omega, ?_, ?_, by simp [Mem.set], hu4.trans (Upd.set (fp := [b]) (by simp)) (fun _ h => h) (fun _ h => .inl h)⟩
            · rw [tk, List.filter_append, ← hK]; simp [g2]
            · simp only [List.length_append, List.length_cons, List.length_nil] at hmid ⊢; omega
            · simp only [List.length_append, List.length_cons, List.length_nil, Nat.zero_add]
          · have g2 : p l[j] = true := by simpa using g2
            simp only [go_sem, Int.reduceBEq, Int.reduceBNe, Int.reduceNeg, reduceCtorEq, Nat.reduceEqDiff, Nat.reduceAdd, Nat.reduceLeDiff, Nat.reduceMul, Nat.reduceSub, Int.reduceToNat, Int.reduceLT, Int.reduceLE, g2, w1 j (by omega)]
            refine ⟨l.length - (j + 1), by omega, j + 1, K, mid ++ [.int .i64 l[j]], rfl, by omega, ?_, by omega, ?_, rfl, ?_, hu4⟩
            · rw [tk, List.filter_append, ← hK]; simp [g2]
            · simp only [List.length_append, List.length_cons, List.length_nil]; omega
            · rw [hm4]; simp only [List.append_assoc, List.cons_append, List.nil_append]
        · have hjl : j = l.length := by omega
          subst hjl
          rw [List.take_length] at hK
          rw [List.drop_length, show intsZ ([] : List Int) = [] from rfl, List.nil_append] at hm2
          obtain ⟨M', c1, c2, c3, Z, z1, z2, z3⟩ := tail_cut (c := c) hm2 hfK (n := l.length) hmid (by omega) hnc
          simp only [go_sem, Int.reduceBEq, Int.reduceBNe, Int.reduceNeg, reduceCtorEq, Nat.reduceEqDiff, Nat.reduceAdd, Nat.reduceLeDiff, Nat.reduceMul, Nat.reduceSub, Int.reduceToNat, Int.reduceLT, Int.reduceLE, g1', c1, c2, c3]
          rw [← hK]
          refine ⟨.at (all := intsZ K ++ Z ++ rest) hb (Nat.lt_of_lt_of_le hbn z3.next) (by omega) z2 ?_ ?_ intsZ_one, z3.ext_of hx02 (by simpa using hb)⟩
          · have : rest.length = all.length - l.length := by rw [← hrest, List.length_drop]
            simp only [List.length_append, hfK, z1, this, hal]; omega
          · rw [Nat.mul_one, List.append_assoc, List.take_left' hfK]
end Go.Am


/- Diff: Compact at whole numbers. -/
set_option linter.unusedVariables false
set_option linter.unusedSimpArgs false
namespace Go.Am
open Classical
variable {m : Mem}

/-- Of a row that is at b: a number in it. -/
theorem iload {M : Mem} {b k : Nat} {A : List Int} {rest : List Value} (hm : M.blk b = some (.cells (intsZ A ++ rest) (some 1))) (hk : k < A.length) : aLoad false 1 M (.pointer (some ⟨b, k, none⟩)) = some (.int .i64 A[k]) := by
  rw [load_w, hm]
  show (intsZ A ++ rest)[k]? = _
  rw [List.getElem?_append_left (by rw [intsZ_len']; exact hk), intsZ_getq hk]

theorem compL_none : ∀ {l : List Int} , (∀ t (h : t + 1 < l.length), l[t] ≠ l[t + 1]) → compL l = l
  | [], _ => rfl
  | [a], _ => rfl
  | a :: b :: r, h => by
    simp only [compL]
    rw [if_neg (show ¬ a = b from h 0 (by simp)), compL_none fun t ht => h (t + 1) (by simpa using ht)]

theorem iidx {b o n c k : Nat} (hk : k < n) : aIdxS 1 (.slice (some ⟨b, o, none⟩) n c) (.int .i64 k) = some (.pointer (some ⟨b, o + k, none⟩)) := by
  simp only [aIdxS]
  rw [if_pos (by omega)]; simp

/-- The inner loop of Compact: what is met again is passed by. -/
theorem compact_inner {M0 : Mem} {l : List Int} {b c k0 : Nat} {rest : List Value} (hk0 : 0 < k0) (hl : l.length ≤ 3000000) (hkl : k0 < l.length) (heq : l[k0 - 1] = l[k0]) (hno : ∀ t (h : t + 1 < k0), l[t]'(by omega) ≠ l[t + 1]'(by omega))
    (hm : M0.blk b = some (.cells (intsZ l ++ rest) (some 1))) :
    WL R [0, 3, 4, 5] RB.slices_Compact_int_int_1 [(0, .slice (some ⟨b, 0, none⟩) l.length c), (3, .int .i64 k0), (4, .slice (some ⟨b, k0, none⟩) (l.length - k0) (c - k0)), (5, .int .i64 1)] M0 fun y e m' =>
      y = .exit 2 ∧ Upd M0 m' [b] ∧ ∃ (mid : List Value) (rs : Env), (compL l).length + mid.length = l.length ∧ m'.blk b = some (.cells (intsZ (compL l) ++ mid ++ rest) (some 1)) ∧ e = (0, .slice (some ⟨b, 0, none⟩) l.length c) :: (3, .int .i64 (compL l).length) :: rs := by
  have w1 : ∀ k : Nat, k < 3000000 → IntKind.wrap .i64 ((k : Int) + 1) = ((k + 1 : Nat) : Int) := fun k hk => by rw [wrap_i64 (by omega) (by omega)]; rfl
  have wm : ∀ k : Nat, 0 < k → k < 3000001 → IntKind.wrap .i64 ((k : Int) - 1) = ((k - 1 : Nat) : Int) := fun k hk h2 => by rw [wrap_i64 (by omega) (by omega)]; omega
  have hstart : compL (l.take (k0 + 1)) = l.take k0 := by
    have := compL_take hk0 hkl
    rw [if_pos heq, List.append_nil] at this
    rw [this]
    refine compL_none fun t ht => ?_
    rw [List.length_take] at ht
    rw [List.getElem_take, List.getElem_take]
    exact hno t (by omega)
  have hsplit : ∀ j (hj : j < l.length), intsZ (l.drop j) = .int .i64 l[j] :: intsZ (l.drop (j + 1)) := fun j hj => by
    rw [List.drop_eq_getElem_cons hj]; rfl
  refine WL.of (fun n e m' => ∃ (j : Nat) (mid : List Value), k0 < j ∧ j ≤ l.length ∧ n = l.length - j ∧ (compL (l.take j)).length + mid.length + 1 = j ∧
      m'.blk b = some (.cells (intsZ (compL (l.take j)) ++ mid ++ (.int .i64 (l[j - 1]!) :: intsZ (l.drop j) ++ rest)) (some 1)) ∧ Upd M0 m' [b] ∧
      e = [(0, .slice (some ⟨b, 0, none⟩) l.length c), (3, .int .i64 (compL (l.take j)).length), (4, .slice (some ⟨b, k0, none⟩) (l.length - k0) (c - k0)), (5, .int .i64 (j - k0 : Nat))]) (l.length - (k0 + 1))
    ⟨k0 + 1, [], by omega, by omega, rfl, ?_, ?_, Upd.refl _ _, ?_⟩ ?_
  · rw [hstart, List.length_take]; simp; omega
  · rw [hm, hstart]
    congr 2
    have e : intsZ l = intsZ (l.take k0) ++ intsZ (l.drop k0) := by unfold intsZ; rw [← List.map_append, List.take_append_drop]
    rw [e, hsplit k0 hkl, show k0 + 1 - 1 = k0 by omega, getElem!_pos l k0 hkl]
    simp
  · rw [hstart, List.length_take, Nat.min_eq_left (by omega), show k0 + 1 - k0 = 1 by omega]; rfl
  rintro _ _ m2 ⟨j, mid, hj0, hj, rfl, hlen, hm2, hu, rfl⟩
  have hlen1 : l[j - 1]! = l[j - 1]'(by omega) := getElem!_pos l (j - 1) (by omega)
  rw [hlen1] at hm2
  simp only [RB.slices_Compact_int_int_1, go_sem, Int.reduceBEq, Int.reduceBNe, Int.reduceNeg, reduceCtorEq, Nat.reduceEqDiff, Nat.reduceAdd, Nat.reduceLeDiff, Nat.reduceMul, Nat.reduceSub, Int.reduceToNat, Int.reduceLT, Int.reduceLE, len_s]
  by_cases g1 : j < l.length
  · have e1 : decide (((j - k0 : Nat) : Int) < ((l.length - k0 : Nat) : Int)) = true := decide_eq_true (by omega)
    have hA : (intsZ (compL (l.take j))).length = (compL (l.take j)).length := intsZ_len'
    have i1 := iidx (b := b) (o := k0) (n := l.length - k0) (c := c - k0) (k := j - k0) (by omega)
    have i2 := iidx (b := b) (o := k0) (n := l.length - k0) (c := c - k0) (k := j - k0 - 1) (by omega)
    rw [show k0 + (j - k0) = j by omega] at i1
    rw [show k0 + (j - k0 - 1) = j - 1 by omega] at i2
    have a1 : aLoad false 1 m2 (.pointer (some ⟨b, j, none⟩)) = some (.int .i64 l[j]) := by
      rw [load_w, hm2, hsplit j g1]
      show (intsZ (compL (l.take j)) ++ mid ++ _)[j]? = _
      rw [List.getElem?_append_right (by rw [List.length_append, hA]; omega), List.length_append, hA, show j - ((compL (l.take j)).length + mid.length) = 1 by omega]; rfl
    have a2 : aLoad false 1 m2 (.pointer (some ⟨b, j - 1, none⟩)) = some (.int .i64 (l[j - 1]'(by omega))) := by
      rw [load_w, hm2]
      show (intsZ (compL (l.take j)) ++ mid ++ _)[j - 1]? = _
      rw [List.getElem?_append_right (by rw [List.length_append, hA]; omega), List.length_append, hA, show j - 1 - ((compL (l.take j)).length + mid.length) = 0 by omega]; rfl
    have ct := compL_take (l := l) (j := j) (by omega) g1
    simp only [go_sem, Int.reduceBEq, Int.reduceBNe, Int.reduceNeg, reduceCtorEq, Nat.reduceEqDiff, Nat.reduceAdd, Nat.reduceLeDiff, Nat.reduceMul, Nat.reduceSub, Int.reduceToNat, Int.reduceLT, Int.reduceLE, e1, i1, a1, wm (j - k0) (by omega) (by omega), i2, a2]
    obtain ⟨x0, M2, hM⟩ : ∃ x0 M2, mid ++ [Value.int .i64 (l[j - 1]'(by omega))] = x0 :: M2 := by
      cases mid with
      | nil => exact ⟨_, _, rfl⟩
      | cons x r => exact ⟨_, _, rfl⟩
    have hMl : M2.length = mid.length := by have := congrArg List.length hM; simp at this; omega
    have hm2' : m2.blk b = some (.cells (intsZ (compL (l.take j)) ++ x0 :: (M2 ++ (.int .i64 l[j] :: intsZ (l.drop (j + 1)) ++ rest))) (some 1)) := by
      rw [hm2, hsplit j g1]
      congr 2
      have : intsZ (compL (l.take j)) ++ mid ++ (Value.int .i64 (l[j - 1]'(by omega)) :: (Value.int .i64 l[j] :: intsZ (l.drop (j + 1))) ++ rest) = intsZ (compL (l.take j)) ++ ((mid ++ [Value.int .i64 (l[j - 1]'(by omega))]) ++ (Value.int .i64 l[j] :: intsZ (l.drop (j + 1)) ++ rest)) := by simp
      rw [this, hM]; rfl
    have hj1 : l[j + 1 - 1]! = l[j] := getElem!_pos l j g1
    have hcl := compL_len (l := l.take j)
    rw [List.length_take] at hcl
    refine gT.of (fun g2 => ?_) (fun g2 => ?_)
    · have hne : l[j - 1]'(by omega) ≠ l[j] := fun e => by rw [bne_iff_ne] at g2; exact g2 e.symm
      rw [if_neg hne] at ct
      have i3 := iidx (b := b) (o := 0) (n := l.length) (c := c) (k := (compL (l.take j)).length) (by omega)
      rw [Nat.zero_add] at i3
      have hw := istore (C := []) (y := .int .i64 l[j]) hm2' hA rfl rfl
      simp only [go_sem, Int.reduceBEq, Int.reduceBNe, Int.reduceNeg, reduceCtorEq, Nat.reduceEqDiff, Nat.reduceAdd, Nat.reduceLeDiff, Nat.reduceMul, Nat.reduceSub, Int.reduceToNat, Int.reduceLT, Int.reduceLE, g2, i1, a1, i3, hw, w1 (compL (l.take j)).length (by omega), w1 (j - k0) (by omega)]
      refine ⟨l.length - (j + 1), by omega, j + 1, M2, by omega, by omega, rfl, ?_, ?_, hu.trans (Upd.set (fp := [b]) (by simp)) (fun _ h => h) (fun _ h => .inl h), ?_⟩
      · rw [ct, List.length_append]; simp; omega
      · simp only [Mem.set, if_true]
        rw [ct, hj1]
        congr 2
        unfold intsZ; simp
      · rw [ct, List.length_append, show j + 1 - k0 = j - k0 + 1 by omega]; rfl
    · have heq2 : l[j - 1]'(by omega) = l[j] := by
        rw [bne_eq_false_iff_eq] at g2; exact g2.symm
      rw [if_pos heq2, List.append_nil] at ct
      simp only [go_sem, Int.reduceBEq, Int.reduceBNe, Int.reduceNeg, reduceCtorEq, Nat.reduceEqDiff, Nat.reduceAdd, Nat.reduceLeDiff, Nat.reduceMul, Nat.reduceSub, Int.reduceToNat, Int.reduceLT, Int.reduceLE, g2, w1 (j - k0) (by omega)]
      refine ⟨l.length - (j + 1), by omega, j + 1, mid ++ [.int .i64 (l[j - 1]'(by omega))], by omega, by omega, rfl, ?_, ?_, hu, ?_⟩
      · rw [ct, List.length_append]; simp; omega
      · rw [hm2, ct, hj1, hsplit j g1]
        congr 2
        simp
      · rw [ct, show j + 1 - k0 = j - k0 + 1 by omega]
  · have e1 : decide (((j - k0 : Nat) : Int) < ((l.length - k0 : Nat) : Int)) = false := decide_eq_false (by omega)
    have hjl : j = l.length := by omega
    subst hjl
    rw [List.take_length] at hm2 hlen ⊢
    rw [List.drop_length] at hm2
    simp only [go_sem, Int.reduceBEq, Int.reduceBNe, Int.reduceNeg, reduceCtorEq, Nat.reduceEqDiff, Nat.reduceAdd, Nat.reduceLeDiff, Nat.reduceMul, Nat.reduceSub, Int.reduceToNat, Int.reduceLT, Int.reduceLE, e1]
    exact ⟨hu, mid ++ [.int .i64 (l[l.length - 1]'(by omega))], _, by simp; omega, by rw [hm2]; simp [intsZ], rfl⟩
end Go.Am


/- Diff: Compact. -/
set_option linter.unusedVariables false
set_option linter.unusedSimpArgs false
namespace Go.Am
open Classical
variable {m : Mem}

set_option maxHeartbeats 4000000 in
theorem Compact_spec {l : List Int} {v : Value} {m0 : Mem} (ho : Own m0 m 1 l.length (intsZ l) v) (hx0 : Ext m0 m) (hl : l.length ≤ 3000000) :
    WC R F.slices_Compact_int_int [v] m fun r m' => Own m0 m' 1 (compL l).length (intsZ (compL l)) r ∧ Ext m0 m' := by
  refine WC.of R.slices_Compact_int_int rfl ?_
  simp only [RC.slices_Compact_int_int, go_sem, Int.reduceBEq, Int.reduceBNe, Int.reduceNeg, reduceCtorEq, Nat.reduceEqDiff, Nat.reduceAdd, Nat.reduceLeDiff, Nat.reduceMul, Nat.reduceSub, Int.reduceToNat, Int.reduceLT, Int.reduceLE, ho.sl.len]
  have short : l.length < 2 → compL l = l := fun h => compL_none fun t ht => by omega
  refine gT.of (fun g0' => ?_) (fun g0' => ?_) <;> (have g0 := g0'; try simp only [decide_eq_true_eq, decide_eq_false_iff_not, beq_iff_eq, bne_iff_ne, beq_eq_false_iff_ne, ne_eq, Bool.not_eq_true', Bool.not_eq_false', bne_eq_false_iff_eq, Int.not_lt, Int.not_le] at g0)
  · simp only [go_sem, Int.reduceBEq, Int.reduceBNe, Int.reduceNeg, reduceCtorEq, Nat.reduceEqDiff, Nat.reduceAdd, Nat.reduceLeDiff, Nat.reduceMul, Nat.reduceSub, Int.reduceToNat, Int.reduceLT, Int.reduceLE, g0']
    rw [short (by omega)]
    exact ⟨ho, hx0⟩
  · simp only [go_sem, Int.reduceBEq, Int.reduceBNe, Int.reduceNeg, reduceCtorEq, Nat.reduceEqDiff, Nat.reduceAdd, Nat.reduceLeDiff, Nat.reduceMul, Nat.reduceSub, Int.reduceToNat, Int.reduceLT, Int.reduceLE, g0']
    cases ho with
    | nil h hc => omega
    | @«at» b c all hb hb2 hnc hm hal hcs hone =>
      have hall : all = intsZ l ++ all.drop l.length := by
        rw [Nat.mul_one] at hcs
        rw [← hcs, List.take_append_drop]
      generalize hrest : all.drop l.length = rest at hall
      have w1 : ∀ k : Nat, k < 3000000 → IntKind.wrap .i64 ((k : Int) + 1) = ((k + 1 : Nat) : Int) := fun k hk => by rw [wrap_i64 (by omega) (by omega)]; rfl
      have wm : ∀ k : Nat, 0 < k → k < 3000001 → IntKind.wrap .i64 ((k : Int) - 1) = ((k - 1 : Nat) : Int) := fun k hk h2 => by rw [wrap_i64 (by omega) (by omega)]; omega
      rw [hall] at hm
      refine WL.of (fun n e m' => ∃ k : Nat, 0 < k ∧ k ≤ l.length ∧ n = l.length - k ∧ m' = m ∧ e = [(0, .slice (some ⟨b, 0, none⟩) l.length c), (3, .int .i64 k)] ∧ ∀ t (h : t + 1 < k) (h2 : k ≤ l.length), l[t]'(by omega) ≠ l[t + 1]'(by omega)) (l.length - 1)
        ⟨1, by omega, by omega, rfl, rfl, by simp only [go_sem, Int.reduceBEq, Int.reduceBNe, Int.reduceNeg, reduceCtorEq, Nat.reduceEqDiff, Nat.reduceAdd, Nat.reduceLeDiff, Nat.reduceMul, Nat.reduceSub, Int.reduceToNat, Int.reduceLT, Int.reduceLE] <;> rfl, fun t h => by omega⟩ ?_
      rintro _ _ _ ⟨k, hk0, hk, rfl, hmm, rfl, hno⟩
      replace hmm := hmm.symm
      subst hmm
      simp only [RB.slices_Compact_int_int_2, go_sem, Int.reduceBEq, Int.reduceBNe, Int.reduceNeg, reduceCtorEq, Nat.reduceEqDiff, Nat.reduceAdd, Nat.reduceLeDiff, Nat.reduceMul, Nat.reduceSub, Int.reduceToNat, Int.reduceLT, Int.reduceLE, len_s]
      by_cases g1 : k < l.length
      · have e1 : decide ((k : Int) < (l.length : Int)) = true := decide_eq_true (by omega)
        have i1 := iidx (b := b) (o := 0) (n := l.length) (c := c) (k := k) g1
        have i2 := iidx (b := b) (o := 0) (n := l.length) (c := c) (k := k - 1) (by omega)
        rw [Nat.zero_add] at i1 i2
        have a1 := iload hm g1
        have a2 := iload (k := k - 1) hm (by omega)
        simp only [go_sem, Int.reduceBEq, Int.reduceBNe, Int.reduceNeg, reduceCtorEq, Nat.reduceEqDiff, Nat.reduceAdd, Nat.reduceLeDiff, Nat.reduceMul, Nat.reduceSub, Int.reduceToNat, Int.reduceLT, Int.reduceLE, e1, i1, a1, wm k hk0 (by omega), i2, a2]
        refine gT.of (fun g2 => ?_) (fun g2 => ?_)
        · have heq : l[k - 1]'(by omega) = l[k] := by rw [beq_iff_eq] at g2; exact g2.symm
          have hun : unitOk 1 m b = true := unitOk_own hm
          have cs1 := sub_from (m := m) (b := b) (o := 0) (n := l.length) (c := c) (u := 1) (k := .i64) (i := k) hun hk hnc
          rw [Nat.zero_add, Nat.mul_one] at cs1
          simp only [go_sem, Int.reduceBEq, Int.reduceBNe, Int.reduceNeg, reduceCtorEq, Nat.reduceEqDiff, Nat.reduceAdd, Nat.reduceLeDiff, Nat.reduceMul, Nat.reduceSub, Int.reduceToNat, Int.reduceLT, Int.reduceLE, g2, cs1]
          refine WL.mono (compact_inner hk0 hl g1 heq (fun t h => hno t h hk) hm) ?_
          rintro _ _ m2 ⟨rfl, hu, mid, rs, hlen, hm2, rfl⟩
          obtain ⟨M', c1, c2, c3, Z, z1, z2, z3⟩ := tail_cut (c := c) (n := l.length) (k := (compL l).length) hm2 intsZ_len' (by omega) (by omega) hnc
          simp only [go_sem, Int.reduceBEq, Int.reduceBNe, Int.reduceNeg, reduceCtorEq, Nat.reduceEqDiff, Nat.reduceAdd, Nat.reduceLeDiff, Nat.reduceMul, Nat.reduceSub, Int.reduceToNat, Int.reduceLT, Int.reduceLE, c1, c2, c3]
          have hx2 : Ext m0 m2 := hu.ext_of hx0 (by simpa using hb)
          refine ⟨.at (all := intsZ (compL l) ++ Z ++ rest) hb (Nat.lt_of_lt_of_le hb2 (Nat.le_trans hu.next z3.next)) (by omega) z2 ?_ ?_ intsZ_one, z3.ext_of hx2 (by simpa using hb)⟩
          · have : rest.length = all.length - l.length := by rw [← hrest, List.length_drop]
            simp only [List.length_append, intsZ_len', z1, this, hal]; omega
          · rw [Nat.mul_one, List.append_assoc, List.take_left' intsZ_len']
        · have hne : l[k - 1]'(by omega) ≠ l[k] := fun e => by rw [beq_eq_false_iff_ne] at g2; exact g2 e.symm
          simp only [go_sem, Int.reduceBEq, Int.reduceBNe, Int.reduceNeg, reduceCtorEq, Nat.reduceEqDiff, Nat.reduceAdd, Nat.reduceLeDiff, Nat.reduceMul, Nat.reduceSub, Int.reduceToNat, Int.reduceLT, Int.reduceLE, g2, w1 k (by omega)]
          refine ⟨l.length - (k + 1), by omega, k + 1, by omega, by omega, rfl, rfl, fun t h h2 => ?_⟩
          by_cases e : t + 1 = k
          · have : t = k - 1 := by omega
            subst this
            have e3 : k - 1 + 1 = k := by omega
            simp only [e3]; exact hne
          · exact hno t (by omega) hk
      · have e1 : decide ((k : Int) < (l.length : Int)) = false := decide_eq_false (by omega)
        have hkl : k = l.length := by omega
        subst hkl
        simp only [go_sem, Int.reduceBEq, Int.reduceBNe, Int.reduceNeg, reduceCtorEq, Nat.reduceEqDiff, Nat.reduceAdd, Nat.reduceLeDiff, Nat.reduceMul, Nat.reduceSub, Int.reduceToNat, Int.reduceLT, Int.reduceLE, e1]
        rw [compL_none fun t h => hno t h (Nat.le_refl _)]
        exact ⟨.at (all := all) hb hb2 hnc (by rw [hm, hall]) hal hcs hone, hx0⟩
end Go.Am


/- Diff: the units of two plans that something holds of. -/
set_option linter.unusedVariables false
set_option linter.unusedSimpArgs false
namespace Go.Am
open Classical
variable {m : Mem}

theorem gV_cap3 {R : Nat → Option FEnt} {m : Mem} {Q : Value → Mem → Prop} {f : Nat} {vs : List Value} {a b c : Value} : gV R (.func (.func f) #[] #[a, b, c]) vs m Q = gC R f (vs ++ [a, b, c]) m Q := by
  refine propext ⟨?_, fun h => ⟨f, #[], #[a, b, c], rfl, by have h : WC R f (vs ++ [a, b, c]) m Q := h; simpa using h⟩⟩
  rintro ⟨_, _, _, h, k⟩
  cases h
  show WC R f (vs ++ [a, b, c]) m Q
  simpa using k

def e0 : PE := ⟨find0, .slice none 0 0, rfl⟩
noncomputable def lkE (l : List PE) (u : Int) : PE := (lkp (asMap l) u).getD e0
def hasE (l : List PE) (u : Int) : Bool := (lkp (asMap l) u).isSome
theorem lkE_mem {l : List PE} {u : Int} : lkE l u ∈ l ∨ lkE l u = e0 := by
  unfold lkE
  cases h : lkp (asMap l) u with
  | none => exact .inr rfl
  | some e =>
    refine .inl ?_
    show e ∈ l
    have : ∀ (L : List PE), lkp (asMap L) u = some e → e ∈ L := by
      intro L
      induction L with
      | nil => intro h; cases h
      | cons a L ih =>
        intro h
        simp only [asMap, List.map_cons, lkp] at h
        split at h
        · cases h; simp
        · exact List.mem_cons_of_mem _ (ih h)
    exact this l h

theorem some1_spec {M : Mem} {l k : List PE} {bl bk bf ql qk : Nat} {fv : Value} {P : PE → PE → Bool → Bool → Bool} {u : Int}
    (h1 : Bk m bl [.map (some ql)] 1) (h2 : Bk m bk [.map (some qk)] 1) (h3 : Bk m bf [fv] 1) (hl : Mp m ql eP (asMap l)) (hk : Mp m qk eP (asMap k)) (hM : Ext M m)
    (hp : ∀ m1 x y a b, Ext M m1 → (x ∈ l ∨ x = e0) → (y ∈ k ∨ y = e0) → gV R fv [eP x, eP y, .bool a, .bool b] m1 fun r m' => r = .bool (P x y a b) ∧ Ext m1 m') :
    WC R F.diff_some_1 [.int .i64 u, .pointer (some ⟨bl, 0, none⟩), .pointer (some ⟨bk, 0, none⟩), .pointer (some ⟨bf, 0, none⟩)] m fun r m' => r = .bool (!P (lkE l u) (lkE k u) (hasE l u) (hasE k u)) ∧ Ext m m' := by
  refine WC.of R.diff_some_1 rfl ?_
  have lk1 := hl.look_ok (x := u) (z := e0)
  change aLook .int (.agg #[.int .i64 0, .int .i64 0, .int .i64 0, .slice none 0 0]) true m _ _ = some (.tuple #[.agg #[.int .i64 (lkE l u).pl.unit, .int .i64 (lkE l u).pl.share, .int .i64 (lkE l u).pl.core, (lkE l u).pv], .bool (hasE l u)]) at lk1
  have o1 := (lkE l u).one
  have o2 := (lkE k u).one
  have hn2 := h2.ne
  have hn3 := h3.ne
  simp only [RC.diff_some_1, go_sem, Int.reduceBEq, Int.reduceBNe, Int.reduceNeg, reduceCtorEq, Nat.reduceEqDiff, Nat.reduceAdd, Nat.reduceLeDiff, Nat.reduceMul, Nat.reduceSub, Int.reduceToNat, Int.reduceLT, Int.reduceLE, load_w, load_a, store_b, idxS_b, set_blk, new_blk, set_next, new_next, len_s, ldW_c, ldA_c, stB_c, toArr_one, size_one, toList_toArr, size_toArr, List.length_cons, List.length_nil, List.getElem?_cons_zero, List.getElem?_cons_succ, Nat.zero_add, Nat.add_zero, h1.at_, lk1, aExt0, aExt1, o1, hn2, h2.at_]
  have hx1 : Ext m (m.new (.cells [.int .i64 (lkE l u).pl.unit, .int .i64 (lkE l u).pl.share, .int .i64 (lkE l u).pl.core, (lkE l u).pv] (some 4))) := Ext.new
  have hb1 : Bk (m.new (.cells [.int .i64 (lkE l u).pl.unit, .int .i64 (lkE l u).pl.share, .int .i64 (lkE l u).pl.core, (lkE l u).pv] (some 4))) m.next [.int .i64 (lkE l u).pl.unit, .int .i64 (lkE l u).pl.share, .int .i64 (lkE l u).pl.core, (lkE l u).pv] 4 := Bk.new
  generalize m.new (.cells [.int .i64 (lkE l u).pl.unit, .int .i64 (lkE l u).pl.share, .int .i64 (lkE l u).pl.core, (lkE l u).pv] (some 4)) = m1 at hx1 hb1 ⊢
  have h21 := h2.keep hx1
  have h31 := h3.keep hx1
  have lk2 := (hk.keep hx1).look_ok (x := u) (z := e0)
  change aLook .int (.agg #[.int .i64 0, .int .i64 0, .int .i64 0, .slice none 0 0]) true m1 _ _ = some (.tuple #[.agg #[.int .i64 (lkE k u).pl.unit, .int .i64 (lkE k u).pl.share, .int .i64 (lkE k u).pl.core, (lkE k u).pv], .bool (hasE k u)]) at lk2
  have hn31 := h31.ne
  have hbn1 := hb1.ne
  try simp only [go_sem, Int.reduceBEq, Int.reduceBNe, Int.reduceNeg, reduceCtorEq, Nat.reduceEqDiff, Nat.reduceAdd, Nat.reduceLeDiff, Nat.reduceMul, Nat.reduceSub, Int.reduceToNat, Int.reduceLT, Int.reduceLE, load_w, load_a, store_b, idxS_b, set_blk, new_blk, set_next, new_next, len_s, ldW_c, ldA_c, stB_c, toArr_one, size_one, toList_toArr, size_toArr, List.length_cons, List.length_nil, List.getElem?_cons_zero, List.getElem?_cons_succ, Nat.zero_add, Nat.add_zero, h21.at_, lk2, aExt0, aExt1, o2, hn31, h31.at_, hbn1, hb1.at_]
  have hx2 : Ext m1 (m1.new (.cells [.int .i64 (lkE k u).pl.unit, .int .i64 (lkE k u).pl.share, .int .i64 (lkE k u).pl.core, (lkE k u).pv] (some 4))) := Ext.new
  have hb2 : Bk (m1.new (.cells [.int .i64 (lkE k u).pl.unit, .int .i64 (lkE k u).pl.share, .int .i64 (lkE k u).pl.core, (lkE k u).pv] (some 4))) m1.next [.int .i64 (lkE k u).pl.unit, .int .i64 (lkE k u).pl.share, .int .i64 (lkE k u).pl.core, (lkE k u).pv] 4 := Bk.new
  generalize m1.new (.cells [.int .i64 (lkE k u).pl.unit, .int .i64 (lkE k u).pl.share, .int .i64 (lkE k u).pl.core, (lkE k u).pv] (some 4)) = m2 at hx2 hb2 ⊢
  have h32 := h31.keep hx2
  have hb12 := hb1.keep hx2
  try simp only [go_sem, Int.reduceBEq, Int.reduceBNe, Int.reduceNeg, reduceCtorEq, Nat.reduceEqDiff, Nat.reduceAdd, Nat.reduceLeDiff, Nat.reduceMul, Nat.reduceSub, Int.reduceToNat, Int.reduceLT, Int.reduceLE, load_w, load_a, store_b, idxS_b, set_blk, new_blk, set_next, new_next, len_s, ldW_c, ldA_c, stB_c, toArr_one, size_one, toList_toArr, size_toArr, List.length_cons, List.length_nil, List.getElem?_cons_zero, List.getElem?_cons_succ, Nat.zero_add, Nat.add_zero, h32.at_, hb12.at_, hb2.at_]
  refine gV.of (hp m2 (lkE l u) (lkE k u) (hasE l u) (hasE k u) ((hM.trans hx1).trans hx2) lkE_mem lkE_mem) ?_
  rintro _ m3 ⟨rfl, hx3⟩
  try simp only [go_sem, Int.reduceBEq, Int.reduceBNe, Int.reduceNeg, reduceCtorEq, Nat.reduceEqDiff, Nat.reduceAdd, Nat.reduceLeDiff, Nat.reduceMul, Nat.reduceSub, Int.reduceToNat, Int.reduceLT, Int.reduceLE, load_w, load_a, store_b, idxS_b, set_blk, new_blk, set_next, new_next, len_s, ldW_c, ldA_c, stB_c, toArr_one, size_one, toList_toArr, size_toArr, List.length_cons, List.length_nil, List.getElem?_cons_zero, List.getElem?_cons_succ, Nat.zero_add, Nat.add_zero]
  exact (hx1.trans hx2).trans hx3
end Go.Am


/- Diff: some. -/
set_option linter.unusedVariables false
set_option linter.unusedSimpArgs false
namespace Go.Am
open Classical
variable {m : Mem}

noncomputable def someL (l k : List PE) (P : PE → PE → Bool → Bool → Bool) : List Int :=
  (compL (sortI (sortI (l.map unitE) ++ sortI (k.map unitE)))).filter fun u => P (lkE l u) (lkE k u) (hasE l u) (hasE k u)

structure OkE (l : List PE) : Prop where
  wf : ∀ e ∈ l, (Lit.int .i64 (unitE e)).wf = true
  nd : (l.map unitE).Nodup
  len : l.length ≤ 1000

set_option maxHeartbeats 4000000 in
theorem some_spec {l k : List PE} {f g : Int} {c d : BitVec 32} {pv kv fv : Value} {P : PE → PE → Bool → Bool → Bool} (hs : RowS m l pv) (hk : RowS m k kv) (ol : OkE l) (ok : OkE k) (hfv : ∃ n, fv = .func (.func n) #[] #[])
    (hp : ∀ m1 x y a b, Ext m m1 → (x ∈ l ∨ x = e0) → (y ∈ k ∨ y = e0) → gV R fv [eP x, eP y, .bool a, .bool b] m1 fun r m' => r = .bool (P x y a b) ∧ Ext m1 m') :
    WC R F.diff_some [.agg #[.int .i64 f, u32 c, pv], .agg #[.int .i64 g, u32 d, kv], fv] m fun r m' => Own m m' 1 (someL l k P).length (intsZ (someL l k P)) r ∧ Ext m m' := by
  refine WC.of R.diff_some rfl ?_
  obtain ⟨fn, rfl⟩ := hfv
  simp only [RC.diff_some, go_sem, Int.reduceBEq, Int.reduceBNe, Int.reduceNeg, reduceCtorEq, Nat.reduceEqDiff, Nat.reduceAdd, Nat.reduceLeDiff, Nat.reduceMul, Nat.reduceSub, Int.reduceToNat, Int.reduceLT, Int.reduceLE, hs.sl.one, hk.sl.one]
  refine ⟨rfl, ?_⟩
  have hx1 : Ext m (m.new (.cells [.int .i64 f, u32 c, pv] (some 3))) := Ext.new
  have hb1 : Bk (m.new (.cells [.int .i64 f, u32 c, pv] (some 3))) m.next [.int .i64 f, u32 c, pv] 3 := Bk.new
  generalize m.new (.cells [.int .i64 f, u32 c, pv] (some 3)) = m1 at hx1 hb1 ⊢
  have hx2 : Ext m1 (m1.new (.cells [.int .i64 g, u32 d, kv] (some 3))) := Ext.new
  have hb2 : Bk (m1.new (.cells [.int .i64 g, u32 d, kv] (some 3))) m1.next [.int .i64 g, u32 d, kv] 3 := Bk.new
  generalize m1.new (.cells [.int .i64 g, u32 d, kv] (some 3)) = m2 at hx2 hb2 ⊢
  have hx3 : Ext m2 (m2.new (.cells [.func (.func fn) #[] #[]] (some 1))) := Ext.new
  have hb3 : Bk (m2.new (.cells [.func (.func fn) #[] #[]] (some 1))) m2.next [.func (.func fn) #[] #[]] 1 := Bk.new
  generalize m2.new (.cells [.func (.func fn) #[] #[]] (some 1)) = m3 at hx3 hb3 ⊢
  have hb13 := (hb1.keep hx2).keep hx3
  have hb23 := hb2.keep hx3
  have hX := (hx1.trans hx2).trans hx3
  have hs3 := hs.keep hX
  have hk3 := hk.keep hX
  try simp only [go_sem, Int.reduceBEq, Int.reduceBNe, Int.reduceNeg, reduceCtorEq, Nat.reduceEqDiff, Nat.reduceAdd, Nat.reduceLeDiff, Nat.reduceMul, Nat.reduceSub, Int.reduceToNat, Int.reduceLT, Int.reduceLE, load_w, load_a, store_b, idxS_b, set_blk, new_blk, set_next, new_next, len_s, ldW_c, ldA_c, stB_c, toArr_one, size_one, toList_toArr, size_toArr, List.length_cons, List.length_nil, List.getElem?_cons_zero, List.getElem?_cons_succ, Nat.zero_add, Nat.add_zero, hb13.at_, hb23.at_]
  have hbu : Ext m3 (m3.bump 8) := Ext.bump
  refine gC.of (places_spec (hs3.keep hbu) (by have := ol.len; omega) ol.nd) ?_
  rintro _ m4 ⟨q1, rfl, hM1, hq1, hx4⟩
  have hx34 := hbu.trans hx4
  have hb24 := hb23.keep hx34
  have hb34 := hb3.keep hx34
  have hkk : m4.blk m1.next = (m3.bump 8).blk m1.next := hx4.same m1.next (by have := hb23.lt; show m1.next < m3.next + 8; omega)
  try simp only [go_sem, Int.reduceBEq, Int.reduceBNe, Int.reduceNeg, reduceCtorEq, Nat.reduceEqDiff, Nat.reduceAdd, Nat.reduceLeDiff, Nat.reduceMul, Nat.reduceSub, Int.reduceToNat, Int.reduceLT, Int.reduceLE, load_w, load_a, store_b, idxS_b, set_blk, new_blk, set_next, new_next, len_s, ldW_c, ldA_c, stB_c, toArr_one, size_one, toList_toArr, size_toArr, List.length_cons, List.length_nil, List.getElem?_cons_zero, List.getElem?_cons_succ, Nat.zero_add, Nat.add_zero, watchOk_cons, watchOk_nil, blkOf_ptr, hkk]
  refine gC.of (places_spec (hk3.keep hx34) (by have := ok.len; omega) ok.nd) ?_
  rintro _ m5 ⟨q2, rfl, hM2, hq2, hx5⟩
  have hbp : (m3.bump 8).next = m3.next + 8 := rfl
  have hn4 := hx4.next
  have hn5 := hx5.next
  have nn : (m3.next = m3.next + 1) = False := eq_false (by omega)
  have nn2 : (m3.next + 1 = m3.next) = False := eq_false (by omega)
  have nn3 : (m3.next + 4 = m3.next + 5) = False := eq_false (by omega)
  have nn4 : (m3.next + 5 = m3.next + 4) = False := eq_false (by omega)
  try simp only [go_sem, Int.reduceBEq, Int.reduceBNe, Int.reduceNeg, reduceCtorEq, Nat.reduceEqDiff, Nat.reduceAdd, Nat.reduceLeDiff, Nat.reduceMul, Nat.reduceSub, Int.reduceToNat, Int.reduceLT, Int.reduceLE, load_w, load_a, store_b, idxS_b, set_blk, new_blk, set_next, new_next, len_s, ldW_c, ldA_c, stB_c, toArr_one, size_one, toList_toArr, size_toArr, List.length_cons, List.length_nil, List.getElem?_cons_zero, List.getElem?_cons_succ, Nat.zero_add, Nat.add_zero, nn, nn2, nn3, nn4]
  have hb35 := hb34.keep hx5
  have hx05 : Ext m m5 := hX.trans (hx34.trans hx5)
  have hU6 : Upd m5 ((((m5.set (m3.next + 4) (some (.cells [.map none] (some 1)))).set (m3.next + 5) (some (.cells [.map none] (some 1)))).set (m3.next + 4) (some (.cells [.map (some q1)] (some 1)))).set (m3.next + 5) (some (.cells [.map (some q2)] (some 1)))) [m3.next + 4, m3.next + 5] := by
    have tr : ∀ {a b c : Mem}, Upd a b [m3.next + 4, m3.next + 5] → Upd b c [m3.next + 4, m3.next + 5] → Upd a c [m3.next + 4, m3.next + 5] := fun h k => h.trans k (fun _ h => h) (fun _ h => .inl h)
    exact tr (tr (tr (Upd.set (by simp)) (Upd.set (by simp))) (Upd.set (by simp))) (Upd.set (by simp))
  have hd6 : Bk ((((m5.set (m3.next + 4) (some (.cells [.map none] (some 1)))).set (m3.next + 5) (some (.cells [.map none] (some 1)))).set (m3.next + 4) (some (.cells [.map (some q1)] (some 1)))).set (m3.next + 5) (some (.cells [.map (some q2)] (some 1)))) (m3.next + 4) [.map (some q1)] 1 := ⟨by simp [Mem.set], by simp [Mem.set]; omega⟩
  have he6 : Bk ((((m5.set (m3.next + 4) (some (.cells [.map none] (some 1)))).set (m3.next + 5) (some (.cells [.map none] (some 1)))).set (m3.next + 4) (some (.cells [.map (some q1)] (some 1)))).set (m3.next + 5) (some (.cells [.map (some q2)] (some 1)))) (m3.next + 5) [.map (some q2)] 1 := ⟨by simp [Mem.set], by simp [Mem.set]; omega⟩
  generalize (((m5.set (m3.next + 4) (some (.cells [.map none] (some 1)))).set (m3.next + 5) (some (.cells [.map none] (some 1)))).set (m3.next + 4) (some (.cells [.map (some q1)] (some 1)))).set (m3.next + 5) (some (.cells [.map (some q2)] (some 1))) = m6 at hU6 hd6 he6 ⊢
  have hb3l := hb3.lt
  have hb36 := hb35.upd hU6 (by simp; omega)
  have hM16 := (hM1.keep hx5).upd hU6 (by simp; omega)
  have hM26 := hM2.upd hU6 (by simp; omega)
  have hx06 : Ext m m6 := hU6.ext_of hx05 (by have := hX.next; simp; omega)
  refine gC.of keys_spec ?_
  rintro _ _ ⟨rfl, rfl⟩
  try simp only [go_sem, Int.reduceBEq, Int.reduceBNe, Int.reduceNeg, reduceCtorEq, Nat.reduceEqDiff, Nat.reduceAdd, Nat.reduceLeDiff, Nat.reduceMul, Nat.reduceSub, Int.reduceToNat, Int.reduceLT, Int.reduceLE, load_w, load_a, store_b, idxS_b, set_blk, new_blk, set_next, new_next, len_s, ldW_c, ldA_c, stB_c, toArr_one, size_one, toList_toArr, size_toArr, List.length_cons, List.length_nil, List.getElem?_cons_zero, List.getElem?_cons_succ, Nat.zero_add, Nat.add_zero]
  have hx7 : Ext m6 (m6.new (.cells [.map (some q1)] (some 1))) := Ext.new
  have hg7 : Bk (m6.new (.cells [.map (some q1)] (some 1))) m6.next [.map (some q1)] 1 := Bk.new
  generalize m6.new (.cells [.map (some q1)] (some 1)) = m7 at hx7 hg7 ⊢
  have hd7 := hd6.keep hx7
  have he7 := he6.keep hx7
  have hb37 := hb36.keep hx7
  have hM17 := hM16.keep hx7
  have hM27 := hM26.keep hx7
  have hx07 := hx06.trans hx7
  refine gC.of (sorted_spec hg7 hM17 ol.wf ol.nd (by have := ol.len; omega)) ?_
  rintro w m8 ⟨ho8, hx8, hf8⟩
  have he8 := he7.keep hx8
  try simp only [go_sem, Int.reduceBEq, Int.reduceBNe, Int.reduceNeg, reduceCtorEq, Nat.reduceEqDiff, Nat.reduceAdd, Nat.reduceLeDiff, Nat.reduceMul, Nat.reduceSub, Int.reduceToNat, Int.reduceLT, Int.reduceLE, load_w, load_a, store_b, idxS_b, set_blk, new_blk, set_next, new_next, len_s, ldW_c, ldA_c, stB_c, toArr_one, size_one, toList_toArr, size_toArr, List.length_cons, List.length_nil, List.getElem?_cons_zero, List.getElem?_cons_succ, Nat.zero_add, Nat.add_zero, he8.at_]
  refine gC.of keys_spec ?_
  rintro _ _ ⟨rfl, rfl⟩
  try simp only [go_sem, Int.reduceBEq, Int.reduceBNe, Int.reduceNeg, reduceCtorEq, Nat.reduceEqDiff, Nat.reduceAdd, Nat.reduceLeDiff, Nat.reduceMul, Nat.reduceSub, Int.reduceToNat, Int.reduceLT, Int.reduceLE, load_w, load_a, store_b, idxS_b, set_blk, new_blk, set_next, new_next, len_s, ldW_c, ldA_c, stB_c, toArr_one, size_one, toList_toArr, size_toArr, List.length_cons, List.length_nil, List.getElem?_cons_zero, List.getElem?_cons_succ, Nat.zero_add, Nat.add_zero]
  have hx9 : Ext m8 (m8.new (.cells [.map (some q2)] (some 1))) := Ext.new
  have hg9 : Bk (m8.new (.cells [.map (some q2)] (some 1))) m8.next [.map (some q2)] 1 := Bk.new
  generalize m8.new (.cells [.map (some q2)] (some 1)) = m9 at hx9 hg9 ⊢
  refine gC.of (sorted_spec hg9 ((hM27.keep hx8).keep hx9) ok.wf ok.nd (by have := ok.len; omega)) ?_
  rintro w2 m10 ⟨ho10, hx10, -⟩
  have hx710 := (hx8.trans hx9).trans hx10
  have ho8' := (ho8.keep hx9).keep hx10
  have hll := ol.len
  have hkl := ok.len
  obtain ⟨v3, m11, p1, p2, p3⟩ := ho8'.appAll (by_ := 8) hx710 ho10.sl intsZ_one (by omega) (by omega) hf8
  have hcat : intsZ (sortI (l.map unitE)) ++ intsZ (sortI (k.map unitE)) = intsZ (sortI (l.map unitE) ++ sortI (k.map unitE)) := by unfold intsZ; rw [List.map_append]
  have hcl : l.length + k.length = (sortI (l.map unitE) ++ sortI (k.map unitE)).length := by rw [List.length_append, sortI_len, sortI_len, List.length_map, List.length_map]
  rw [hcat, hcl] at p2
  try simp only [go_sem, Int.reduceBEq, Int.reduceBNe, Int.reduceNeg, reduceCtorEq, Nat.reduceEqDiff, Nat.reduceAdd, Nat.reduceLeDiff, Nat.reduceMul, Nat.reduceSub, Int.reduceToNat, Int.reduceLT, Int.reduceLE, load_w, load_a, store_b, idxS_b, set_blk, new_blk, set_next, new_next, len_s, ldW_c, ldA_c, stB_c, toArr_one, size_one, toList_toArr, size_toArr, List.length_cons, List.length_nil, List.getElem?_cons_zero, List.getElem?_cons_succ, Nat.zero_add, Nat.add_zero, p1]
  refine gC.of (Sort_spec p2 p3 (by omega)) ?_
  rintro _ m12 ⟨rfl, ho12, -, hx12⟩
  try simp only [go_sem, Int.reduceBEq, Int.reduceBNe, Int.reduceNeg, reduceCtorEq, Nat.reduceEqDiff, Nat.reduceAdd, Nat.reduceLeDiff, Nat.reduceMul, Nat.reduceSub, Int.reduceToNat, Int.reduceLT, Int.reduceLE, load_w, load_a, store_b, idxS_b, set_blk, new_blk, set_next, new_next, len_s, ldW_c, ldA_c, stB_c, toArr_one, size_one, toList_toArr, size_toArr, List.length_cons, List.length_nil, List.getElem?_cons_zero, List.getElem?_cons_succ, Nat.zero_add, Nat.add_zero]
  have hsl : (sortI (l.map unitE) ++ sortI (k.map unitE)).length = (sortI (sortI (l.map unitE) ++ sortI (k.map unitE))).length := by rw [sortI_len]
  rw [hsl] at ho12
  refine gC.of (Compact_spec ho12 hx12 (by rw [← hsl, ← hcl]; omega)) ?_
  rintro v4 m13 ⟨ho13, hx13⟩
  try simp only [go_sem, Int.reduceBEq, Int.reduceBNe, Int.reduceNeg, reduceCtorEq, Nat.reduceEqDiff, Nat.reduceAdd, Nat.reduceLeDiff, Nat.reduceMul, Nat.reduceSub, Int.reduceToNat, Int.reduceLT, Int.reduceLE, load_w, load_a, store_b, idxS_b, set_blk, new_blk, set_next, new_next, len_s, ldW_c, ldA_c, stB_c, toArr_one, size_one, toList_toArr, size_toArr, List.length_cons, List.length_nil, List.getElem?_cons_zero, List.getElem?_cons_succ, Nat.zero_add, Nat.add_zero]
  have hcm := compL_len (l := sortI (sortI (l.map unitE) ++ sortI (k.map unitE)))
  refine gC.of (iDeleteFunc (p := fun u => !P (lkE l u) (lkE k u) (hasE l u) (hasE k u)) ho13 hx13 (by rw [← hsl, ← hcl] at hcm; omega) (fun M x hxM => ?_)) ?_
  · rw [gV_cap3]
    exact some1_spec (hd7.keep hxM) (he7.keep hxM) (hb37.keep hxM) (hM17.keep hxM) (hM27.keep hxM) (Ext.refl _) (fun m1 x y a b hx h1 h2 => hp m1 x y a b (hx07.trans (hxM.trans hx)) h1 h2)
  · rintro r m14 ⟨ho14, hx14⟩
    try simp only [go_sem, Int.reduceBEq, Int.reduceBNe, Int.reduceNeg, reduceCtorEq, Nat.reduceEqDiff, Nat.reduceAdd, Nat.reduceLeDiff, Nat.reduceMul, Nat.reduceSub, Int.reduceToNat, Int.reduceLT, Int.reduceLE, load_w, load_a, store_b, idxS_b, set_blk, new_blk, set_next, new_next, len_s, ldW_c, ldA_c, stB_c, toArr_one, size_one, toList_toArr, size_toArr, List.length_cons, List.length_nil, List.getElem?_cons_zero, List.getElem?_cons_succ, Nat.zero_add, Nat.add_zero]
    have e : ((compL (sortI (sortI (l.map unitE) ++ sortI (k.map unitE)))).filter fun x => !(fun u => !P (lkE l u) (lkE k u) (hasE l u) (hasE k u)) x) = someL l k P := by
      unfold someL; simp
    rw [e] at ho14
    exact ⟨ho14.weak hx07, hx07.trans hx14⟩
end Go.Am


/- Diff: Moved. -/
set_option linter.unusedVariables false
set_option linter.unusedSimpArgs false
namespace Go.Am
open Classical
variable {m : Mem}

noncomputable def movP (x y : PE) : Bool := decide (x.pl.pieces ≠ y.pl.pieces) || (decide (x.pl.pieces.length = 0) && decide (x.pl.core ≠ y.pl.core))

set_option maxHeartbeats 4000000 in
theorem moved_spec {x y : PE} (hx : PcV m x.pl.pieces x.pv) (hy : PcV m y.pl.pieces y.pv) (lx : x.pl.pieces.length < 1000000) (ly : y.pl.pieces.length < 1000000) :
    WC R F.diff_moved [eP x, eP y] m fun r m' => r = .bool (movP x y) ∧ Ext m m' := by
  refine WC.of R.diff_moved rfl ?_
  have o1 := x.one
  have o2 := y.one
  simp only [RC.diff_moved, eP, peV, plV, go_sem, Int.reduceBEq, Int.reduceBNe, Int.reduceNeg, reduceCtorEq, Nat.reduceEqDiff, Nat.reduceAdd, Nat.reduceLeDiff, Nat.reduceMul, Nat.reduceSub, Int.reduceToNat, Int.reduceLT, Int.reduceLE, o1, o2]
  have hx1 : Ext m (m.new (.cells [.int .i64 x.pl.unit, .int .i64 x.pl.share, .int .i64 x.pl.core, x.pv] (some 4))) := Ext.new
  have hb1 : Bk (m.new (.cells [.int .i64 x.pl.unit, .int .i64 x.pl.share, .int .i64 x.pl.core, x.pv] (some 4))) m.next [.int .i64 x.pl.unit, .int .i64 x.pl.share, .int .i64 x.pl.core, x.pv] 4 := Bk.new
  generalize m.new (.cells [.int .i64 x.pl.unit, .int .i64 x.pl.share, .int .i64 x.pl.core, x.pv] (some 4)) = m1 at hx1 hb1 ⊢
  have hx2 : Ext m1 (m1.new (.cells [.int .i64 y.pl.unit, .int .i64 y.pl.share, .int .i64 y.pl.core, y.pv] (some 4))) := Ext.new
  have hb2 : Bk (m1.new (.cells [.int .i64 y.pl.unit, .int .i64 y.pl.share, .int .i64 y.pl.core, y.pv] (some 4))) m1.next [.int .i64 y.pl.unit, .int .i64 y.pl.share, .int .i64 y.pl.core, y.pv] 4 := Bk.new
  generalize m1.new (.cells [.int .i64 y.pl.unit, .int .i64 y.pl.share, .int .i64 y.pl.core, y.pv] (some 4)) = m2 at hx2 hb2 ⊢
  have hb12 := hb1.keep hx2
  have hx' := (hx.keep hx1).keep hx2
  have hy' := (hy.keep hx1).keep hx2
  try simp only [go_sem, Int.reduceBEq, Int.reduceBNe, Int.reduceNeg, reduceCtorEq, Nat.reduceEqDiff, Nat.reduceAdd, Nat.reduceLeDiff, Nat.reduceMul, Nat.reduceSub, Int.reduceToNat, Int.reduceLT, Int.reduceLE, load_w, load_a, store_b, idxS_b, set_blk, new_blk, set_next, new_next, len_s, ldW_c, ldA_c, stB_c, toArr_one, size_one, toList_toArr, size_toArr, List.length_cons, List.length_nil, List.getElem?_cons_zero, List.getElem?_cons_succ, Nat.zero_add, Nat.add_zero, hb12.at_, hb2.at_]
  refine gC.of (Equal_spec hx' hy' lx ly) ?_
  rintro _ m3 ⟨rfl, hm⟩
  subst hm
  by_cases h1 : x.pl.pieces = y.pl.pieces
  · try simp only [go_sem, Int.reduceBEq, Int.reduceBNe, Int.reduceNeg, reduceCtorEq, Nat.reduceEqDiff, Nat.reduceAdd, Nat.reduceLeDiff, Nat.reduceMul, Nat.reduceSub, Int.reduceToNat, Int.reduceLT, Int.reduceLE, load_w, load_a, store_b, idxS_b, set_blk, new_blk, set_next, new_next, len_s, ldW_c, ldA_c, stB_c, toArr_one, size_one, toList_toArr, size_toArr, List.length_cons, List.length_nil, List.getElem?_cons_zero, List.getElem?_cons_succ, Nat.zero_add, Nat.add_zero, decide_eq_true h1, hb12.at_, hx'.len]
    by_cases h2 : x.pl.pieces.length = 0
    · have e2 : (((x.pl.pieces.length : Nat) : Int) == 0) = true := by rw [beq_iff_eq]; omega
      try simp only [go_sem, Int.reduceBEq, Int.reduceBNe, Int.reduceNeg, reduceCtorEq, Nat.reduceEqDiff, Nat.reduceAdd, Nat.reduceLeDiff, Nat.reduceMul, Nat.reduceSub, Int.reduceToNat, Int.reduceLT, Int.reduceLE, load_w, load_a, store_b, idxS_b, set_blk, new_blk, set_next, new_next, len_s, ldW_c, ldA_c, stB_c, toArr_one, size_one, toList_toArr, size_toArr, List.length_cons, List.length_nil, List.getElem?_cons_zero, List.getElem?_cons_succ, Nat.zero_add, Nat.add_zero, e2, hb12.at_, hb2.at_]
      refine ⟨?_, hx1.trans hx2⟩
      unfold movP
      rw [decide_eq_false (by simpa using h1), decide_eq_true h2]
      congr 1
      by_cases h3 : x.pl.core = y.pl.core <;> simp [h3]
    · have e2 : (((x.pl.pieces.length : Nat) : Int) == 0) = false := by rw [beq_eq_false_iff_ne]; omega
      try simp only [go_sem, Int.reduceBEq, Int.reduceBNe, Int.reduceNeg, reduceCtorEq, Nat.reduceEqDiff, Nat.reduceAdd, Nat.reduceLeDiff, Nat.reduceMul, Nat.reduceSub, Int.reduceToNat, Int.reduceLT, Int.reduceLE, load_w, load_a, store_b, idxS_b, set_blk, new_blk, set_next, new_next, len_s, ldW_c, ldA_c, stB_c, toArr_one, size_one, toList_toArr, size_toArr, List.length_cons, List.length_nil, List.getElem?_cons_zero, List.getElem?_cons_succ, Nat.zero_add, Nat.add_zero, e2]
      refine ⟨?_, hx1.trans hx2⟩
      unfold movP
      rw [decide_eq_false (by simpa using h1), decide_eq_false h2]; rfl
  · try simp only [go_sem, Int.reduceBEq, Int.reduceBNe, Int.reduceNeg, reduceCtorEq, Nat.reduceEqDiff, Nat.reduceAdd, Nat.reduceLeDiff, Nat.reduceMul, Nat.reduceSub, Int.reduceToNat, Int.reduceLT, Int.reduceLE, load_w, load_a, store_b, idxS_b, set_blk, new_blk, set_next, new_next, len_s, ldW_c, ldA_c, stB_c, toArr_one, size_one, toList_toArr, size_toArr, List.length_cons, List.length_nil, List.getElem?_cons_zero, List.getElem?_cons_succ, Nat.zero_add, Nat.add_zero, decide_eq_false h1]
    refine ⟨?_, hx1.trans hx2⟩
    unfold movP
    rw [decide_eq_true (by simpa using h1)]; rfl

noncomputable def MovP (x y : PE) (a b : Bool) : Bool := a && (b && movP x y)
theorem Moved1_spec {x y : PE} {a b : Bool} (hx : PcV m x.pl.pieces x.pv) (hy : PcV m y.pl.pieces y.pv) (lx : x.pl.pieces.length < 1000000) (ly : y.pl.pieces.length < 1000000) :
    WC R F.diff_Moved_1 [eP x, eP y, .bool a, .bool b] m fun r m' => r = .bool (MovP x y a b) ∧ Ext m m' := by
  refine WC.of R.diff_Moved_1 rfl ?_
  have o1 := x.one
  have o2 := y.one
  simp only [RC.diff_Moved_1, eP, peV, plV, go_sem, Int.reduceBEq, Int.reduceBNe, Int.reduceNeg, reduceCtorEq, Nat.reduceEqDiff, Nat.reduceAdd, Nat.reduceLeDiff, Nat.reduceMul, Nat.reduceSub, Int.reduceToNat, Int.reduceLT, Int.reduceLE, o1, o2]
  have hx1 : Ext m (m.new (.cells [.int .i64 x.pl.unit, .int .i64 x.pl.share, .int .i64 x.pl.core, x.pv] (some 4))) := Ext.new
  have hb1 : Bk (m.new (.cells [.int .i64 x.pl.unit, .int .i64 x.pl.share, .int .i64 x.pl.core, x.pv] (some 4))) m.next [.int .i64 x.pl.unit, .int .i64 x.pl.share, .int .i64 x.pl.core, x.pv] 4 := Bk.new
  generalize m.new (.cells [.int .i64 x.pl.unit, .int .i64 x.pl.share, .int .i64 x.pl.core, x.pv] (some 4)) = m1 at hx1 hb1 ⊢
  have hx2 : Ext m1 (m1.new (.cells [.int .i64 y.pl.unit, .int .i64 y.pl.share, .int .i64 y.pl.core, y.pv] (some 4))) := Ext.new
  have hb2 : Bk (m1.new (.cells [.int .i64 y.pl.unit, .int .i64 y.pl.share, .int .i64 y.pl.core, y.pv] (some 4))) m1.next [.int .i64 y.pl.unit, .int .i64 y.pl.share, .int .i64 y.pl.core, y.pv] 4 := Bk.new
  generalize m1.new (.cells [.int .i64 y.pl.unit, .int .i64 y.pl.share, .int .i64 y.pl.core, y.pv] (some 4)) = m2 at hx2 hb2 ⊢
  have hb12 := hb1.keep hx2
  have hx' := (hx.keep hx1).keep hx2
  have hy' := (hy.keep hx1).keep hx2
  unfold MovP
  cases a <;> cases b
  · try simp only [go_sem, Int.reduceBEq, Int.reduceBNe, Int.reduceNeg, reduceCtorEq, Nat.reduceEqDiff, Nat.reduceAdd, Nat.reduceLeDiff, Nat.reduceMul, Nat.reduceSub, Int.reduceToNat, Int.reduceLT, Int.reduceLE, load_w, load_a, store_b, idxS_b, set_blk, new_blk, set_next, new_next, len_s, ldW_c, ldA_c, stB_c, toArr_one, size_one, toList_toArr, size_toArr, List.length_cons, List.length_nil, List.getElem?_cons_zero, List.getElem?_cons_succ, Nat.zero_add, Nat.add_zero]
    exact hx1.trans hx2
  · try simp only [go_sem, Int.reduceBEq, Int.reduceBNe, Int.reduceNeg, reduceCtorEq, Nat.reduceEqDiff, Nat.reduceAdd, Nat.reduceLeDiff, Nat.reduceMul, Nat.reduceSub, Int.reduceToNat, Int.reduceLT, Int.reduceLE, load_w, load_a, store_b, idxS_b, set_blk, new_blk, set_next, new_next, len_s, ldW_c, ldA_c, stB_c, toArr_one, size_one, toList_toArr, size_toArr, List.length_cons, List.length_nil, List.getElem?_cons_zero, List.getElem?_cons_succ, Nat.zero_add, Nat.add_zero]
    exact hx1.trans hx2
  · try simp only [go_sem, Int.reduceBEq, Int.reduceBNe, Int.reduceNeg, reduceCtorEq, Nat.reduceEqDiff, Nat.reduceAdd, Nat.reduceLeDiff, Nat.reduceMul, Nat.reduceSub, Int.reduceToNat, Int.reduceLT, Int.reduceLE, load_w, load_a, store_b, idxS_b, set_blk, new_blk, set_next, new_next, len_s, ldW_c, ldA_c, stB_c, toArr_one, size_one, toList_toArr, size_toArr, List.length_cons, List.length_nil, List.getElem?_cons_zero, List.getElem?_cons_succ, Nat.zero_add, Nat.add_zero]
    exact hx1.trans hx2
  · try simp only [go_sem, Int.reduceBEq, Int.reduceBNe, Int.reduceNeg, reduceCtorEq, Nat.reduceEqDiff, Nat.reduceAdd, Nat.reduceLeDiff, Nat.reduceMul, Nat.reduceSub, Int.reduceToNat, Int.reduceLT, Int.reduceLE, load_w, load_a, store_b, idxS_b, set_blk, new_blk, set_next, new_next, len_s, ldW_c, ldA_c, stB_c, toArr_one, size_one, toList_toArr, size_toArr, List.length_cons, List.length_nil, List.getElem?_cons_zero, List.getElem?_cons_succ, Nat.zero_add, Nat.add_zero, hb12.at_, hb2.at_]
    refine gC.of (moved_spec hx' hy' lx ly) ?_
    rintro _ m3 ⟨rfl, hx3⟩
    try simp only [go_sem, Int.reduceBEq, Int.reduceBNe, Int.reduceNeg, reduceCtorEq, Nat.reduceEqDiff, Nat.reduceAdd, Nat.reduceLeDiff, Nat.reduceMul, Nat.reduceSub, Int.reduceToNat, Int.reduceLT, Int.reduceLE, load_w, load_a, store_b, idxS_b, set_blk, new_blk, set_next, new_next, len_s, ldW_c, ldA_c, stB_c, toArr_one, size_one, toList_toArr, size_toArr, List.length_cons, List.length_nil, List.getElem?_cons_zero, List.getElem?_cons_succ, Nat.zero_add, Nat.add_zero]
    exact (hx1.trans hx2).trans hx3

theorem e0_pcs {m : Mem} : PcV m e0.pl.pieces e0.pv := ⟨.nil rfl rfl, trivial⟩
theorem Moved_spec {l k : List PE} {f g : Int} {c d : BitVec 32} {pv kv : Value} (hs : RowS m l pv) (hk : RowS m k kv) (ol : OkE l) (ok : OkE k)
    (pl : ∀ e ∈ l, PcV m e.pl.pieces e.pv ∧ e.pl.pieces.length < 1000000) (pk : ∀ e ∈ k, PcV m e.pl.pieces e.pv ∧ e.pl.pieces.length < 1000000) :
    WC R F.diff_Moved [.agg #[.int .i64 f, u32 c, pv], .agg #[.int .i64 g, u32 d, kv]] m fun r m' => Own m m' 1 (someL l k MovP).length (intsZ (someL l k MovP)) r ∧ Ext m m' := by
  refine WC.of R.diff_Moved rfl ?_
  simp only [RC.diff_Moved, go_sem, Int.reduceBEq, Int.reduceBNe, Int.reduceNeg, reduceCtorEq, Nat.reduceEqDiff, Nat.reduceAdd, Nat.reduceLeDiff, Nat.reduceMul, Nat.reduceSub, Int.reduceToNat, Int.reduceLT, Int.reduceLE, hs.sl.one, hk.sl.one]
  have hx1 : Ext m (m.new (.cells [.int .i64 f, u32 c, pv] (some 3))) := Ext.new
  have hb1 : Bk (m.new (.cells [.int .i64 f, u32 c, pv] (some 3))) m.next [.int .i64 f, u32 c, pv] 3 := Bk.new
  generalize m.new (.cells [.int .i64 f, u32 c, pv] (some 3)) = m1 at hx1 hb1 ⊢
  have hx2 : Ext m1 (m1.new (.cells [.int .i64 g, u32 d, kv] (some 3))) := Ext.new
  have hb2 : Bk (m1.new (.cells [.int .i64 g, u32 d, kv] (some 3))) m1.next [.int .i64 g, u32 d, kv] 3 := Bk.new
  generalize m1.new (.cells [.int .i64 g, u32 d, kv] (some 3)) = m2 at hx2 hb2 ⊢
  have hb12 := hb1.keep hx2
  have hX := hx1.trans hx2
  try simp only [go_sem, Int.reduceBEq, Int.reduceBNe, Int.reduceNeg, reduceCtorEq, Nat.reduceEqDiff, Nat.reduceAdd, Nat.reduceLeDiff, Nat.reduceMul, Nat.reduceSub, Int.reduceToNat, Int.reduceLT, Int.reduceLE, load_w, load_a, store_b, idxS_b, set_blk, new_blk, set_next, new_next, len_s, ldW_c, ldA_c, stB_c, toArr_one, size_one, toList_toArr, size_toArr, List.length_cons, List.length_nil, List.getElem?_cons_zero, List.getElem?_cons_succ, Nat.zero_add, Nat.add_zero, hb12.at_, hb2.at_]
  have hpe : ∀ {L : List PE} {x : PE} {M : Mem}, (∀ e ∈ L, PcV m e.pl.pieces e.pv ∧ e.pl.pieces.length < 1000000) → Ext m M → (x ∈ L ∨ x = e0) → PcV M x.pl.pieces x.pv ∧ x.pl.pieces.length < 1000000 := by
    intro L x M h hM hx
    rcases hx with hx | rfl
    · exact ⟨(h x hx).1.keep hM, (h x hx).2⟩
    · exact ⟨e0_pcs, by show (0 : Nat) < 1000000; omega⟩
  refine gC.of (some_spec (P := MovP) (hs.keep hX) (hk.keep hX) ol ok ⟨_, rfl⟩ ?_) ?_
  · intro m3 x y a b hx3 h1 h2
    rw [gV_func]
    exact Moved1_spec (hpe pl (hX.trans hx3) h1).1 (hpe pk (hX.trans hx3) h2).1 (hpe pl (hX.trans hx3) h1).2 (hpe pk (hX.trans hx3) h2).2
  · rintro r m4 ⟨ho, hx4⟩
    try simp only [go_sem, Int.reduceBEq, Int.reduceBNe, Int.reduceNeg, reduceCtorEq, Nat.reduceEqDiff, Nat.reduceAdd, Nat.reduceLeDiff, Nat.reduceMul, Nat.reduceSub, Int.reduceToNat, Int.reduceLT, Int.reduceLE, load_w, load_a, store_b, idxS_b, set_blk, new_blk, set_next, new_next, len_s, ldW_c, ldA_c, stB_c, toArr_one, size_one, toList_toArr, size_toArr, List.length_cons, List.length_nil, List.getElem?_cons_zero, List.getElem?_cons_succ, Nat.zero_add, Nat.add_zero]
    exact ⟨ho.weak hX, hX.trans hx4⟩
end Go.Am


/- The stage: its state, and own. -/
set_option linter.unusedVariables false
set_option linter.unusedSimpArgs false
namespace Go.Am
open Classical
variable {m : Mem}

/-- A plan as it lies, out of some blocks. -/
def PlanE (m : Mem) (fp : List Nat) (p : PlanD) (v : Value) : Prop :=
  ∃ l : List PE, l.map PE.pl = p.places ∧ RowS m l v ∧ (∀ b ∈ vb v, b ∉ fp) ∧ ∀ e ∈ l, PcV m e.pl.pieces e.pv ∧ ∀ b ∈ vb e.pv, b ∉ fp
theorem PlanE.keep {m m' : Mem} {fp : List Nat} {p : PlanD} {v : Value} (h : PlanE m fp p v) (hx : Ext m m') : PlanE m' fp p v :=
  let ⟨l, a, b, c, d⟩ := h; ⟨l, a, b.keep hx, c, fun e he => ⟨(d e he).1.keep hx, (d e he).2⟩⟩
theorem PlanE.upd {m m' : Mem} {fp : List Nat} {p : PlanD} {v : Value} (h : PlanE m fp p v) (hx : Upd m m' fp) : PlanE m' fp p v :=
  let ⟨l, a, b, c, d⟩ := h; ⟨l, a, ⟨b.sl.upd b.lt (SlOff.vb_iff.2 c) hx, b.lt.upd hx⟩, c, fun e he => ⟨(d e he).1.upd hx (d e he).2, (d e he).2⟩⟩
theorem PlanE.pls {m : Mem} {fp : List Nat} {p : PlanD} {v : Value} (h : PlanE m fp p v) : PlsV m p.places v := by
  obtain ⟨l, a, b, c, d⟩ := h
  rw [← a]
  refine ⟨l.flatMap peV, by rw [List.length_map]; exact b.sl, b.lt, fun i hi => ?_⟩
  have hi' : i < l.length := by simpa using hi
  refine ⟨l[i].pv, ?_, ?_⟩
  · rw [flat_drop peV_len hi']; simp [peV]
  · have := (d _ (List.getElem_mem hi')).1
    simpa using this
theorem PlanE.one {m : Mem} {fp : List Nat} {p : PlanD} {v : Value} (h : PlanE m fp p v) : v.oneCell' = true := let ⟨_, _, b, _⟩ := h; b.sl.one
theorem PlanE.slice {m : Mem} {fp : List Nat} {p : PlanD} {v : Value} (h : PlanE m fp p v) : ∃ a n c, v = .slice a n c := by
  obtain ⟨l, a, b, c, d⟩ := h
  cases b.sl <;> exact ⟨_, _, _, rfl⟩
theorem PlanE.new {M m : Mem} {l : List PE} {v : Value} {p : PlanD} {fp : List Nat} (h : NewPls M m l v) (hl : l.map PE.pl = p.places) (hf : ∀ x ∈ fp, x < M.next) : PlanE m fp p v :=
  ⟨l, hl, ⟨h.pls.own.sl, h.pls.own.lt⟩, fun b hb hm => by have := h.pls.own.ge b hb; have := hf b hm; omega, fun e he => ⟨(h.pls.el e he).1, fun b hb hm => by have := h.new e he b hb; have := hf b hm; omega⟩⟩

/-- Plans that a stage holds. -/
structure Good (p : PlanD) : Prop where
  chk : CheckP p
  light : lightP p = true
theorem Good.l {p : PlanD} (h : Good p) : PlanL p := by
  have h := h.light
  simp only [lightP, Bool.and_eq_true, decide_eq_true_eq, List.all_eq_true] at h
  refine ⟨by omega, fun x hx => ?_⟩
  have := h.1 x (by rw [List.take_of_length_le (by omega)]; exact hx)
  omega
theorem Good.len {p : PlanD} (h : Good p) : p.places.length ≤ 60 := by
  have h := h.light
  simp only [lightP, Bool.and_eq_true, decide_eq_true_eq] at h; exact h.2
theorem Good.asc {p : PlanD} (h : Good p) : Asc p.places := by
  intro i j hij hj
  induction j with
  | zero => omega
  | succ j ih =>
    obtain ⟨_, _, g⟩ := h.chk.2.2.2.2.1 (j + 1) hj
    have g := g (by omega)
    simp only [Nat.add_sub_cancel] at g
    by_cases e : i = j
    · subst e; exact g
    · have := ih (by omega) (by omega); omega
theorem Good.unit {p : PlanD} (h : Good p) : ∀ x ∈ p.places, isU x.unit := by
  intro x hx
  obtain ⟨i, hi, rfl⟩ := List.getElem_of_mem hx
  obtain ⟨_, g, -⟩ := h.chk.2.2.2.2.1 i hi
  exact g.1
theorem isU_range {u : Int} (h : isU u) : 1 ≤ u ∧ u ≤ 1040 := by
  unfold isU at h; omega
theorem Good.drop0 {p : PlanD} (h : Good p) : dropU p.places 0 = p.places := dropU_not fun k hk e => by
  have := isU_range (h.unit _ (List.getElem_mem hk)); omega
theorem Good.ok {p : PlanD} (h : Good p) {l : List PE} (hl : l.map PE.pl = p.places) : OkE l := by
  have hu : l.map unitE = p.places.map (·.unit) := by rw [← hl, List.map_map]; rfl
  refine ⟨fun e he => ?_, ?_, ?_⟩
  · have : e.pl ∈ p.places := by rw [← hl]; exact List.mem_map.2 ⟨e, he, rfl⟩
    have := isU_range (h.unit _ this)
    show (Lit.int .i64 e.pl.unit).wf = true
    have h1 : IntKind.min .i64 = -9223372036854775808 := by decide
    have h2 : IntKind.max .i64 = 9223372036854775807 := by decide
    simp only [Lit.wf, h1, h2, Bool.and_eq_true, decide_eq_true_eq]
    omega
  · rw [hu, List.nodup_iff_pairwise_ne, List.pairwise_map]
    refine (List.pairwise_iff_getElem (R := fun (a b : Pl) => a.unit ≠ b.unit)).2 fun i j hi hj hij => ?_
    have := h.asc i j hij hj
    omega
  · have := h.len
    rw [← List.length_map (f := PE.pl), hl]; omega

theorem own_spec {p : PlanD} {v : Value} (hv : PlsV m p.places v) (hg : Good p) :
    WC R F.stage_own [.agg (planV p v).toArray] m fun r m' => ∃ lv, r = .agg (planV p lv).toArray ∧ ∀ fp, (∀ x ∈ fp, x < m.next) → PlanE m' fp p lv ∧ Ext m m' := by
  refine WC.of R.stage_own rfl ?_
  simp only [RC.stage_own, planV, go_sem, Int.reduceBEq, Int.reduceBNe, Int.reduceNeg, reduceCtorEq, Nat.reduceEqDiff, Nat.reduceAdd, Nat.reduceLeDiff, Nat.reduceMul, Nat.reduceSub, Int.reduceToNat, Int.reduceLT, Int.reduceLE, hv.one]
  have hx1 : Ext m (m.new (.cells [.int .i64 p.frame, u32 p.cores, v] (some 3))) := Ext.new
  have hb1 : Bk (m.new (.cells [.int .i64 p.frame, u32 p.cores, v] (some 3))) m.next [.int .i64 p.frame, u32 p.cores, v] 3 := Bk.new
  generalize m.new (.cells [.int .i64 p.frame, u32 p.cores, v] (some 3)) = m1 at hx1 hb1 ⊢
  have hx2 : Ext m1 (m1.new (.cells [.int .i64 0, u32 0#32, .slice none 0 0] (some 3))) := Ext.new
  have hb2 : Bk (m1.new (.cells [.int .i64 0, u32 0#32, .slice none 0 0] (some 3))) m1.next [.int .i64 0, u32 0#32, .slice none 0 0] 3 := Bk.new
  generalize m1.new (.cells [.int .i64 0, u32 0#32, .slice none 0 0] (some 3)) = m2 at hx2 hb2 ⊢
  have hb12 := hb1.keep hx2
  have hX := hx1.trans hx2
  try simp only [go_sem, Int.reduceBEq, Int.reduceBNe, Int.reduceNeg, reduceCtorEq, Nat.reduceEqDiff, Nat.reduceAdd, Nat.reduceLeDiff, Nat.reduceMul, Nat.reduceSub, Int.reduceToNat, Int.reduceLT, Int.reduceLE, load_w, load_a, store_b, idxS_b, set_blk, new_blk, set_next, new_next, len_s, ldW_c, ldA_c, stB_c, toArr_one, size_one, toList_toArr, size_toArr, List.length_cons, List.length_nil, List.getElem?_cons_zero, List.getElem?_cons_succ, Nat.zero_add, Nat.add_zero, hb12.at_]
  refine gC.of (Drop_spec (p := p) (u := 0) ⟨v, rfl, hv.keep hX⟩ hg.l (by have := hg.len; omega) hg.asc) ?_
  rintro _ m3 ⟨l, lv, rfl, hl, hN⟩
  rw [hg.drop0] at hl
  have hlo := hN.pls.own.sl.one
  obtain ⟨wa, wn, wc, rfl⟩ := slice_of hN.pls.own
  have hr := hb2.keep hN.pls.ext
  simp only [planV]
  try simp only [go_sem, Int.reduceBEq, Int.reduceBNe, Int.reduceNeg, reduceCtorEq, Nat.reduceEqDiff, Nat.reduceAdd, Nat.reduceLeDiff, Nat.reduceMul, Nat.reduceSub, Int.reduceToNat, Int.reduceLT, Int.reduceLE, load_w, load_a, store_b, idxS_b, set_blk, new_blk, set_next, new_next, len_s, ldW_c, ldA_c, stB_c, toArr_one, size_one, toList_toArr, size_toArr, List.length_cons, List.length_nil, List.getElem?_cons_zero, List.getElem?_cons_succ, Nat.zero_add, Nat.add_zero, hlo, hr.at_]
  have hn1 := hb1.lt
  have hn2 := hb2.lt
  have hU : ∀ {m'}, Upd m3 m' [m1.next] → NewPls m m' l (.slice wa wn wc) := fun hU => (hN.weak hX).box hU (by have := hx1.next; simp; omega) (by simpa using (hN.out (x := m1.next) (.inl hn2)).1) (fun b hb e he => by simp at hb; subst hb; exact (hN.out (x := m1.next) (.inl hn2)).2 e he)
  have fin : ∀ {m'}, NewPls m m' l (.slice wa wn wc) → ∀ fp, (∀ x ∈ fp, x < m.next) → PlanE m' fp p (.slice wa wn wc) ∧ Ext m m' := fun hN2 fp hf => ⟨PlanE.new hN2 hl hf, hN2.pls.ext⟩
  refine ⟨_, rfl, fin (hU ?_)⟩
  exact Upd.set (by simp)
end Go.Am


/- The stage's methods. -/
set_option linter.unusedVariables false
set_option linter.unusedSimpArgs false
namespace Go.Am
open Classical
variable {m : Mem}

/-- A stage at s. -/
structure StV (m : Mem) (s : Nat) (fp : List Nat) (A S : PlanD) (n : Int) (av sv : Value) : Prop where
  bk : Bk m s [.int .i64 A.frame, u32 A.cores, av, .int .i64 S.frame, u32 S.cores, sv, .int .i64 n] 7
  a : PlanE m fp A av
  s_ : PlanE m fp S sv
  ga : Good A
  gs : Good S
theorem StV.keep {m m' : Mem} {s : Nat} {fp : List Nat} {A S : PlanD} {n : Int} {av sv : Value} (h : StV m s fp A S n av sv) (hx : Ext m m') : StV m' s fp A S n av sv := ⟨h.bk.keep hx, h.a.keep hx, h.s_.keep hx, h.ga, h.gs⟩
theorem StV.upd {m m' : Mem} {s : Nat} {fp fq : List Nat} {A S : PlanD} {n : Int} {av sv : Value} (h : StV m s fp A S n av sv) (hx : Upd m m' fq) (hs : s ∉ fq) (hq : ∀ x ∈ fq, x ∈ fp) : StV m' s fp A S n av sv :=
  have hx' : Upd m m' fp := ⟨hx.next, fun b hb hn => hx.same b hb fun hm => hn (hq b hm)⟩
  ⟨h.bk.upd hx hs, h.a.upd hx', h.s_.upd hx', h.ga, h.gs⟩

theorem none_spec {s : Nat} {fp : List Nat} {A S : PlanD} {n : Int} {av sv : Value} (h : StV m s fp A S n av sv) : WC R F.stage_Stage_none [pt s] m fun r m' => r = .bool false ∧ m' = m := by
  refine WC.of R.stage_Stage_none rfl ?_
  have hf := h.ga.chk.1
  have e : ((A.frame : Int) == 0) = false := by rw [beq_eq_false_iff_ne]; omega
  simp only [RC.stage_Stage_none, pt, go_sem, Int.reduceBEq, Int.reduceBNe, Int.reduceNeg, reduceCtorEq, Nat.reduceEqDiff, Nat.reduceAdd, Nat.reduceLeDiff, Nat.reduceMul, Nat.reduceSub, Int.reduceToNat, Int.reduceLT, Int.reduceLE, load_w, load_a, store_b, idxS_b, set_blk, new_blk, set_next, new_next, len_s, ldW_c, ldA_c, stB_c, toArr_one, size_one, toList_toArr, size_toArr, List.length_cons, List.length_nil, List.getElem?_cons_zero, List.getElem?_cons_succ, Nat.zero_add, Nat.add_zero, h.bk.at_, e]

theorem Active_spec {s : Nat} {fp : List Nat} {A S : PlanD} {n : Int} {av sv : Value} (h : StV m s fp A S n av sv) :
    WC R F.stage_Stage_Active [pt s] m fun r m' => ∃ lv, r = .agg (planV A lv).toArray ∧ ∀ fq, (∀ x ∈ fq, x < m.next) → PlanE m' fq A lv ∧ Ext m m' := by
  refine WC.of R.stage_Stage_Active rfl ?_
  simp only [RC.stage_Stage_Active, pt, go_sem, Int.reduceBEq, Int.reduceBNe, Int.reduceNeg, reduceCtorEq, Nat.reduceEqDiff, Nat.reduceAdd, Nat.reduceLeDiff, Nat.reduceMul, Nat.reduceSub, Int.reduceToNat, Int.reduceLT, Int.reduceLE]
  have hx1 : Ext m (m.new (.cells [.int .i64 0, u32 0#32, .slice none 0 0] (some 3))) := Ext.new
  have hb1 : Bk (m.new (.cells [.int .i64 0, u32 0#32, .slice none 0 0] (some 3))) m.next [.int .i64 0, u32 0#32, .slice none 0 0] 3 := Bk.new
  generalize m.new (.cells [.int .i64 0, u32 0#32, .slice none 0 0] (some 3)) = m1 at hx1 hb1 ⊢
  have h1 := h.keep hx1
  refine gC.of (none_spec h1) ?_
  rintro _ _ ⟨rfl, hm⟩
  replace hm := hm.symm
  subst hm
  try simp only [go_sem, Int.reduceBEq, Int.reduceBNe, Int.reduceNeg, reduceCtorEq, Nat.reduceEqDiff, Nat.reduceAdd, Nat.reduceLeDiff, Nat.reduceMul, Nat.reduceSub, Int.reduceToNat, Int.reduceLT, Int.reduceLE, load_w, load_a, store_b, idxS_b, set_blk, new_blk, set_next, new_next, len_s, ldW_c, ldA_c, stB_c, toArr_one, size_one, toList_toArr, size_toArr, List.length_cons, List.length_nil, List.getElem?_cons_zero, List.getElem?_cons_succ, Nat.zero_add, Nat.add_zero, h1.bk.at_]
  refine gC.of (own_spec (p := A) h1.a.pls h1.ga) ?_
  rintro _ m2 ⟨lv, rfl, hP⟩
  have hx2 := (hP [] (by simp)).2
  have hlo := (hP [] (by simp)).1.one
  obtain ⟨wa, wn, wc, rfl⟩ := (hP [] (by simp)).1.slice
  have hr := hb1.keep hx2
  simp only [planV]
  try simp only [go_sem, Int.reduceBEq, Int.reduceBNe, Int.reduceNeg, reduceCtorEq, Nat.reduceEqDiff, Nat.reduceAdd, Nat.reduceLeDiff, Nat.reduceMul, Nat.reduceSub, Int.reduceToNat, Int.reduceLT, Int.reduceLE, load_w, load_a, store_b, idxS_b, set_blk, new_blk, set_next, new_next, len_s, ldW_c, ldA_c, stB_c, toArr_one, size_one, toList_toArr, size_toArr, List.length_cons, List.length_nil, List.getElem?_cons_zero, List.getElem?_cons_succ, Nat.zero_add, Nat.add_zero, hlo, hr.at_]
  have hl1 := hb1.lt
  have fin : ∀ {m'}, Upd m2 m' [m.next] → ∀ fq, (∀ x ∈ fq, x < m.next) → PlanE m' fq A (.slice wa wn wc) ∧ Ext m m' := fun hU fq hf => by
    have k := (hP (m.next :: fq) (by intro x hx; rcases List.mem_cons.1 hx with rfl | hx; exact hl1; have := hf x hx; omega)).1
    have hU' : Upd m2 _ (m.next :: fq) := ⟨hU.next, fun b hb hn => hU.same b hb fun hm => hn (by simp at hm; simp [hm])⟩
    have k := k.upd hU'
    refine ⟨?_, hU.ext_of (hx1.trans hx2) (by simp)⟩
    obtain ⟨l, a, b, c, d⟩ := k
    exact ⟨l, a, b, fun x hx hm => c x hx (by simp [hm]), fun e he => ⟨(d e he).1, fun x hx hm => (d e he).2 x hx (by simp [hm])⟩⟩
  refine ⟨_, rfl, fin ?_⟩
  exact Upd.set (by simp)
theorem Staged_spec {s : Nat} {fp : List Nat} {A S : PlanD} {n : Int} {av sv : Value} (h : StV m s fp A S n av sv) :
    WC R F.stage_Stage_Staged [pt s] m fun r m' => ∃ lv, r = .agg (planV S lv).toArray ∧ ∀ fq, (∀ x ∈ fq, x < m.next) → PlanE m' fq S lv ∧ Ext m m' := by
  refine WC.of R.stage_Stage_Staged rfl ?_
  simp only [RC.stage_Stage_Staged, pt, go_sem, Int.reduceBEq, Int.reduceBNe, Int.reduceNeg, reduceCtorEq, Nat.reduceEqDiff, Nat.reduceAdd, Nat.reduceLeDiff, Nat.reduceMul, Nat.reduceSub, Int.reduceToNat, Int.reduceLT, Int.reduceLE]
  have hx1 : Ext m (m.new (.cells [.int .i64 0, u32 0#32, .slice none 0 0] (some 3))) := Ext.new
  have hb1 : Bk (m.new (.cells [.int .i64 0, u32 0#32, .slice none 0 0] (some 3))) m.next [.int .i64 0, u32 0#32, .slice none 0 0] 3 := Bk.new
  generalize m.new (.cells [.int .i64 0, u32 0#32, .slice none 0 0] (some 3)) = m1 at hx1 hb1 ⊢
  have h1 := h.keep hx1
  refine gC.of (none_spec h1) ?_
  rintro _ _ ⟨rfl, hm⟩
  replace hm := hm.symm
  subst hm
  try simp only [go_sem, Int.reduceBEq, Int.reduceBNe, Int.reduceNeg, reduceCtorEq, Nat.reduceEqDiff, Nat.reduceAdd, Nat.reduceLeDiff, Nat.reduceMul, Nat.reduceSub, Int.reduceToNat, Int.reduceLT, Int.reduceLE, load_w, load_a, store_b, idxS_b, set_blk, new_blk, set_next, new_next, len_s, ldW_c, ldA_c, stB_c, toArr_one, size_one, toList_toArr, size_toArr, List.length_cons, List.length_nil, List.getElem?_cons_zero, List.getElem?_cons_succ, Nat.zero_add, Nat.add_zero, h1.bk.at_]
  refine gC.of (own_spec (p := S) h1.s_.pls h1.gs) ?_
  rintro _ m2 ⟨lv, rfl, hP⟩
  have hx2 := (hP [] (by simp)).2
  have hlo := (hP [] (by simp)).1.one
  obtain ⟨wa, wn, wc, rfl⟩ := (hP [] (by simp)).1.slice
  have hr := hb1.keep hx2
  simp only [planV]
  try simp only [go_sem, Int.reduceBEq, Int.reduceBNe, Int.reduceNeg, reduceCtorEq, Nat.reduceEqDiff, Nat.reduceAdd, Nat.reduceLeDiff, Nat.reduceMul, Nat.reduceSub, Int.reduceToNat, Int.reduceLT, Int.reduceLE, load_w, load_a, store_b, idxS_b, set_blk, new_blk, set_next, new_next, len_s, ldW_c, ldA_c, stB_c, toArr_one, size_one, toList_toArr, size_toArr, List.length_cons, List.length_nil, List.getElem?_cons_zero, List.getElem?_cons_succ, Nat.zero_add, Nat.add_zero, hlo, hr.at_]
  have hl1 := hb1.lt
  have fin : ∀ {m'}, Upd m2 m' [m.next] → ∀ fq, (∀ x ∈ fq, x < m.next) → PlanE m' fq S (.slice wa wn wc) ∧ Ext m m' := fun hU fq hf => by
    have k := (hP (m.next :: fq) (by intro x hx; rcases List.mem_cons.1 hx with rfl | hx; exact hl1; have := hf x hx; omega)).1
    have hU' : Upd m2 _ (m.next :: fq) := ⟨hU.next, fun b hb hn => hU.same b hb fun hm => hn (by simp at hm; simp [hm])⟩
    have k := k.upd hU'
    refine ⟨?_, hU.ext_of (hx1.trans hx2) (by simp)⟩
    obtain ⟨l, a, b, c, d⟩ := k
    exact ⟨l, a, b, fun x hx hm => c x hx (by simp [hm]), fun e he => ⟨(d e he).1, fun x hx hm => (d e he).2 x hx (by simp [hm])⟩⟩
  refine ⟨_, rfl, fin ?_⟩
  exact Upd.set (by simp)
end Go.Am


/- The stage's methods: Set, Turn. -/
set_option linter.unusedVariables false
set_option linter.unusedSimpArgs false
namespace Go.Am
open Classical
variable {m : Mem}

set_option maxHeartbeats 4000000 in
theorem Set_spec {s : Nat} {fp : List Nat} {A S p : PlanD} {n : Int} {av sv pv : Value} (h : StV m s fp A S n av sv) (hs : s ∈ fp) (hf : ∀ x ∈ fp, x < m.next) (hp : PlsV m p.places pv) (hli : lightP p = true) (hpl : PlanL p) :
    WC R F.stage_Stage_Set [pt s, .agg (planV p pv).toArray] m fun r m' => Upd m m' [s] ∧ ((CheckP p ∧ p.frame = A.frame ∧ r = .int .i64 0 ∧ ∃ lv, StV m' s fp A p n av lv) ∨ (r = .int .i64 30 ∧ StV m' s fp A S n av sv)) := by
  refine WC.of R.stage_Stage_Set rfl ?_
  simp only [RC.stage_Stage_Set, pt, planV, go_sem, Int.reduceBEq, Int.reduceBNe, Int.reduceNeg, reduceCtorEq, Nat.reduceEqDiff, Nat.reduceAdd, Nat.reduceLeDiff, Nat.reduceMul, Nat.reduceSub, Int.reduceToNat, Int.reduceLT, Int.reduceLE, hp.one]
  have hx1 : Ext m (m.new (.cells [.int .i64 p.frame, u32 p.cores, pv] (some 3))) := Ext.new
  have hb1 : Bk (m.new (.cells [.int .i64 p.frame, u32 p.cores, pv] (some 3))) m.next [.int .i64 p.frame, u32 p.cores, pv] 3 := Bk.new
  generalize m.new (.cells [.int .i64 p.frame, u32 p.cores, pv] (some 3)) = m1 at hx1 hb1 ⊢
  have h1 := h.keep hx1
  have hp1 := hp.keep hx1
  refine gC.of (none_spec h1) ?_
  rintro _ _ ⟨rfl, hm⟩
  replace hm := hm.symm
  subst hm
  try simp only [go_sem, Int.reduceBEq, Int.reduceBNe, Int.reduceNeg, reduceCtorEq, Nat.reduceEqDiff, Nat.reduceAdd, Nat.reduceLeDiff, Nat.reduceMul, Nat.reduceSub, Int.reduceToNat, Int.reduceLT, Int.reduceLE, load_w, load_a, store_b, idxS_b, set_blk, new_blk, set_next, new_next, len_s, ldW_c, ldA_c, stB_c, toArr_one, size_one, toList_toArr, size_toArr, List.length_cons, List.length_nil, List.getElem?_cons_zero, List.getElem?_cons_succ, Nat.zero_add, Nat.add_zero, hb1.at_]
  refine gC.of (Check_spec (p := p) ⟨pv, rfl, hp1.keep (by first | exact Ext.refl _ | exact Ext.bump)⟩ hpl) ?_
  rintro _ m2 ⟨rfl, hx2⟩
  have hx12 : Ext m1 m2 := by first | exact hx2 | exact Ext.bump.trans hx2
  have h2 := h1.keep hx12
  have hb2 := hb1.keep hx12
  have hp2 := hp1.keep hx12
  by_cases hc : CheckP p
  · have e1 : chk p = .int .i64 0 := (chk_yes hc).symm
    have e2 : (((0 : Int)) != 0) = false := rfl
    try simp only [go_sem, Int.reduceBEq, Int.reduceBNe, Int.reduceNeg, reduceCtorEq, Nat.reduceEqDiff, Nat.reduceAdd, Nat.reduceLeDiff, Nat.reduceMul, Nat.reduceSub, Int.reduceToNat, Int.reduceLT, Int.reduceLE, load_w, load_a, store_b, idxS_b, set_blk, new_blk, set_next, new_next, len_s, ldW_c, ldA_c, stB_c, toArr_one, size_one, toList_toArr, size_toArr, List.length_cons, List.length_nil, List.getElem?_cons_zero, List.getElem?_cons_succ, Nat.zero_add, Nat.add_zero, e1, e2, hb2.at_, h2.bk.at_]
    by_cases hfr : p.frame = A.frame
    · have e3 : ((p.frame : Int) != A.frame) = false := by rw [bne_eq_false_iff_eq]; exact hfr
      try simp only [go_sem, Int.reduceBEq, Int.reduceBNe, Int.reduceNeg, reduceCtorEq, Nat.reduceEqDiff, Nat.reduceAdd, Nat.reduceLeDiff, Nat.reduceMul, Nat.reduceSub, Int.reduceToNat, Int.reduceLT, Int.reduceLE, load_w, load_a, store_b, idxS_b, set_blk, new_blk, set_next, new_next, len_s, ldW_c, ldA_c, stB_c, toArr_one, size_one, toList_toArr, size_toArr, List.length_cons, List.length_nil, List.getElem?_cons_zero, List.getElem?_cons_succ, Nat.zero_add, Nat.add_zero, e3, hb2.at_]
      refine gC.of (own_spec (p := p) hp2 ⟨hc, hli⟩) ?_
      rintro _ m3 ⟨lv, rfl, hP⟩
      have hle : m.next ≤ m2.next := Nat.le_trans hx1.next hx12.next
      obtain ⟨hP3, hx3⟩ := hP fp (fun x hx => by have := hf x hx; omega)
      have h3 := h2.keep hx3
      have hlo := hP3.one
      obtain ⟨wa, wn, wc, rfl⟩ := hP3.slice
      simp only [planV]
      try simp only [go_sem, Int.reduceBEq, Int.reduceBNe, Int.reduceNeg, reduceCtorEq, Nat.reduceEqDiff, Nat.reduceAdd, Nat.reduceLeDiff, Nat.reduceMul, Nat.reduceSub, Int.reduceToNat, Int.reduceLT, Int.reduceLE, load_w, load_a, store_b, idxS_b, set_blk, new_blk, set_next, new_next, len_s, ldW_c, ldA_c, stB_c, toArr_one, size_one, toList_toArr, size_toArr, List.length_cons, List.length_nil, List.getElem?_cons_zero, List.getElem?_cons_succ, Nat.zero_add, Nat.add_zero, hlo, h3.bk.at_]
      have hlts := h3.bk.lt
      have fin : ∀ {m'}, Upd m3 m' [s] → Bk m' s [.int .i64 A.frame, u32 A.cores, av, .int .i64 p.frame, u32 p.cores, .slice wa wn wc, .int .i64 n] 7 → Upd m m' [s] ∧ ((CheckP p ∧ p.frame = A.frame ∧ Value.int .i64 0 = .int .i64 0 ∧ ∃ lv, StV m' s fp A p n av lv) ∨ (Value.int .i64 0 = .int .i64 30 ∧ StV m' s fp A S n av sv)) := fun {m'} hU hb => by
        have hU' : Upd m3 m' fp := ⟨hU.next, fun b hb hn => hU.same b hb fun hm => hn (by simp at hm; rw [hm]; exact hs)⟩
        exact ⟨((hx1.trans hx12).trans hx3).upd.trans hU (fp := []) (fun _ h => by simp at h) (fun _ h => .inl h), .inl ⟨hc, hfr, rfl, _, hb, h3.a.upd hU', hP3.upd hU', h3.ga, ⟨hc, hli⟩⟩⟩
      have k := fin (m' := m3.set s (some (.cells [.int .i64 A.frame, u32 A.cores, av, .int .i64 p.frame, u32 p.cores, .slice wa wn wc, .int .i64 n] (some 7)))) (Upd.set (by simp)) ⟨by simp [Mem.set], by simpa [Mem.set] using hlts⟩
      simpa using k
    · have e3 : ((p.frame : Int) != A.frame) = true := by rw [bne_iff_ne]; exact hfr
      try simp only [go_sem, Int.reduceBEq, Int.reduceBNe, Int.reduceNeg, reduceCtorEq, Nat.reduceEqDiff, Nat.reduceAdd, Nat.reduceLeDiff, Nat.reduceMul, Nat.reduceSub, Int.reduceToNat, Int.reduceLT, Int.reduceLE, load_w, load_a, store_b, idxS_b, set_blk, new_blk, set_next, new_next, len_s, ldW_c, ldA_c, stB_c, toArr_one, size_one, toList_toArr, size_toArr, List.length_cons, List.length_nil, List.getElem?_cons_zero, List.getElem?_cons_succ, Nat.zero_add, Nat.add_zero, e3]
      exact ⟨(hx1.trans hx12).upd, .inr h2⟩
  · have e1 : chk p = .int .i64 30 := (chk_no hc).symm
    have e2 : (((30 : Int)) != 0) = true := rfl
    try simp only [go_sem, Int.reduceBEq, Int.reduceBNe, Int.reduceNeg, reduceCtorEq, Nat.reduceEqDiff, Nat.reduceAdd, Nat.reduceLeDiff, Nat.reduceMul, Nat.reduceSub, Int.reduceToNat, Int.reduceLT, Int.reduceLE, load_w, load_a, store_b, idxS_b, set_blk, new_blk, set_next, new_next, len_s, ldW_c, ldA_c, stB_c, toArr_one, size_one, toList_toArr, size_toArr, List.length_cons, List.length_nil, List.getElem?_cons_zero, List.getElem?_cons_succ, Nat.zero_add, Nat.add_zero, e1, e2]
    exact ⟨(hx1.trans hx12).upd, .inr h2⟩
end Go.Am


/- The stage's methods: Turn, New. -/
set_option linter.unusedVariables false
set_option linter.unusedSimpArgs false
namespace Go.Am
open Classical
variable {m : Mem}

theorem Good.pcs' {p : PlanD} (h : Good p) {l : List PE} (hl : l.map PE.pl = p.places) : ∀ e ∈ l, e.pl.pieces.length < 1000000 := fun e he => h.l.pcs _ (by rw [← hl]; exact List.mem_map.2 ⟨e, he, rfl⟩)

set_option maxHeartbeats 4000000 in
theorem Turn_spec {s : Nat} {fp : List Nat} {A S : PlanD} {n : Int} {av sv : Value} (h : StV m s fp A S n av sv) (hs : s ∈ fp) (hf : ∀ x ∈ fp, x < m.next) (hn : 0 ≤ n ∧ n < 1000000) :
    WC R F.stage_Stage_Turn [pt s] m fun r m' => Upd m m' [s] ∧ (∃ lv, StV m' s fp S S (n + 1) lv sv) ∧ ∃ la lk : List PE, la.map PE.pl = A.places ∧ lk.map PE.pl = S.places ∧ Own m m' 1 (someL la lk MovP).length (intsZ (someL la lk MovP)) r := by
  refine WC.of R.stage_Stage_Turn rfl ?_
  simp only [RC.stage_Stage_Turn, pt, go_sem, Int.reduceBEq, Int.reduceBNe, Int.reduceNeg, reduceCtorEq, Nat.reduceEqDiff, Nat.reduceAdd, Nat.reduceLeDiff, Nat.reduceMul, Nat.reduceSub, Int.reduceToNat, Int.reduceLT, Int.reduceLE]
  refine gC.of (none_spec h) ?_
  rintro _ _ ⟨rfl, hm⟩
  replace hm := hm.symm
  subst hm
  try simp only [go_sem, Int.reduceBEq, Int.reduceBNe, Int.reduceNeg, reduceCtorEq, Nat.reduceEqDiff, Nat.reduceAdd, Nat.reduceLeDiff, Nat.reduceMul, Nat.reduceSub, Int.reduceToNat, Int.reduceLT, Int.reduceLE, load_w, load_a, store_b, idxS_b, set_blk, new_blk, set_next, new_next, len_s, ldW_c, ldA_c, stB_c, toArr_one, size_one, toList_toArr, size_toArr, List.length_cons, List.length_nil, List.getElem?_cons_zero, List.getElem?_cons_succ, Nat.zero_add, Nat.add_zero, h.bk.at_]
  have hB : ∀ k, Ext m (m.bump k) := fun k => Ext.bump
  obtain ⟨la, a1, a2, a3, a4⟩ := h.a
  obtain ⟨lk, b1, b2, b3, b4⟩ := h.s_
  refine gC.of (Moved_spec (l := la) (k := lk) (a2.keep (by first | exact Ext.refl _ | exact Ext.bump)) (b2.keep (by first | exact Ext.refl _ | exact Ext.bump)) (h.ga.ok a1) (h.gs.ok b1) (fun e he => ⟨(a4 e he).1.keep (by first | exact Ext.refl _ | exact Ext.bump), h.ga.pcs' a1 e he⟩) (fun e he => ⟨(b4 e he).1.keep (by first | exact Ext.refl _ | exact Ext.bump), h.gs.pcs' b1 e he⟩)) ?_
  rintro r m1 ⟨ho, hx1'⟩
  have hx1 : Ext m m1 := by first | exact hx1' | exact Ext.bump.trans hx1'
  have ho1 : Own m m1 1 (someL la lk MovP).length (intsZ (someL la lk MovP)) r := by first | exact ho | exact ho.weak Ext.bump
  clear ho hx1'
  have h1 := h.keep hx1
  try simp only [go_sem, Int.reduceBEq, Int.reduceBNe, Int.reduceNeg, reduceCtorEq, Nat.reduceEqDiff, Nat.reduceAdd, Nat.reduceLeDiff, Nat.reduceMul, Nat.reduceSub, Int.reduceToNat, Int.reduceLT, Int.reduceLE, load_w, load_a, store_b, idxS_b, set_blk, new_blk, set_next, new_next, len_s, ldW_c, ldA_c, stB_c, toArr_one, size_one, toList_toArr, size_toArr, List.length_cons, List.length_nil, List.getElem?_cons_zero, List.getElem?_cons_succ, Nat.zero_add, Nat.add_zero, h1.bk.at_]
  refine gC.of (own_spec (p := S) h1.s_.pls h1.gs) ?_
  rintro _ m2 ⟨lv, rfl, hP⟩
  obtain ⟨hP2, hx2⟩ := hP fp (fun x hx => by have := hf x hx; have := hx1.next; omega)
  have h2 := h1.keep hx2
  have ho2 := ho1.keep hx2
  have hlo := hP2.one
  obtain ⟨wa, wn, wc, rfl⟩ := hP2.slice
  have hw : IntKind.wrap .i64 (n + 1) = n + 1 := wrap_i64 (by omega) (by omega)
  simp only [planV]
  try simp only [go_sem, Int.reduceBEq, Int.reduceBNe, Int.reduceNeg, reduceCtorEq, Nat.reduceEqDiff, Nat.reduceAdd, Nat.reduceLeDiff, Nat.reduceMul, Nat.reduceSub, Int.reduceToNat, Int.reduceLT, Int.reduceLE, load_w, load_a, store_b, idxS_b, set_blk, new_blk, set_next, new_next, len_s, ldW_c, ldA_c, stB_c, toArr_one, size_one, toList_toArr, size_toArr, List.length_cons, List.length_nil, List.getElem?_cons_zero, List.getElem?_cons_succ, Nat.zero_add, Nat.add_zero, hlo, h2.bk.at_, hw]
  have hlts := h2.bk.lt
  have hge := ho2.ge
  have hsm := hf s hs
  have fin : ∀ {m'}, Upd m2 m' [s] → Bk m' s [.int .i64 S.frame, u32 S.cores, .slice wa wn wc, .int .i64 S.frame, u32 S.cores, sv, .int .i64 (n + 1)] 7 →
      Upd m m' [s] ∧ (∃ lv, StV m' s fp S S (n + 1) lv sv) ∧ ∃ la lk : List PE, la.map PE.pl = A.places ∧ lk.map PE.pl = S.places ∧ Own m m' 1 (someL la lk MovP).length (intsZ (someL la lk MovP)) r := fun {m'} hU hb => by
    have hU' : Upd m2 m' fp := ⟨hU.next, fun b hb hn => hU.same b hb fun hm => hn (by simp at hm; rw [hm]; exact hs)⟩
    exact ⟨(hx1.trans hx2).upd.trans hU (fp := []) (fun _ h => by simp at h) (fun _ h => .inl h), ⟨_, hb, hP2.upd hU', h2.s_.upd hU', h2.gs, h2.gs⟩, la, lk, a1, b1, ho2.updq hU (fun b hb hm => by simp at hm; have := hge b hb; omega)⟩
  refine fin ?_ ⟨by simp [Mem.set], by simpa [Mem.set] using hlts⟩
  exact (Upd.set (fp := [s]) (by simp)).trans (Upd.set (fp := [s]) (by simp)) (fun _ h => h) (fun _ h => .inl h)

def empP : PlanD := ⟨8, 7#32, []⟩
theorem empP_ok : CheckP empP := by
  refine ⟨by decide, by decide, by decide, by decide, fun i hi => by simp [empP] at hi, fun i hi => by simp [empP, preP] at hi, ?_, fun c hc => ?_⟩
  · show 0 < _
    decide
  · have e1 : winW empP.places c = 0#64 := rfl
    have e2 : whL empP.places c = [] := rfl
    have e3 : pop 0#64 = 0 := by decide
    unfold leftP
    rw [e1, e2, e3]
    show 0 ≤ (8 : Int) - 0 - sumW []
    decide
theorem empP_good : Good empP := ⟨empP_ok, by decide⟩

set_option maxHeartbeats 4000000 in
theorem New_spec : WC R F.stage_New [.int .i64 8, u32 7#32] m fun r m' => ∃ s, r = .tuple #[pt s, .int .i64 0] ∧ m.next ≤ s ∧ Ext m m' ∧ ∀ fp, StV m' s fp empP empP 0 (.slice none 0 0) (.slice none 0 0) := by
  refine WC.of R.stage_New rfl ?_
  have hcv : u32 7#32 = .int .u32 7 := rfl
  rw [hcv]
  simp only [RC.stage_New, go_sem, Int.reduceBEq, Int.reduceBNe, Int.reduceNeg, reduceCtorEq, Nat.reduceEqDiff, Nat.reduceAdd, Nat.reduceLeDiff, Nat.reduceMul, Nat.reduceSub, Int.reduceToNat, Int.reduceLT, Int.reduceLE]
  try simp only [go_sem, Int.reduceBEq, Int.reduceBNe, Int.reduceNeg, reduceCtorEq, Nat.reduceEqDiff, Nat.reduceAdd, Nat.reduceLeDiff, Nat.reduceMul, Nat.reduceSub, Int.reduceToNat, Int.reduceLT, Int.reduceLE, load_w, load_a, store_b, idxS_b, set_blk, new_blk, set_next, new_next, len_s, ldW_c, ldA_c, stB_c, toArr_one, size_one, toList_toArr, size_toArr, List.length_cons, List.length_nil, List.getElem?_cons_zero, List.getElem?_cons_succ, Nat.zero_add, Nat.add_zero]
  have hx1 : Ext m (m.new (.cells [.int .i64 8, .int .u32 7, .slice none 0 0] (some 3))) := Ext.new
  have hb1 : Bk (m.new (.cells [.int .i64 8, .int .u32 7, .slice none 0 0] (some 3))) m.next [.int .i64 8, .int .u32 7, .slice none 0 0] 3 := Bk.new
  generalize m.new (.cells [.int .i64 8, .int .u32 7, .slice none 0 0] (some 3)) = m1 at hx1 hb1 ⊢
  have hnil : PlsV m1 empP.places (.slice none 0 0) := ⟨[], .nil rfl rfl, trivial, fun i hi => by simp [empP] at hi⟩
  try simp only [go_sem, Int.reduceBEq, Int.reduceBNe, Int.reduceNeg, reduceCtorEq, Nat.reduceEqDiff, Nat.reduceAdd, Nat.reduceLeDiff, Nat.reduceMul, Nat.reduceSub, Int.reduceToNat, Int.reduceLT, Int.reduceLE, load_w, load_a, store_b, idxS_b, set_blk, new_blk, set_next, new_next, len_s, ldW_c, ldA_c, stB_c, toArr_one, size_one, toList_toArr, size_toArr, List.length_cons, List.length_nil, List.getElem?_cons_zero, List.getElem?_cons_succ, Nat.zero_add, Nat.add_zero, hb1.at_]
  refine gC.of (Check_spec (p := empP) (v := .agg #[.int .i64 8, .int .u32 7, .slice none 0 0]) ⟨.slice none 0 0, rfl, hnil⟩ empP_good.l) ?_
  rintro _ m2 ⟨rfl, hx2⟩
  have e1 : chk empP = .int .i64 0 := (chk_yes empP_ok).symm
  have hb2 := hb1.keep hx2
  have e2 : (((0 : Int)) != 0) = false := rfl
  try simp only [go_sem, Int.reduceBEq, Int.reduceBNe, Int.reduceNeg, reduceCtorEq, Nat.reduceEqDiff, Nat.reduceAdd, Nat.reduceLeDiff, Nat.reduceMul, Nat.reduceSub, Int.reduceToNat, Int.reduceLT, Int.reduceLE, load_w, load_a, store_b, idxS_b, set_blk, new_blk, set_next, new_next, len_s, ldW_c, ldA_c, stB_c, toArr_one, size_one, toList_toArr, size_toArr, List.length_cons, List.length_nil, List.getElem?_cons_zero, List.getElem?_cons_succ, Nat.zero_add, Nat.add_zero, e1, e2, hb2.at_]
  have hx3 : Ext m2 (m2.new (.cells [.int .i64 8, .int .u32 7, .slice none 0 0, .int .i64 8, .int .u32 7, .slice none 0 0, .int .i64 0] (some 7))) := Ext.new
  have hb3 : Bk (m2.new (.cells [.int .i64 8, .int .u32 7, .slice none 0 0, .int .i64 8, .int .u32 7, .slice none 0 0, .int .i64 0] (some 7))) m2.next [.int .i64 8, .int .u32 7, .slice none 0 0, .int .i64 8, .int .u32 7, .slice none 0 0, .int .i64 0] 7 := Bk.new
  generalize m2.new (.cells [.int .i64 8, .int .u32 7, .slice none 0 0, .int .i64 8, .int .u32 7, .slice none 0 0, .int .i64 0] (some 7)) = m3 at hx3 hb3 ⊢
  have hE : ∀ fp, PlanE m3 fp empP (.slice none 0 0) := fun fp => ⟨[], rfl, ⟨.nil rfl rfl, trivial⟩, by simp [vb], by simp⟩
  have hn := (hx1.trans hx2).next
  exact ⟨m2.next, rfl, hn, (hx1.trans hx2).trans hx3, fun fp => ⟨hb3, hE fp, hE fp, empP_good, empP_good⟩⟩
end Go.Am


/- PlanZ3 over the table of stage (relayset.py). -/
set_option linter.unusedVariables false
set_option linter.unusedSimpArgs false
namespace Go.Am
open Classical
variable {m : Mem}
end Go.Am


/- PlanZ4 over the table of stage (relayset.py). -/
set_option linter.unusedVariables false
set_option linter.unusedSimpArgs false
namespace Go.Am
open Classical
variable {m : Mem}

/-- A row of places as it lies. -/
structure RowE (m : Mem) (l : List PE) (v : Value) : Prop where
  sl : Sl m 4 l.length (l.flatMap peV) v
  lt : SlLt m v
theorem RowE.keep {m m' : Mem} {l : List PE} {v : Value} (h : RowE m l v) (hx : Ext m m') : RowE m' l v := ⟨h.sl.keep h.lt hx, h.lt.keep hx⟩
theorem RowE.upd {m m' : Mem} {l : List PE} {v : Value} {fp : List Nat} (h : RowE m l v) (hx : Upd m m' fp) (ho : ∀ b ∈ vb v, b ∉ fp) : RowE m' l v := ⟨h.sl.upd h.lt (SlOff.vb_iff.2 ho) hx, h.lt.upd hx⟩
theorem RowE.slice {m : Mem} {l : List PE} {v : Value} (h : RowE m l v) : ∃ a n c, v = .slice a n c := by cases h.sl <;> exact ⟨_, _, _, rfl⟩
theorem Own.rowE {m0 m : Mem} {l : List PE} {v : Value} (h : Own m0 m 4 l.length (l.flatMap peV) v) : RowE m l v := ⟨h.sl, h.lt⟩
/-- The places behind a row as it lies. -/
theorem RowE.pls {m : Mem} {l : List PE} {v : Value} (h : RowE m l v) (hp : ∀ e ∈ l, PcV m e.pl.pieces e.pv) : PlsV m (l.map PE.pl) v := by
  refine ⟨l.flatMap peV, by rw [List.length_map]; exact h.sl, h.lt, fun i hi => ?_⟩
  have hi' : i < l.length := by simpa using hi
  refine ⟨l[i].pv, ?_, ?_⟩
  · rw [flat_drop peV_len hi']; simp [peV]
  · have := hp _ (List.getElem_mem hi')
    simpa using this
theorem rowE_of {m : Mem} {l : List Pl} {v : Value} (h : PlsV m l v) : ∃ le : List PE, le.map PE.pl = l ∧ RowE m le v ∧ ∀ e ∈ le, PcV m e.pl.pieces e.pv := by
  obtain ⟨cs, h1, h2, h3⟩ := h
  obtain ⟨le, hle, hP⟩ := list_choice (P := fun i (e : PE) => ∃ h : i < l.length, e.pl = l[i] ∧ (cs.drop (i * 4)).take 4 = peV e ∧ PcV m e.pl.pieces e.pv) (n := l.length) (fun i hi => by
    obtain ⟨pv, a, b⟩ := h3 i hi
    exact ⟨⟨l[i], pv, b.one⟩, hi, rfl, a, b⟩)
  have hm : le.map PE.pl = l := by
    apply List.ext_getElem
    · rw [List.length_map, hle]
    · intro i h1 h2
      rw [List.getElem_map]
      obtain ⟨_, e, _⟩ := hP i (by simpa using h1)
      exact e
  refine ⟨le, hm, ⟨?_, h2⟩, fun e he => ?_⟩
  · have hc : cs = le.flatMap peV := by
      have hcl := h1.length
      have hfl : (le.flatMap peV).length = l.length * 4 := by rw [flat_len peV_len, hle]
      apply List.ext_getElem (by rw [hcl, hfl])
      intro i hi hi2
      have hq : i / 4 < le.length := by rw [hle]; omega
      obtain ⟨_, _, e, _⟩ := hP (i / 4) hq
      have e2 := flat_drop peV_len hq
      rw [← e2] at e
      have g1 : ((cs.drop (i / 4 * 4)).take 4)[i % 4]? = cs[i]? := by
        rw [List.getElem?_take_of_lt (by omega), List.getElem?_drop, show i / 4 * 4 + i % 4 = i by omega]
      have g2 : (((le.flatMap peV).drop (i / 4 * 4)).take 4)[i % 4]? = (le.flatMap peV)[i]? := by
        rw [List.getElem?_take_of_lt (by omega), List.getElem?_drop, show i / 4 * 4 + i % 4 = i by omega]
      rw [e, g2] at g1
      rw [List.getElem?_eq_getElem hi, List.getElem?_eq_getElem hi2] at g1
      exact (Option.some.inj g1).symm
    rw [hle, ← hc]; exact h1
  · obtain ⟨i, hi, rfl⟩ := List.getElem_of_mem he
    obtain ⟨_, _, _, b⟩ := hP i hi
    exact b

def dropE (l : List PE) (u : Int) : List PE := l.filter fun e => decide (e.pl.unit ≠ u)
theorem dropE_succ {l : List PE} {u : Int} {i : Nat} (hi : i < l.length) : dropE (l.take (i + 1)) u = dropE (l.take i) u ++ (if l[i].pl.unit ≠ u then [l[i]] else []) := by
  unfold dropE
  rw [List.take_succ_eq_append_getElem hi, List.filter_append, List.filter_cons]
  by_cases h : l[i].pl.unit = u <;> simp [h]
theorem dropE_len {l : List PE} {u : Int} {i : Nat} : (dropE (l.take i) u).length ≤ i := by
  unfold dropE
  exact Nat.le_trans (List.length_filter_le ..) (by rw [List.length_take]; omega)
theorem dropE_map {l : List PE} {u : Int} : (dropE l u).map PE.pl = dropU (l.map PE.pl) u := by
  unfold dropE dropU
  rw [List.filter_map]; rfl

theorem peV_flat {l : List PE} : oneCells (l.flatMap peV) = true := by
  unfold oneCells
  rw [List.all_eq_true]
  intro x hx
  obtain ⟨y, _, hy⟩ := List.mem_flatMap.1 hx
  have := peV_one y
  unfold oneCells at this
  exact List.all_eq_true.1 this x hy
end Go.Am


/- StageLate: plans as arguments. -/
set_option linter.unusedVariables false
set_option linter.unusedSimpArgs false
namespace Go.Am
open Classical
variable {m : Mem}

def PlansV (m : Mem) (l : List PlanD) (v : Value) : Prop := ∃ cs, Sl m 3 l.length cs v ∧ SlLt m v ∧ ∀ (i : Nat) (h : i < l.length), ∃ pv, (cs.drop (i * 3)).take 3 = planV l[i] pv ∧ PlsV m l[i].places pv
theorem PlansV.keep {m m' : Mem} {l : List PlanD} {v : Value} (h : PlansV m l v) (hx : Ext m m') : PlansV m' l v := by
  obtain ⟨cs, a, b, c⟩ := h
  exact ⟨cs, a.keep b hx, b.keep hx, fun i hi => let ⟨pv, d, e⟩ := c i hi; ⟨pv, d, e.keep hx⟩⟩
theorem PlansV.len {m : Mem} {l : List PlanD} {v : Value} (h : PlansV m l v) : aLen v = some (.int .i64 l.length) := let ⟨_, a, _⟩ := h; a.len
theorem PlansV.elem {m0 m : Mem} {l : List PlanD} {v : Value} (h : PlansV m0 l v) (hx : Ext m0 m) {i : Nat} (hi : i < l.length) : ∃ b o pv, aIdxS 3 v (.int .i64 i) = some (.pointer (some ⟨b, o, none⟩)) ∧ b < m0.next ∧
    (∀ M, Ext m0 M → aLoad true 3 M (.pointer (some ⟨b, o, none⟩)) = some (.agg (planV l[i] pv).toArray)) ∧ PlsV m0 l[i].places pv := by
  obtain ⟨cs, a, b, c⟩ := h
  obtain ⟨pv, d, e⟩ := c i hi
  have hlt : ∃ b o, aIdxS 3 v (.int .i64 i) = some (.pointer (some ⟨b, o, none⟩)) ∧ b < m0.next := by
    cases a with
    | nil h hc => omega
    | @«at» b' o c hc h =>
      refine ⟨b', o + i * 3, ?_, b⟩
      simp only [aIdxS]; rw [if_pos (by omega), Int.toNat_natCast]
  obtain ⟨b', o', h1, h4⟩ := hlt
  refine ⟨b', o', pv, h1, h4, fun M hM => ?_, e⟩
  obtain ⟨b'', o'', h1', h2, h3⟩ := (a.keep b hM).cell (k := .i64) hi
  rw [h1] at h1'
  cases h1'
  rw [h3, d]

theorem planC_read {m : Mem} {cs : List Value} (h : RdL m planSh cs) : ∃ (p : PlanD) (pv : Value), cs = planV p pv ∧ PlsV m p.places pv := by
  obtain ⟨a, r, rfl, h1, k1⟩ := h.one
  obtain ⟨b, r, rfl, h2, k2⟩ := k1.one
  obtain ⟨c, r, rfl, h3, k3⟩ := k2.one
  cases k3.none
  obtain ⟨f, rfl, b1⟩ := h1.i64
  obtain ⟨x, rfl⟩ := rd_u32 h2
  obtain ⟨l, hl, hb⟩ := pls_read h3
  exact ⟨⟨f, x, l⟩, c, rfl, hl⟩
theorem plans_read {m : Mem} {v : Value} (h : Rd m (.sl planSh) v) : ∃ l : List PlanD, PlansV m l v := by
  simp only [Rd] at h
  obtain ⟨n, cs, h1, h2, h3, h4, -⟩ := h
  obtain ⟨l, rfl, hl⟩ := list_choice fun i hi => planC_read (h4 i hi)
  exact ⟨l, cs, h1, h2, fun i hi => by obtain ⟨pv, a, b⟩ := hl i hi; exact ⟨pv, a, b⟩⟩

theorem PlanE.more {m : Mem} {fp fq : List Nat} {p : PlanD} {v : Value} (h : PlanE m fp p v) (hf : ∀ x ∈ fq, x ∈ fp ∨ m.next ≤ x) : PlanE m fq p v := by
  obtain ⟨l, a, b, c, d⟩ := h
  have hb := SlLt.vb_iff.1 b.lt
  refine ⟨l, a, b, fun x hx hm => ?_, fun e he => ⟨(d e he).1, fun x hx hm => ?_⟩⟩
  · rcases hf x hm with h | h
    · exact c x hx h
    · have := hb x hx; omega
  · rcases hf x hm with h | h
    · exact (d e he).2 x hx h
    · have := (SlLt.vb_iff.1 (d e he).1.2) x hx; omega
theorem PlanE.old {m0 m : Mem} {fp : List Nat} {p : PlanD} {v : Value} (h : PlsV m0 p.places v) (hx : Ext m0 m) (hf : ∀ x ∈ fp, m0.next ≤ x) : PlanE m fp p v := by
  obtain ⟨l, a, b, c⟩ := rowE_of h
  have k : PlanE m0 fp p v := ⟨l, a, ⟨b.sl, b.lt⟩, fun x hx hm => by have := (SlLt.vb_iff.1 b.lt) x hx; have := hf x hm; omega, fun e he => ⟨c e he, fun x hx hm => by have := (SlLt.vb_iff.1 (c e he).2) x hx; have := hf x hm; omega⟩⟩
  exact k.keep hx
end Go.Am


/- The law StageLate walks. -/
set_option linter.unusedVariables false
set_option linter.unusedSimpArgs false
namespace Go.Am
open Classical
variable {m : Mem}

theorem ok_specS {f : Nat} (h : R f = some (.ext X.ok)) {m : Mem} : WC R f [] m fun v m' => v = .bool true ∧ m' = m := WC.ext h rfl ⟨rfl, rfl⟩

set_option maxHeartbeats 4000000 in
theorem StageLate_loop {m0 M : Mem} {l : List PlanD} {v : Value} (hl : PlansV m0 l v) {s b5 : Nat} (hs : m0.next ≤ s) (h5 : m0.next ≤ b5) (hsb : s ≠ b5) {A0 S0 : PlanD} {av sv lv : Value} (hx0 : Ext m0 M) (hS : StV M s [s, b5] A0 S0 0 av sv) (hb : Bk M b5 (planV S0 lv) 3) (hP : PlanE M [s, b5] S0 lv) :
    WL R [0, 3, 5, 6] RB.law26_StageLate_1 [(0, v), (3, pt s), (5, pt b5), (6, .int .i64 0)] M fun y e m' => y = .exit 0 := by
  refine WL.of (fun n e m' => ∃ (i : Nat) (A S : PlanD) (t : Nat) (av sv lv : Value), i ≤ l.length ∧ i ≤ 12 ∧ t ≤ i ∧ n = l.length - i ∧ e = [(0, v), (3, pt s), (5, pt b5), (6, .int .i64 i)] ∧ StV m' s [s, b5] A S t av sv ∧ Bk m' b5 (planV S lv) 3 ∧ PlanE m' [s, b5] S lv ∧ Ext m0 m') l.length
    ⟨0, A0, S0, 0, av, sv, lv, by omega, by omega, by omega, by omega, rfl, hS, hb, hP, hx0⟩ ?_
  rintro _ _ m1 ⟨i, A, S, t, av, sv, lv, hi, hi12, hti, rfl, rfl, hS, hb, hP, hx1⟩
  simp only [RB.law26_StageLate_1, pt, go_sem, Int.reduceBEq, Int.reduceBNe, Int.reduceNeg, reduceCtorEq, Nat.reduceEqDiff, Nat.reduceAdd, Nat.reduceLeDiff, Nat.reduceMul, Nat.reduceSub, Int.reduceToNat, Int.reduceLT, Int.reduceLE, hl.len]
  have s1 := step1 (show i < 1000000 by omega)
  by_cases g1 : i < l.length
  · have e1 : decide ((i : Int) < (l.length : Int)) = true := decide_eq_true (by omega)
    by_cases g2 : i < 12
    · have e2 : decide ((i : Int) < 12) = true := decide_eq_true (by omega)
      obtain ⟨bb, oo, pv, a1, a2, a3, a4⟩ := hl.elem hx1 g1
      have a3' := a3 m1 hx1
      generalize hp : l[i] = p at *
      simp only [planV] at a3'
      have hpone := a4.one
      try simp only [go_sem, Int.reduceBEq, Int.reduceBNe, Int.reduceNeg, reduceCtorEq, Nat.reduceEqDiff, Nat.reduceAdd, Nat.reduceLeDiff, Nat.reduceMul, Nat.reduceSub, Int.reduceToNat, Int.reduceLT, Int.reduceLE, load_w, load_a, store_b, idxS_b, set_blk, new_blk, set_next, new_next, len_s, ldW_c, ldA_c, stB_c, toArr_one, size_one, toList_toArr, size_toArr, List.length_cons, List.length_nil, List.getElem?_cons_zero, List.getElem?_cons_succ, Nat.zero_add, Nat.add_zero, e1, e2, a1, a3']
      refine gC.of (Light_spec (p := p) ⟨pv, rfl, a4.keep hx1⟩) ?_
      rintro _ m2 ⟨rfl, hx2⟩
      by_cases g3 : lightP p = true
      · have hpl : PlanL p := by
          have h := g3
          simp only [lightP, Bool.and_eq_true, decide_eq_true_eq, List.all_eq_true] at h
          refine ⟨by omega, fun x hx => ?_⟩
          have := h.1 x (by rw [List.take_of_length_le (by omega)]; exact hx)
          omega
        have hS2 := hS.keep hx2
        try simp only [go_sem, Int.reduceBEq, Int.reduceBNe, Int.reduceNeg, reduceCtorEq, Nat.reduceEqDiff, Nat.reduceAdd, Nat.reduceLeDiff, Nat.reduceMul, Nat.reduceSub, Int.reduceToNat, Int.reduceLT, Int.reduceLE, load_w, load_a, store_b, idxS_b, set_blk, new_blk, set_next, new_next, len_s, ldW_c, ldA_c, stB_c, toArr_one, size_one, toList_toArr, size_toArr, List.length_cons, List.length_nil, List.getElem?_cons_zero, List.getElem?_cons_succ, Nat.zero_add, Nat.add_zero, g3]
        refine gC.of (Active_spec hS2) ?_
        rintro _ m3 ⟨wv, rfl, hA3⟩
        have hA3 := hA3 [s, b5] (by have := hS2.bk.lt; have := (hb.keep hx2).lt; simp; omega)
        have hx3 := hA3.2
        have hwo := hA3.1.one
        obtain ⟨wa, wn, wc, rfl⟩ := hA3.1.slice
        have hS3 := hS2.keep hx3
        simp only [planV]
        try simp only [go_sem, Int.reduceBEq, Int.reduceBNe, Int.reduceNeg, reduceCtorEq, Nat.reduceEqDiff, Nat.reduceAdd, Nat.reduceLeDiff, Nat.reduceMul, Nat.reduceSub, Int.reduceToNat, Int.reduceLT, Int.reduceLE, load_w, load_a, store_b, idxS_b, set_blk, new_blk, set_next, new_next, len_s, ldW_c, ldA_c, stB_c, toArr_one, size_one, toList_toArr, size_toArr, List.length_cons, List.length_nil, List.getElem?_cons_zero, List.getElem?_cons_succ, Nat.zero_add, Nat.add_zero, hwo]
        have hx4 : Ext m3 (m3.new (.cells [.int .i64 A.frame, u32 A.cores, .slice wa wn wc] (some 3))) := Ext.new
        have hb7 : Bk (m3.new (.cells [.int .i64 A.frame, u32 A.cores, .slice wa wn wc] (some 3))) m3.next [.int .i64 A.frame, u32 A.cores, .slice wa wn wc] 3 := Bk.new
        generalize m3.new (.cells [.int .i64 A.frame, u32 A.cores, .slice wa wn wc] (some 3)) = m4 at hx4 hb7 ⊢
        have hS4 := hS3.keep hx4
        have hx04 := ((hx1.trans hx2).trans hx3).trans hx4
        have a34 := a3 m4 hx04
        simp only [planV] at a34
        try simp only [go_sem, Int.reduceBEq, Int.reduceBNe, Int.reduceNeg, reduceCtorEq, Nat.reduceEqDiff, Nat.reduceAdd, Nat.reduceLeDiff, Nat.reduceMul, Nat.reduceSub, Int.reduceToNat, Int.reduceLT, Int.reduceLE, load_w, load_a, store_b, idxS_b, set_blk, new_blk, set_next, new_next, len_s, ldW_c, ldA_c, stB_c, toArr_one, size_one, toList_toArr, size_toArr, List.length_cons, List.length_nil, List.getElem?_cons_zero, List.getElem?_cons_succ, Nat.zero_add, Nat.add_zero, a1, a34]
        have hfl : ∀ x ∈ [s, b5], x < m4.next := by have := hS4.bk.lt; have := (((hb.keep hx2).keep hx3).keep hx4).lt; simp; omega
        have hb4 := ((hb.keep hx2).keep hx3).keep hx4
        have hP4 := ((hP.keep hx2).keep hx3).keep hx4
        have hW4 := hA3.1.keep hx4
        have hb7l := hb7.lt
        have hsl := hS3.bk.lt
        have hbl := ((hb.keep hx2).keep hx3).lt
        refine gC.of (Set_spec hS4 (by simp) hfl (a4.keep hx04) g3 hpl) ?_
        rintro _ m5 ⟨hU5, hres⟩
        have hx05 : Ext m0 m5 := hU5.ext_of hx04 (by simpa using hs)
        have hb75 := hb7.upd hU5 (by simp; omega)
        have hU5' : Upd m4 m5 [s, b5] := ⟨hU5.next, fun b hb hn => hU5.same b hb fun hm => hn (by simp at hm; simp [hm])⟩
        have hW5 := hW4.upd hU5'
        have hb5' := hb4.upd hU5 (by simpa using fun e => hsb e.symm)
        have hb5q := hb5'
        simp only [planV] at hb5q
        have nq : (m3.next = b5) = False := eq_false (by omega)
        have a35 := a3 m5 hx05
        simp only [planV] at a35
        rcases hres with ⟨hc, hfr, rfl, sv', hS5⟩ | ⟨rfl, hS5⟩
        · have e3 : ((0 : Int) == 0) = true := rfl
          try simp only [go_sem, Int.reduceBEq, Int.reduceBNe, Int.reduceNeg, reduceCtorEq, Nat.reduceEqDiff, Nat.reduceAdd, Nat.reduceLeDiff, Nat.reduceMul, Nat.reduceSub, Int.reduceToNat, Int.reduceLT, Int.reduceLE, load_w, load_a, store_b, idxS_b, set_blk, new_blk, set_next, new_next, len_s, ldW_c, ldA_c, stB_c, toArr_one, size_one, toList_toArr, size_toArr, List.length_cons, List.length_nil, List.getElem?_cons_zero, List.getElem?_cons_succ, Nat.zero_add, Nat.add_zero, e3, a1, a35, hpone, hb5q.at_, nq, hb75.at_]
          have hU6 : Upd m5 (m5.set b5 (some (.cells [.int .i64 p.frame, u32 p.cores, pv] (some 3)))) [b5] := Upd.set (by simp)
          have hb6 : Bk (m5.set b5 (some (.cells [.int .i64 p.frame, u32 p.cores, pv] (some 3)))) b5 (planV p pv) 3 := ⟨by simp [Mem.set, planV], by simpa [Mem.set] using hb5'.lt⟩
          generalize m5.set b5 (some (.cells [.int .i64 p.frame, u32 p.cores, pv] (some 3))) = mm at hU6 hb6 ⊢
          have hU6' : Upd m5 mm [s, b5] := ⟨hU6.next, fun b hb hn => hU6.same b hb fun hm => hn (by simp at hm; simp [hm])⟩
          have hSm := hS5.upd hU6 (by simpa using hsb) (by simp)
          have hbm := hb6
          have hx0m : Ext m0 mm := hU6.ext_of hx05 (by simpa using h5)
          have hPm : PlanE mm [s, b5] p pv := PlanE.old a4 hx0m (by simp; omega)
          have hWm := hW5.upd hU6'
          have hb7m := hb75.upd hU6 (by simp; omega)
          have hgS : Good p := hSm.gs

          refine gC.of (Active_spec hSm) ?_
          rintro _ mA ⟨uv, rfl, hAA⟩
          obtain ⟨hAP, hxA⟩ := hAA [s, b5] (by have := hSm.bk.lt; have := hbm.lt; simp; omega)
          have hkA : mA.blk m3.next = mm.blk m3.next := hxA.same m3.next hb7m.lt
          have huo := hAP.one
          obtain ⟨ua, un, uc, rfl⟩ := hAP.slice
          simp only [planV]
          try simp only [go_sem, Int.reduceBEq, Int.reduceBNe, Int.reduceNeg, reduceCtorEq, Nat.reduceEqDiff, Nat.reduceAdd, Nat.reduceLeDiff, Nat.reduceMul, Nat.reduceSub, Int.reduceToNat, Int.reduceLT, Int.reduceLE, load_w, load_a, store_b, idxS_b, set_blk, new_blk, set_next, new_next, len_s, ldW_c, ldA_c, stB_c, toArr_one, size_one, toList_toArr, size_toArr, List.length_cons, List.length_nil, List.getElem?_cons_zero, List.getElem?_cons_succ, Nat.zero_add, Nat.add_zero, watchOk_cons, watchOk_nil, blkOf_ptr, hkA, huo]
          refine gC.of (refSame_spec (p := A) (q := A) ⟨_, rfl, (hWm.keep hxA).pls⟩ ⟨_, rfl, hAP.pls⟩ hSm.ga.l hSm.ga.l) ?_
          rintro _ mB ⟨rfl, hxB⟩
          have dA : decide (A = A) = true := by simp
          have dS : decide (p = p) = true := by simp
          have hbB := (hbm.keep hxA).keep hxB
          have hbBq := hbB
          simp only [planV] at hbBq
          have hSB := (hSm.keep hxA).keep hxB
          have hPB := (hPm.keep hxA).keep hxB
          try simp only [go_sem, Int.reduceBEq, Int.reduceBNe, Int.reduceNeg, reduceCtorEq, Nat.reduceEqDiff, Nat.reduceAdd, Nat.reduceLeDiff, Nat.reduceMul, Nat.reduceSub, Int.reduceToNat, Int.reduceLT, Int.reduceLE, load_w, load_a, store_b, idxS_b, set_blk, new_blk, set_next, new_next, len_s, ldW_c, ldA_c, stB_c, toArr_one, size_one, toList_toArr, size_toArr, List.length_cons, List.length_nil, List.getElem?_cons_zero, List.getElem?_cons_succ, Nat.zero_add, Nat.add_zero, dA, hbBq.at_]
          refine gC.of (Staged_spec hSB) ?_
          rintro _ mC ⟨yv, rfl, hCC⟩
          obtain ⟨hCP, hxC⟩ := hCC [s, b5] (by have := hSB.bk.lt; have := hbB.lt; simp; omega)
          have hkC : mC.blk b5 = mB.blk b5 := hxC.same b5 hbB.lt
          have hyo := hCP.one
          obtain ⟨ya, yn, yc, rfl⟩ := hCP.slice
          simp only [planV]
          try simp only [go_sem, Int.reduceBEq, Int.reduceBNe, Int.reduceNeg, reduceCtorEq, Nat.reduceEqDiff, Nat.reduceAdd, Nat.reduceLeDiff, Nat.reduceMul, Nat.reduceSub, Int.reduceToNat, Int.reduceLT, Int.reduceLE, load_w, load_a, store_b, idxS_b, set_blk, new_blk, set_next, new_next, len_s, ldW_c, ldA_c, stB_c, toArr_one, size_one, toList_toArr, size_toArr, List.length_cons, List.length_nil, List.getElem?_cons_zero, List.getElem?_cons_succ, Nat.zero_add, Nat.add_zero, watchOk_cons, watchOk_nil, blkOf_ptr, hkC, hyo]
          refine gC.of (refSame_spec (p := p) (q := p) ⟨_, rfl, (hPB.keep hxC).pls⟩ ⟨_, rfl, hCP.pls⟩ hgS.l hgS.l) ?_
          rintro _ mD ⟨rfl, hxD⟩
          have hSD := (hSB.keep hxC).keep hxD
          have hbD := (hbB.keep hxC).keep hxD
          have hPD := (hPB.keep hxC).keep hxD
          have hx0D : Ext m0 mD := (((hx0m.trans hxA).trans hxB).trans hxC).trans hxD
          try simp only [go_sem, Int.reduceBEq, Int.reduceBNe, Int.reduceNeg, reduceCtorEq, Nat.reduceEqDiff, Nat.reduceAdd, Nat.reduceLeDiff, Nat.reduceMul, Nat.reduceSub, Int.reduceToNat, Int.reduceLT, Int.reduceLE, load_w, load_a, store_b, idxS_b, set_blk, new_blk, set_next, new_next, len_s, ldW_c, ldA_c, stB_c, toArr_one, size_one, toList_toArr, size_toArr, List.length_cons, List.length_nil, List.getElem?_cons_zero, List.getElem?_cons_succ, Nat.zero_add, Nat.add_zero, dS]
          refine ⟨by omega, ?_⟩
          refine gT.of (fun g9 => ?_) (fun g9 => ?_)
          · try simp only [go_sem, Int.reduceBEq, Int.reduceBNe, Int.reduceNeg, reduceCtorEq, Nat.reduceEqDiff, Nat.reduceAdd, Nat.reduceLeDiff, Nat.reduceMul, Nat.reduceSub, Int.reduceToNat, Int.reduceLT, Int.reduceLE, load_w, load_a, store_b, idxS_b, set_blk, new_blk, set_next, new_next, len_s, ldW_c, ldA_c, stB_c, toArr_one, size_one, toList_toArr, size_toArr, List.length_cons, List.length_nil, List.getElem?_cons_zero, List.getElem?_cons_succ, Nat.zero_add, Nat.add_zero, g9]
            refine gC.of (Turn_spec hSD (by simp) (by have := hSD.bk.lt; have := hbD.lt; simp; omega) ⟨by omega, by omega⟩) ?_
            rintro rr mE ⟨hUE, ⟨av2, hSE⟩, -⟩
            have hUE' : Upd mD mE [s, b5] := ⟨hUE.next, fun b hb hn => hUE.same b hb fun hm => hn (by simp at hm; simp [hm])⟩
            have hx0E : Ext m0 mE := hUE.ext_of hx0D (by simpa using hs)
            have hbE := hbD.upd hUE (by simpa using fun e => hsb e.symm)
            have hPE := hPD.upd hUE'
            have hbEq := hbE
            simp only [planV] at hbEq
            try simp only [go_sem, Int.reduceBEq, Int.reduceBNe, Int.reduceNeg, reduceCtorEq, Nat.reduceEqDiff, Nat.reduceAdd, Nat.reduceLeDiff, Nat.reduceMul, Nat.reduceSub, Int.reduceToNat, Int.reduceLT, Int.reduceLE, load_w, load_a, store_b, idxS_b, set_blk, new_blk, set_next, new_next, len_s, ldW_c, ldA_c, stB_c, toArr_one, size_one, toList_toArr, size_toArr, List.length_cons, List.length_nil, List.getElem?_cons_zero, List.getElem?_cons_succ, Nat.zero_add, Nat.add_zero, hbEq.at_]
            refine gC.of (Active_spec hSE) ?_
            rintro _ mF ⟨zv, rfl, hFF⟩
            obtain ⟨hFP, hxF⟩ := hFF [s, b5] (by have := hSE.bk.lt; have := hbE.lt; simp; omega)
            have hkF : mF.blk b5 = mE.blk b5 := hxF.same b5 hbE.lt
            have hzo := hFP.one
            obtain ⟨va, vn, vc, rfl⟩ := hFP.slice
            simp only [planV]
            try simp only [go_sem, Int.reduceBEq, Int.reduceBNe, Int.reduceNeg, reduceCtorEq, Nat.reduceEqDiff, Nat.reduceAdd, Nat.reduceLeDiff, Nat.reduceMul, Nat.reduceSub, Int.reduceToNat, Int.reduceLT, Int.reduceLE, load_w, load_a, store_b, idxS_b, set_blk, new_blk, set_next, new_next, len_s, ldW_c, ldA_c, stB_c, toArr_one, size_one, toList_toArr, size_toArr, List.length_cons, List.length_nil, List.getElem?_cons_zero, List.getElem?_cons_succ, Nat.zero_add, Nat.add_zero, watchOk_cons, watchOk_nil, blkOf_ptr, hkF, hzo]
            refine gC.of (refSame_spec (p := p) (q := p) ⟨_, rfl, (hPE.keep hxF).pls⟩ ⟨_, rfl, hFP.pls⟩ hgS.l hgS.l) ?_
            rintro _ mG ⟨rfl, hxG⟩
            try simp only [go_sem, Int.reduceBEq, Int.reduceBNe, Int.reduceNeg, reduceCtorEq, Nat.reduceEqDiff, Nat.reduceAdd, Nat.reduceLeDiff, Nat.reduceMul, Nat.reduceSub, Int.reduceToNat, Int.reduceLT, Int.reduceLE, load_w, load_a, store_b, idxS_b, set_blk, new_blk, set_next, new_next, len_s, ldW_c, ldA_c, stB_c, toArr_one, size_one, toList_toArr, size_toArr, List.length_cons, List.length_nil, List.getElem?_cons_zero, List.getElem?_cons_succ, Nat.zero_add, Nat.add_zero, dS, s1]
            exact ⟨l.length - (i + 1), by omega, i + 1, p, p, t + 1, av2, _, _, by omega, by omega, by omega, rfl, rfl, by have := (hSE.keep hxF).keep hxG; simpa using this, (hbE.keep hxF).keep hxG, (hPE.keep hxF).keep hxG, (hx0E.trans hxF).trans hxG⟩
          · try simp only [go_sem, Int.reduceBEq, Int.reduceBNe, Int.reduceNeg, reduceCtorEq, Nat.reduceEqDiff, Nat.reduceAdd, Nat.reduceLeDiff, Nat.reduceMul, Nat.reduceSub, Int.reduceToNat, Int.reduceLT, Int.reduceLE, load_w, load_a, store_b, idxS_b, set_blk, new_blk, set_next, new_next, len_s, ldW_c, ldA_c, stB_c, toArr_one, size_one, toList_toArr, size_toArr, List.length_cons, List.length_nil, List.getElem?_cons_zero, List.getElem?_cons_succ, Nat.zero_add, Nat.add_zero, g9, s1]
            exact ⟨l.length - (i + 1), by omega, i + 1, A, p, t, _, _, _, by omega, by omega, by omega, rfl, rfl, hSD, hbD, hPD, hx0D⟩
        · have e3 : ((30 : Int) == 0) = false := rfl
          try simp only [go_sem, Int.reduceBEq, Int.reduceBNe, Int.reduceNeg, reduceCtorEq, Nat.reduceEqDiff, Nat.reduceAdd, Nat.reduceLeDiff, Nat.reduceMul, Nat.reduceSub, Int.reduceToNat, Int.reduceLT, Int.reduceLE, load_w, load_a, store_b, idxS_b, set_blk, new_blk, set_next, new_next, len_s, ldW_c, ldA_c, stB_c, toArr_one, size_one, toList_toArr, size_toArr, List.length_cons, List.length_nil, List.getElem?_cons_zero, List.getElem?_cons_succ, Nat.zero_add, Nat.add_zero, e3, hb75.at_]
          have hSm := hS5
          have hbm := hb5'
          have hPm := hP4.upd hU5'
          have hWm := hW5
          have hb7m := hb75
          have hx0m := hx05
          have hgS : Good S := hSm.gs

          refine gC.of (Active_spec hSm) ?_
          rintro _ mA ⟨uv, rfl, hAA⟩
          obtain ⟨hAP, hxA⟩ := hAA [s, b5] (by have := hSm.bk.lt; have := hbm.lt; simp; omega)
          have hkA : mA.blk m3.next = m5.blk m3.next := hxA.same m3.next hb7m.lt
          have huo := hAP.one
          obtain ⟨ua, un, uc, rfl⟩ := hAP.slice
          simp only [planV]
          try simp only [go_sem, Int.reduceBEq, Int.reduceBNe, Int.reduceNeg, reduceCtorEq, Nat.reduceEqDiff, Nat.reduceAdd, Nat.reduceLeDiff, Nat.reduceMul, Nat.reduceSub, Int.reduceToNat, Int.reduceLT, Int.reduceLE, load_w, load_a, store_b, idxS_b, set_blk, new_blk, set_next, new_next, len_s, ldW_c, ldA_c, stB_c, toArr_one, size_one, toList_toArr, size_toArr, List.length_cons, List.length_nil, List.getElem?_cons_zero, List.getElem?_cons_succ, Nat.zero_add, Nat.add_zero, watchOk_cons, watchOk_nil, blkOf_ptr, hkA, huo]
          refine gC.of (refSame_spec (p := A) (q := A) ⟨_, rfl, (hWm.keep hxA).pls⟩ ⟨_, rfl, hAP.pls⟩ hSm.ga.l hSm.ga.l) ?_
          rintro _ mB ⟨rfl, hxB⟩
          have dA : decide (A = A) = true := by simp
          have dS : decide (S = S) = true := by simp
          have hbB := (hbm.keep hxA).keep hxB
          have hbBq := hbB
          simp only [planV] at hbBq
          have hSB := (hSm.keep hxA).keep hxB
          have hPB := (hPm.keep hxA).keep hxB
          try simp only [go_sem, Int.reduceBEq, Int.reduceBNe, Int.reduceNeg, reduceCtorEq, Nat.reduceEqDiff, Nat.reduceAdd, Nat.reduceLeDiff, Nat.reduceMul, Nat.reduceSub, Int.reduceToNat, Int.reduceLT, Int.reduceLE, load_w, load_a, store_b, idxS_b, set_blk, new_blk, set_next, new_next, len_s, ldW_c, ldA_c, stB_c, toArr_one, size_one, toList_toArr, size_toArr, List.length_cons, List.length_nil, List.getElem?_cons_zero, List.getElem?_cons_succ, Nat.zero_add, Nat.add_zero, dA, hbBq.at_]
          refine gC.of (Staged_spec hSB) ?_
          rintro _ mC ⟨yv, rfl, hCC⟩
          obtain ⟨hCP, hxC⟩ := hCC [s, b5] (by have := hSB.bk.lt; have := hbB.lt; simp; omega)
          have hkC : mC.blk b5 = mB.blk b5 := hxC.same b5 hbB.lt
          have hyo := hCP.one
          obtain ⟨ya, yn, yc, rfl⟩ := hCP.slice
          simp only [planV]
          try simp only [go_sem, Int.reduceBEq, Int.reduceBNe, Int.reduceNeg, reduceCtorEq, Nat.reduceEqDiff, Nat.reduceAdd, Nat.reduceLeDiff, Nat.reduceMul, Nat.reduceSub, Int.reduceToNat, Int.reduceLT, Int.reduceLE, load_w, load_a, store_b, idxS_b, set_blk, new_blk, set_next, new_next, len_s, ldW_c, ldA_c, stB_c, toArr_one, size_one, toList_toArr, size_toArr, List.length_cons, List.length_nil, List.getElem?_cons_zero, List.getElem?_cons_succ, Nat.zero_add, Nat.add_zero, watchOk_cons, watchOk_nil, blkOf_ptr, hkC, hyo]
          refine gC.of (refSame_spec (p := S) (q := S) ⟨_, rfl, (hPB.keep hxC).pls⟩ ⟨_, rfl, hCP.pls⟩ hgS.l hgS.l) ?_
          rintro _ mD ⟨rfl, hxD⟩
          have hSD := (hSB.keep hxC).keep hxD
          have hbD := (hbB.keep hxC).keep hxD
          have hPD := (hPB.keep hxC).keep hxD
          have hx0D : Ext m0 mD := (((hx0m.trans hxA).trans hxB).trans hxC).trans hxD
          try simp only [go_sem, Int.reduceBEq, Int.reduceBNe, Int.reduceNeg, reduceCtorEq, Nat.reduceEqDiff, Nat.reduceAdd, Nat.reduceLeDiff, Nat.reduceMul, Nat.reduceSub, Int.reduceToNat, Int.reduceLT, Int.reduceLE, load_w, load_a, store_b, idxS_b, set_blk, new_blk, set_next, new_next, len_s, ldW_c, ldA_c, stB_c, toArr_one, size_one, toList_toArr, size_toArr, List.length_cons, List.length_nil, List.getElem?_cons_zero, List.getElem?_cons_succ, Nat.zero_add, Nat.add_zero, dS]
          refine ⟨by omega, ?_⟩
          refine gT.of (fun g9 => ?_) (fun g9 => ?_)
          · try simp only [go_sem, Int.reduceBEq, Int.reduceBNe, Int.reduceNeg, reduceCtorEq, Nat.reduceEqDiff, Nat.reduceAdd, Nat.reduceLeDiff, Nat.reduceMul, Nat.reduceSub, Int.reduceToNat, Int.reduceLT, Int.reduceLE, load_w, load_a, store_b, idxS_b, set_blk, new_blk, set_next, new_next, len_s, ldW_c, ldA_c, stB_c, toArr_one, size_one, toList_toArr, size_toArr, List.length_cons, List.length_nil, List.getElem?_cons_zero, List.getElem?_cons_succ, Nat.zero_add, Nat.add_zero, g9]
            refine gC.of (Turn_spec hSD (by simp) (by have := hSD.bk.lt; have := hbD.lt; simp; omega) ⟨by omega, by omega⟩) ?_
            rintro rr mE ⟨hUE, ⟨av2, hSE⟩, -⟩
            have hUE' : Upd mD mE [s, b5] := ⟨hUE.next, fun b hb hn => hUE.same b hb fun hm => hn (by simp at hm; simp [hm])⟩
            have hx0E : Ext m0 mE := hUE.ext_of hx0D (by simpa using hs)
            have hbE := hbD.upd hUE (by simpa using fun e => hsb e.symm)
            have hPE := hPD.upd hUE'
            have hbEq := hbE
            simp only [planV] at hbEq
            try simp only [go_sem, Int.reduceBEq, Int.reduceBNe, Int.reduceNeg, reduceCtorEq, Nat.reduceEqDiff, Nat.reduceAdd, Nat.reduceLeDiff, Nat.reduceMul, Nat.reduceSub, Int.reduceToNat, Int.reduceLT, Int.reduceLE, load_w, load_a, store_b, idxS_b, set_blk, new_blk, set_next, new_next, len_s, ldW_c, ldA_c, stB_c, toArr_one, size_one, toList_toArr, size_toArr, List.length_cons, List.length_nil, List.getElem?_cons_zero, List.getElem?_cons_succ, Nat.zero_add, Nat.add_zero, hbEq.at_]
            refine gC.of (Active_spec hSE) ?_
            rintro _ mF ⟨zv, rfl, hFF⟩
            obtain ⟨hFP, hxF⟩ := hFF [s, b5] (by have := hSE.bk.lt; have := hbE.lt; simp; omega)
            have hkF : mF.blk b5 = mE.blk b5 := hxF.same b5 hbE.lt
            have hzo := hFP.one
            obtain ⟨va, vn, vc, rfl⟩ := hFP.slice
            simp only [planV]
            try simp only [go_sem, Int.reduceBEq, Int.reduceBNe, Int.reduceNeg, reduceCtorEq, Nat.reduceEqDiff, Nat.reduceAdd, Nat.reduceLeDiff, Nat.reduceMul, Nat.reduceSub, Int.reduceToNat, Int.reduceLT, Int.reduceLE, load_w, load_a, store_b, idxS_b, set_blk, new_blk, set_next, new_next, len_s, ldW_c, ldA_c, stB_c, toArr_one, size_one, toList_toArr, size_toArr, List.length_cons, List.length_nil, List.getElem?_cons_zero, List.getElem?_cons_succ, Nat.zero_add, Nat.add_zero, watchOk_cons, watchOk_nil, blkOf_ptr, hkF, hzo]
            refine gC.of (refSame_spec (p := S) (q := S) ⟨_, rfl, (hPE.keep hxF).pls⟩ ⟨_, rfl, hFP.pls⟩ hgS.l hgS.l) ?_
            rintro _ mG ⟨rfl, hxG⟩
            try simp only [go_sem, Int.reduceBEq, Int.reduceBNe, Int.reduceNeg, reduceCtorEq, Nat.reduceEqDiff, Nat.reduceAdd, Nat.reduceLeDiff, Nat.reduceMul, Nat.reduceSub, Int.reduceToNat, Int.reduceLT, Int.reduceLE, load_w, load_a, store_b, idxS_b, set_blk, new_blk, set_next, new_next, len_s, ldW_c, ldA_c, stB_c, toArr_one, size_one, toList_toArr, size_toArr, List.length_cons, List.length_nil, List.getElem?_cons_zero, List.getElem?_cons_succ, Nat.zero_add, Nat.add_zero, dS, s1]
            exact ⟨l.length - (i + 1), by omega, i + 1, S, S, t + 1, av2, _, _, by omega, by omega, by omega, rfl, rfl, by have := (hSE.keep hxF).keep hxG; simpa using this, (hbE.keep hxF).keep hxG, (hPE.keep hxF).keep hxG, (hx0E.trans hxF).trans hxG⟩
          · try simp only [go_sem, Int.reduceBEq, Int.reduceBNe, Int.reduceNeg, reduceCtorEq, Nat.reduceEqDiff, Nat.reduceAdd, Nat.reduceLeDiff, Nat.reduceMul, Nat.reduceSub, Int.reduceToNat, Int.reduceLT, Int.reduceLE, load_w, load_a, store_b, idxS_b, set_blk, new_blk, set_next, new_next, len_s, ldW_c, ldA_c, stB_c, toArr_one, size_one, toList_toArr, size_toArr, List.length_cons, List.length_nil, List.getElem?_cons_zero, List.getElem?_cons_succ, Nat.zero_add, Nat.add_zero, g9, s1]
            exact ⟨l.length - (i + 1), by omega, i + 1, A, S, t, _, _, _, by omega, by omega, by omega, rfl, rfl, hSD, hbD, hPD, hx0D⟩
      · try simp only [go_sem, Int.reduceBEq, Int.reduceBNe, Int.reduceNeg, reduceCtorEq, Nat.reduceEqDiff, Nat.reduceAdd, Nat.reduceLeDiff, Nat.reduceMul, Nat.reduceSub, Int.reduceToNat, Int.reduceLT, Int.reduceLE, load_w, load_a, store_b, idxS_b, set_blk, new_blk, set_next, new_next, len_s, ldW_c, ldA_c, stB_c, toArr_one, size_one, toList_toArr, size_toArr, List.length_cons, List.length_nil, List.getElem?_cons_zero, List.getElem?_cons_succ, Nat.zero_add, Nat.add_zero, g3, s1]
        exact ⟨l.length - (i + 1), by omega, i + 1, A, S, t, av, sv, lv, by omega, by omega, by omega, rfl, rfl, hS.keep hx2, hb.keep hx2, hP.keep hx2, hx1.trans hx2⟩
    · have e2 : decide ((i : Int) < 12) = false := decide_eq_false (by omega)
      try simp only [go_sem, Int.reduceBEq, Int.reduceBNe, Int.reduceNeg, reduceCtorEq, Nat.reduceEqDiff, Nat.reduceAdd, Nat.reduceLeDiff, Nat.reduceMul, Nat.reduceSub, Int.reduceToNat, Int.reduceLT, Int.reduceLE, load_w, load_a, store_b, idxS_b, set_blk, new_blk, set_next, new_next, len_s, ldW_c, ldA_c, stB_c, toArr_one, size_one, toList_toArr, size_toArr, List.length_cons, List.length_nil, List.getElem?_cons_zero, List.getElem?_cons_succ, Nat.zero_add, Nat.add_zero, e1, e2]
  · have e1 : decide ((i : Int) < (l.length : Int)) = false := decide_eq_false (by omega)
    try simp only [go_sem, Int.reduceBEq, Int.reduceBNe, Int.reduceNeg, reduceCtorEq, Nat.reduceEqDiff, Nat.reduceAdd, Nat.reduceLeDiff, Nat.reduceMul, Nat.reduceSub, Int.reduceToNat, Int.reduceLT, Int.reduceLE, load_w, load_a, store_b, idxS_b, set_blk, new_blk, set_next, new_next, len_s, ldW_c, ldA_c, stB_c, toArr_one, size_one, toList_toArr, size_toArr, List.length_cons, List.length_nil, List.getElem?_cons_zero, List.getElem?_cons_succ, Nat.zero_add, Nat.add_zero, e1]
end Go.Am


/- The law StageLate. -/
set_option linter.unusedVariables false
set_option linter.unusedSimpArgs false
namespace Go.Am
open Classical
variable {m : Mem}

set_option maxHeartbeats 4000000 in
theorem StageLate_spec {l : List PlanD} {v : Value} (hl : PlansV m l v) : WC R F.law26_StageLate [v] m fun v m' => v = .bool true := by
  refine WC.of R.law26_StageLate rfl ?_
  simp only [RC.law26_StageLate, go_sem, Int.reduceBEq, Int.reduceBNe, Int.reduceNeg, reduceCtorEq, Nat.reduceEqDiff, Nat.reduceAdd, Nat.reduceLeDiff, Nat.reduceMul, Nat.reduceSub, Int.reduceToNat, Int.reduceLT, Int.reduceLE]
  refine gC.of New_spec ?_
  rintro _ m1 ⟨s, rfl, hs, hx1, hS⟩
  have e1 : ((0 : Int) != 0) = false := rfl
  simp only [pt]
  try simp only [go_sem, Int.reduceBEq, Int.reduceBNe, Int.reduceNeg, reduceCtorEq, Nat.reduceEqDiff, Nat.reduceAdd, Nat.reduceLeDiff, Nat.reduceMul, Nat.reduceSub, Int.reduceToNat, Int.reduceLT, Int.reduceLE, load_w, load_a, store_b, idxS_b, set_blk, new_blk, set_next, new_next, len_s, ldW_c, ldA_c, stB_c, toArr_one, size_one, toList_toArr, size_toArr, List.length_cons, List.length_nil, List.getElem?_cons_zero, List.getElem?_cons_succ, Nat.zero_add, Nat.add_zero, aExt0, aExt1, e1]
  have hS1 := hS []
  refine gC.of (Staged_spec hS1) ?_
  rintro _ m2 ⟨lv, rfl, hP⟩
  obtain ⟨hP2, hx2⟩ := hP [s] (by have := hS1.bk.lt; simpa using this)
  have hlo := hP2.one
  obtain ⟨wa, wn, wc, rfl⟩ := hP2.slice
  simp only [planV]
  try simp only [go_sem, Int.reduceBEq, Int.reduceBNe, Int.reduceNeg, reduceCtorEq, Nat.reduceEqDiff, Nat.reduceAdd, Nat.reduceLeDiff, Nat.reduceMul, Nat.reduceSub, Int.reduceToNat, Int.reduceLT, Int.reduceLE, load_w, load_a, store_b, idxS_b, set_blk, new_blk, set_next, new_next, len_s, ldW_c, ldA_c, stB_c, toArr_one, size_one, toList_toArr, size_toArr, List.length_cons, List.length_nil, List.getElem?_cons_zero, List.getElem?_cons_succ, Nat.zero_add, Nat.add_zero, hlo]
  have hx3 : Ext m2 (m2.new (.cells [.int .i64 empP.frame, u32 empP.cores, .slice wa wn wc] (some 3))) := Ext.new
  have hb3 : Bk (m2.new (.cells [.int .i64 empP.frame, u32 empP.cores, .slice wa wn wc] (some 3))) m2.next [.int .i64 empP.frame, u32 empP.cores, .slice wa wn wc] 3 := Bk.new
  generalize m2.new (.cells [.int .i64 empP.frame, u32 empP.cores, .slice wa wn wc] (some 3)) = m3 at hx3 hb3 ⊢
  have hS3 := ((hS [s, m2.next]).keep hx2).keep hx3
  have hP3 := (hP2.more (fq := [s, m2.next]) (by simp)).keep hx3
  have hn := (hx1.trans hx2).next
  have hsl := ((hS []).keep hx2).bk.lt
  refine WL.mono (StageLate_loop hl hs hn (by omega) ((hx1.trans hx2).trans hx3) hS3 hb3 hP3) ?_
  rintro _ _ m4 rfl
  try simp only [go_sem, Int.reduceBEq, Int.reduceBNe, Int.reduceNeg, reduceCtorEq, Nat.reduceEqDiff, Nat.reduceAdd, Nat.reduceLeDiff, Nat.reduceMul, Nat.reduceSub, Int.reduceToNat, Int.reduceLT, Int.reduceLE, load_w, load_a, store_b, idxS_b, set_blk, new_blk, set_next, new_next, len_s, ldW_c, ldA_c, stB_c, toArr_one, size_one, toList_toArr, size_toArr, List.length_cons, List.length_nil, List.getElem?_cons_zero, List.getElem?_cons_succ, Nat.zero_add, Nat.add_zero]
  refine gC.of (ok_specS R.law26_awake) ?_
  rintro _ m_ ⟨rfl, hm_⟩
  replace hm_ := hm_.symm
  subst hm_
  simp only [go_sem, Int.reduceBEq, Int.reduceBNe, Int.reduceNeg, reduceCtorEq, Nat.reduceEqDiff, Nat.reduceAdd, Nat.reduceLeDiff, Nat.reduceMul, Nat.reduceSub, Int.reduceToNat, Int.reduceLT, Int.reduceLE]
end Go.Am


/- StageLate, of arguments as they are read. -/
set_option linter.unusedVariables false
namespace Go.Am
theorem law26_StageLate_walk (m : Mem) (us : List Value) (h : RdAs m [(false, [.sl planSh])] us) : WC R F.law26_StageLate us m fun v _ => v = .bool true := by
  obtain ⟨_, _, rfl, h1, h⟩ := h.one; cases h.none
  obtain ⟨l, hl⟩ := plans_read h1.rd
  exact StageLate_spec hl
end Go.Am
