/- Parts of the proofs of the statements of this seat: ChainW6, ChainW7, ChainW8, ChainX1, ChainRd, WChainSplits. No conditions. -/
import Derived.Test.YteekebicnoaolaaChainSplitsPart7
set_option linter.unusedVariables false
set_option linter.unusedSimpArgs false

/- Chains: the document's Split: tick by tick. -/
set_option linter.unusedVariables false
set_option linter.unusedSimpArgs false
namespace Go.Am
open Classical
variable {m : Mem}

theorem Own.putB {mB m : Mem} {u n : Nat} {cs : List Value} {v w : Value} (h : Own mB m u n cs v) {k : IntKind} {i o : Nat} (hi : i < n) (ho : o < u) (hw : w.cells = #[w]) (hone : w.oneCell' = true) :
    ∃ b m', aIdxS u v (.int k i) = some (.pointer (some ⟨b, i * u, none⟩)) ∧ aStore 1 m (.pointer (some ⟨b, i * u + o, none⟩)) w = some m' ∧ Own mB m' u n (cs.set (i * u + o) w) v ∧ Upd m m' (vb v) ∧ b ∈ vb v := by
  have hb : ∃ b, aIdxS u v (.int k i) = some (.pointer (some ⟨b, i * u, none⟩)) ∧ b ∈ vb v ∧ mB.next ≤ b ∧ b < m.next := by
    cases h with
    | nil h hc => omega
    | @«at» b c all hb hb2 hn hm hl hcs h1 =>
      refine ⟨b, ?_, by simp [vb], hb, hb2⟩
      simp only [aIdxS]
      rw [if_pos (by omega), Int.toNat_natCast, Nat.zero_add]
  obtain ⟨b, hb1, hb2, hb3, hb4⟩ := hb
  obtain ⟨b', m', e1, e2, e3, e4, e5⟩ := (h.rebase (m1 := ⟨mB.next, m.blk⟩) (Nat.le_refl _)).putU (m0 := ⟨mB.next, m.blk⟩) ⟨by show mB.next ≤ m.next; omega, fun b hb => rfl⟩ (k := k) hi ho hw hone
  rw [hb1] at e1
  cases e1
  exact ⟨b, m', hb1, e2, e3.rebase (Nat.le_refl _), e5, hb2⟩
theorem Own.appC {mB m : Mem} {u n by_ : Nat} {cs es : List Value} {v : Value} (h : Own mB m u n cs v) (hM : mB.next ≤ m.next) (hu : 0 < u) (he : es.length = u) (h1 : oneCells es = true) (hby : (n + 1) * by_ ≤ 2 ^ 47) (hn : n + 1 < 2 ^ 62) :
    ∃ v' m', aApp none u by_ (m.new (.cells es (some u))) v (.slice (some ⟨m.next, 0, none⟩) 1 1) = some (v', m') ∧ Own mB m' u (n + 1) (cs ++ es) v' ∧ m.next ≤ m'.next ∧ (∀ b, b < m.next → b ∉ vb v → m'.blk b = m.blk b) ∧ (∀ b ∈ vb v', b ∈ vb v ∨ m.next ≤ b) := by
  obtain ⟨v', m', a1, a2, -⟩ := (h.rebase (m1 := ⟨mB.next, m.blk⟩) (Nat.le_refl _)).app (m0 := ⟨mB.next, m.blk⟩) (by_ := by_) ⟨by show mB.next ≤ m.next; omega, fun b hb => rfl⟩ hu he h1 hby hn
  have hx : Ext m (m.new (.cells es (some u))) := Ext.new
  have hnx := hx.next
  obtain ⟨c1, c2, c3⟩ := app_updA (M := m.next) a1 (fun k hk => by cases hk) hnx
  refine ⟨v', m', a1, a2.rebase (Nat.le_refl _), by omega, fun b hb hv => by rw [c2 b hb hv, hx.same b hb], fun b hb => ?_⟩
  rcases c3 with e | ⟨k, e, hk⟩
  · rw [e] at hb; exact .inl hb
  · rw [e] at hb; simp at hb; rw [hb]; exact .inr hk

theorem rowget {mB m : Mem} {r : List Int} {rv : Value} (h : Own mB m 1 16 (intsZ r) rv) (hl : r.length = 16) {i : Nat} (hi : i < 16) : ∃ p, aIdxS 1 rv (.int .i64 (i : Nat)) = some p ∧ aLoad false 1 m p = some (.int .i64 (r.getD i 0)) := by
  obtain ⟨p, a1, a2⟩ := h.sl.get (k := .i64) (i := i) hi
  exact ⟨p, a1, by rw [a2, intsZ_getI (by rw [hl]; exact hi)]⟩
/-- To the first core that has room: for the next tick. -/
theorem ref1_loop {mB : Mem} {r : List Int} {rv a b c g h t z : Value} {j : Nat} {i : Value} (ho : Own mB m 1 16 (intsZ r) rv) (hl : r.length = 16) (hj : ∀ i, i < j → r.getD i 0 = 0) (hj16 : j ≤ 16) (hz : fz r < 16) :
    WL R [1, 2, 4, 5, 6, 7, 8, 9, 10] RB.ref19_Split_1 [(1, a), (2, b), (4, c), (5, rv), (6, t), (7, i), (8, .int .i64 (j : Nat)), (9, g), (10, h), (76, z)] m fun y e m' => y = .exit 6 ∧ (∃ rs, e = (1, a) :: (2, b) :: (4, c) :: (5, rv) :: (6, t) :: (7, i) :: (8, .int .i64 (fz r : Nat)) :: (9, g) :: (10, h) :: rs) ∧ m' = m := by
  refine WL.of (fun n e m' => ∃ j : Nat, j ≤ fz r ∧ n = fz r - j ∧ e = [(1, a), (2, b), (4, c), (5, rv), (6, t), (7, i), (8, .int .i64 (j : Nat)), (9, g), (10, h)] ∧ m' = m) (fz r - j)
    ⟨j, fz_ge hj (by omega), rfl, by simp only [go_sem] <;> rfl, rfl⟩ ?_
  rintro _ _ m1 ⟨j, hj, rfl, rfl, hm⟩
  replace hm := hm.symm
  subst hm
  simp only [RB.ref19_Split_1, go_sem]
  have s1 := step1 (show j < 1000000 by omega)
  by_cases g : j < 15
  rotate_left
  · have e1 : decide (((j : Nat) : Int) < 15) = false := decide_eq_false (by omega)
    have hjf : fz r = j := by omega
    rw [hjf]
    try simp only [go_sem, ruB, e1]
    exact ⟨_, rfl⟩
  have e1 : decide (((j : Nat) : Int) < 15) = true := decide_eq_true (by omega)
  obtain ⟨p, a1, a2⟩ := rowget ho hl (i := j) (by omega)
  by_cases g0 : r.getD j 0 = 0
  · have e2 : (r.getD j 0 == 0) = true := by rw [beq_iff_eq]; exact g0
    have hlt : j < fz r := by
      by_cases e : j = fz r
      · subst e; exact absurd g0 (fz_at (by rw [hl]; exact hz))
      · omega
    try simp only [go_sem, ruB, e1, a1, a2, e2, s1]
    exact ⟨fz r - (j + 1), by omega, j + 1, by omega, rfl, rfl⟩
  · have e2 : (r.getD j 0 == 0) = false := by rw [beq_eq_false_iff_ne]; exact g0
    have hjf : fz r = j := by
      by_cases e : j = fz r
      · exact e.symm
      · exact absurd (fz_before (show j < fz r by omega)) g0
    rw [hjf]
    try simp only [go_sem, ruB, e1, a1, a2, e2]
    exact ⟨_, rfl⟩
theorem ref3_loop {mB : Mem} {r : List Int} {rv a b c t i : Value} (ho : Own mB m 1 16 (intsZ r) rv) (hl : r.length = 16) (hz : fz r < 16) :
    WL R [1, 2, 4, 5, 6, 7, 8] RB.ref19_Split_3 [(1, a), (2, b), (4, c), (5, rv), (6, t), (7, i), (8, .int .i64 0)] m fun y e m' => y = .exit 2 ∧ (∃ rs, e = (1, a) :: (2, b) :: (4, c) :: (5, rv) :: (6, t) :: (7, i) :: (8, .int .i64 (fz r : Nat)) :: rs) ∧ m' = m := by
  refine WL.of (fun n e m' => ∃ j : Nat, j ≤ fz r ∧ n = fz r - j ∧ e = [(1, a), (2, b), (4, c), (5, rv), (6, t), (7, i), (8, .int .i64 (j : Nat))] ∧ m' = m) (fz r)
    ⟨0, by omega, rfl, by simp only [go_sem] <;> rfl, rfl⟩ ?_
  rintro _ _ m1 ⟨j, hj, rfl, rfl, hm⟩
  replace hm := hm.symm
  subst hm
  simp only [RB.ref19_Split_3, go_sem]
  have s1 := step1 (show j < 1000000 by omega)
  by_cases g : j < 15
  rotate_left
  · have e1 : decide (((j : Nat) : Int) < 15) = false := decide_eq_false (by omega)
    have hjf : fz r = j := by omega
    rw [hjf]
    try simp only [go_sem, ruB, e1]
    exact ⟨_, rfl⟩
  have e1 : decide (((j : Nat) : Int) < 15) = true := decide_eq_true (by omega)
  obtain ⟨p, a1, a2⟩ := rowget ho hl (i := j) (by omega)
  by_cases g0 : r.getD j 0 = 0
  · have e2 : (r.getD j 0 == 0) = true := by rw [beq_iff_eq]; exact g0
    have hlt : j < fz r := by
      by_cases e : j = fz r
      · subst e; exact absurd g0 (fz_at (by rw [hl]; exact hz))
      · omega
    try simp only [go_sem, ruB, e1, a1, a2, e2, s1]
    exact ⟨fz r - (j + 1), by omega, j + 1, by omega, rfl, rfl⟩
  · have e2 : (r.getD j 0 == 0) = false := by rw [beq_eq_false_iff_ne]; exact g0
    have hjf : fz r = j := by
      by_cases e : j = fz r
      · exact e.symm
      · exact absurd (fz_before (show j < fz r by omega)) g0
    rw [hjf]
    try simp only [go_sem, ruB, e1, a1, a2, e2]
    exact ⟨_, rfl⟩
theorem addP_pre {ps : List Pc} {c t : Int} : (∃ q wl, ps = q ++ [(c, wl)] ∧ addP ps c t = q ++ [(c, withB wl t)]) ∨ ((ps = [] ∨ ∃ y, ps.getLast? = some y ∧ y.1 ≠ c) ∧ addP ps c t = ps ++ [(c, withB 0#64 t)]) := by
  unfold addP
  cases e : ps.getLast? with
  | none => exact .inr ⟨.inl (List.getLast?_eq_none_iff.1 e), by rw [List.getLast?_eq_none_iff.1 e]; rfl⟩
  | some y =>
    simp only []
    by_cases g : y.1 = c
    · rw [if_pos g]
      obtain ⟨ys, rfl⟩ := List.getLast?_eq_some_iff.1 e
      refine .inl ⟨ys, y.2, by rw [← g], by rw [List.dropLast_concat]⟩
    · rw [if_neg g]; exact .inr ⟨.inr ⟨y, rfl, g⟩, rfl⟩
theorem set_last {q : List Pc} {c : Int} {wl w' : BitVec 64} : ((q ++ [(c, wl)]).flatMap pcV).set (q.length * 2 + 1) (u64 w') = (q ++ [(c, w')]).flatMap pcV := by
  rw [List.flatMap_append, List.flatMap_append]
  have hl : (q.flatMap pcV).length = q.length * 2 := flat_len pcV_len
  rw [List.set_append_right _ _ (by omega), hl]
  have : q.length * 2 + 1 - q.length * 2 = 1 := by omega
  rw [this]; rfl
theorem kfill_p1 {a : Int} : fillL [.int .i64 0, u64 0#64] [(0, 1, .int .i64 a)] = some [.int .i64 a, u64 0#64] := rfl
structure RfL (mE mI m' : Mem) (b2 b9 : Nat) (rv : Value) (f : Int) (cs : BitVec 32) (lvv : Value) (S : Ch) (w : Wt) (k : Nat) (pv : Value) (c : Nat) : Prop where
  rm : Own mE m' 1 16 (intsZ S.r) rv
  b2k : Bk m' b2 [.int .i64 f, u32 cs, lvv] 3
  bc : Bk m' b9 [.int .i64 w.1, .int .i64 w.2, .int .i64 0, pv] 4
  o : Own mI m' 2 S.ps.length (S.ps.flatMap pcV) pv
  n : S.ps.length ≤ k
  x : Upd mI m' (vb rv)
  off : b9 ∉ vb pv
  kz : ∀ i, i < c → S.r.getD i 0 = 0
  c16 : c ≤ 16
set_option maxHeartbeats 8000000 in
theorem ref2_loop {mE mI m0 : Mem} {l : List Wt} {lw : Value} {b2 b4 b9 i c0 : Nat} {rv : Value} {f : Int} {cs : BitVec 32} {lvv : Value} {r : List Int} {t : Int} {w : Wt} (hs : Sl m0 2 l.length (l.flatMap spV) lw) (hlt : SlLt m0 lw) (hx0 : Ext m0 mE) (hxI : Ext mE mI) (hi : i < l.length) (hli : l[i] = w) (hl : l.length ≤ 60) (hrvE : ∀ x ∈ vb rv, mE.next ≤ x) (hrvl : ∀ x ∈ vb rv, x < mI.next) (hb2l : b2 < mI.next) (hb2r : b2 ∉ vb rv) (hb9 : mI.next ≤ b9)
    (hf : 2 ≤ f ∧ f ≤ 64) (hok : ChOk f r t) (hr : ∀ i, r.getD i 0 ≤ f) (hw : 1 ≤ w.2 ∧ w.2 ≤ f) (hsum : w.2 ≤ r.sum)
    (h0 : RfL mE mI m b2 b9 rv f cs lvv ⟨r, t, []⟩ w 0 (.slice none 0 0) c0) :
    WL R [1, 2, 4, 5, 6, 7, 8, 9, 10] RB.ref19_Split_2 [(1, lw), (2, pt b2), (4, pt b4), (5, rv), (6, .int .i64 t), (7, .int .i64 (i : Nat)), (8, .int .i64 (c0 : Nat)), (9, pt b9), (10, .int .i64 0)] m fun y e m' => y = .exit 4 ∧ (∃ c k rs, e = (1, lw) :: (2, pt b2) :: (4, pt b4) :: (5, rv) :: (6, .int .i64 (stN f w.2.toNat ⟨r, t, []⟩).t) :: (7, .int .i64 (i : Nat)) :: (8, c) :: (9, pt b9) :: (10, k) :: rs) ∧ ∃ pv c, RfL mE mI m' b2 b9 rv f cs lvv (stN f w.2.toNat ⟨r, t, []⟩) w w.2.toNat pv c := by
  have hb9r : b9 ∉ vb rv := fun hm => by have := hrvl _ hm; omega
  refine WL.of (fun z e m' => ∃ (k : Nat) (pv : Value) (c : Nat), (k : Int) ≤ w.2 ∧ z = w.2.toNat - k ∧ e = [(1, lw), (2, pt b2), (4, pt b4), (5, rv), (6, .int .i64 (stN f k ⟨r, t, []⟩).t), (7, .int .i64 (i : Nat)), (8, .int .i64 (c : Nat)), (9, pt b9), (10, .int .i64 (k : Nat))] ∧ RfL mE mI m' b2 b9 rv f cs lvv (stN f k ⟨r, t, []⟩) w k pv c) w.2.toNat
    ⟨0, _, c0, by omega, by omega, by simp only [pt, go_sem] <;> rfl, h0⟩ ?_
  rintro _ _ m1 ⟨k, pv, c, hk, rfl, rfl, hP⟩
  obtain ⟨hS, hSs⟩ := @stN_ok f hf.1 k ⟨r, t, []⟩ hok (show ((k : Nat) : Int) ≤ r.sum by omega)
  have hSs : (stN f k ⟨r, t, []⟩).r.sum = r.sum - k := hSs
  have hrS : ∀ i, (stN f k ⟨r, t, []⟩).r.getD i 0 ≤ f := fun i => Int.le_trans stN_le (hr i)
  have hX1 : Ext m0 m1 := hx0.trans (hP.x.ext_of hxI hrvE)
  have hs1 := hs.keep hlt hX1
  obtain ⟨wb, wo, a1, -, a3, -⟩ := hs1.elem spV_len (k := .i64) hi
  have a31 := a3 1 (by omega)
  rw [hli] at a31
  simp only [spV, List.getElem?_cons_zero, List.getElem?_cons_succ] at a31
  have wk := step1 (show k < 1000000 by omega)
  simp only [RB.ref19_Split_2, pt, go_sem]
  by_cases g : (k : Int) < w.2
  rotate_left
  · have e1 : decide (((k : Nat) : Int) < w.2) = false := decide_eq_false g
    have hkk : w.2.toNat = k := by omega
    rw [hkk]
    try simp only [go_sem, ruB, a1, a31, e1]
    exact ⟨⟨_, _, _, rfl⟩, pv, c, hP⟩
  have e1 : decide (((k : Nat) : Int) < w.2) = true := decide_eq_true g
  generalize hSe : stN f k ⟨r, t, []⟩ = S at *
  obtain ⟨Sr, St, Sp⟩ := S
  simp only at hSs hS hrS
  have hc := sum_fz (r := Sr) (by omega)
  have hcz := fz_at hc
  rw [hS.l] at hc
  have hcn := hS.n (fz Sr)
  have hpn := hP.n
  simp only at hpn
  have hwI := hP.x.next
  have pge := hP.o.ge
  have wr : IntKind.wrap .i64 (Sr.getD (fz Sr) 0 - 1) = Sr.getD (fz Sr) 0 - 1 := wrap_i64 (by omega) (by omega)
  have ht := hS.t
  have wt : IntKind.wrap .i64 (St + 1) = St + 1 := wrap_i64 (by omega) (by omega)
  have f0 : (f == 0) = false := by rw [beq_eq_false_iff_ne]; omega
  have f1 : f ≠ 0 := by omega
  have tm0 : (St + 1).tmod f = (St + 1) % f := Int.tmod_eq_emod_of_nonneg (by omega)
  have tn := Int.emod_nonneg (St + 1) f1
  have tl := Int.emod_lt_of_pos (St + 1) (show 0 < f by omega)
  have tm : IntKind.wrap .i64 ((St + 1) % f) = (St + 1) % f := wrap_i64 (by omega) (by omega)
  try simp only [go_sem, ruB, a1, a31, e1]
  refine WL.mono (ref1_loop hP.rm hS.l hP.kz hP.c16 hc) ?_
  rintro _ _ _ ⟨rfl, ⟨rs, rfl⟩, hm⟩
  replace hm := hm.symm
  subst hm
  have hPo : Own mI m1 2 Sp.length (Sp.flatMap pcV) pv := hP.o
  have lnp := hPo.sl.len
  rcases @addP_pre Sp ((fz Sr : Nat) : Int) St with ⟨q, wl, hps1, hps2⟩ | ⟨hemp, hps2⟩
  · -- the last piece is of this core
    have hlq0 : Sp.length = q.length + 1 := by rw [hps1]; simp
    have z1 : (((Sp.length : Nat) : Int) == 0) = false := by rw [beq_eq_false_iff_ne]; omega
    have z2 : (((fz Sr : Nat) : Int) != ((fz Sr : Nat) : Int)) = false := by rw [bne_eq_false_iff_eq]
    obtain ⟨lb, lo, l1, -, l3, -⟩ := hPo.sl.elem (f := pcV) pcV_len (k := .i64) (i := q.length) (by omega)
    have l30 := l3 0 (by omega)
    have l31 := l3 1 (by omega)
    have hge0 : Sp[q.length]'(by omega) = (((fz Sr : Nat) : Int), wl) := by simp [hps1]
    simp only [hge0] at l30 l31
    simp only [pcV, List.getElem?_cons_zero, List.getElem?_cons_succ, Nat.add_zero] at l30 l31
    have w0 : IntKind.wrap .i64 (((Sp.length : Nat) : Int) - 1) = ((q.length : Nat) : Int) := by rw [wrap_i64 (by omega) (by omega)]; omega
    try simp only [go_sem, ruB, hP.bc.at_, lnp, z1, w0, l1, l30, l31, z2, watch_one, watch_nil, blk_ptr]
    have hlq : (Sp).length = q.length + 1 := by rw [hps1]; simp
    obtain ⟨eb, eo, c1, -, c3, -⟩ := hPo.sl.elem (f := pcV) pcV_len (k := .i64) (i := q.length) (by omega)
    have c31 := c3 1 (by omega)
    have hge : (Sp)[q.length]'(by omega) = (((fz Sr : Nat) : Int), wl) := by simp [hps1]
    rw [hge] at c31
    simp only [pcV, List.getElem?_cons_zero, List.getElem?_cons_succ] at c31
    obtain ⟨sb, m5, p1, p2, p3, p4, p5⟩ := hPo.putB (w := u64 (withB wl St)) (k := .i64) (i := q.length) (o := 1) (by omega) (by omega) rfl rfl
    rw [p1] at c1
    cases c1
    rw [p1] at l1
    cases l1
    have hfl : ((Sp).flatMap pcV).set (q.length * 2 + 1) (u64 (withB wl St)) = (addP Sp ((fz Sr : Nat) : Int) St).flatMap pcV := by rw [hps2, hps1]; exact set_last
    have hfn : (addP Sp ((fz Sr : Nat) : Int) St).length = (Sp).length := by rw [hps2, hps1]; simp
    rw [hfl] at p3
    have w1 : IntKind.wrap .i64 ((((Sp.length : Nat) : Int) : Int) - 1) = ((q.length : Nat) : Int) := by rw [wrap_i64 (by omega) (by omega)]; omega
    try simp only [go_sem, ruB, hP.bc.at_, w1, p1, c31, watch_one, watch_nil, blk_ptr]
    refine gC.of (ref04_With_spec (x := wl) (t := St)) ?_
    rintro _ _ ⟨rfl, hmw⟩
    replace hmw := hmw.symm
    subst hmw
    have bc5 := hP.bc.upd p4 hP.off
    have b25 := hP.b2k.upd p4 (fun hm => by have := pge _ hm; omega)
    have pvr : ∀ x ∈ vb pv, x ∉ vb rv := fun x hx hm => by have := pge x hx; have := hrvl x hm; omega
    have rm5 := hP.rm.updq p4 (fun x hx hm => pvr x hm hx)
    obtain ⟨p, r1, r2⟩ := rowget rm5 hS.l hc
    obtain ⟨sb2, m6, s1', s2, s3, s4, s5⟩ := rm5.putB (w := .int .i64 (Sr.getD (fz Sr) 0 - 1)) (k := .i64) (i := fz Sr) (o := 0) hc (by omega) rfl rfl
    simp only [Nat.mul_one, Nat.add_zero] at s1' s2 s3
    rw [intsZ_setC] at s3
    have hpq := Option.some.inj (r1.symm.trans s1')
    subst hpq
    have b26 := b25.upd s4 hb2r
    have bc6 := bc5.upd s4 hb9r
    have p6 := p3.updq s4 (fun x hx hm => pvr x hx hm)
    try simp only [go_sem, ruB, watch_one, watch_nil, blk_ptr, p1, p2, r1, r2, wr, s2, b26.at_, wt, f0, f1, tm0, tm, wk]
    have hst : stN f (k + 1) ⟨r, t, []⟩ = ⟨Sr.set (fz Sr) (Sr.getD (fz Sr) 0 - 1), (St + 1) % f, addP Sp ((fz Sr : Nat) : Int) St⟩ := by show stC f (stN f k ⟨r, t, []⟩) = _; rw [hSe]; rfl
    refine ⟨w.2.toNat - (k + 1), by omega, k + 1, pv, fz Sr, by omega, rfl, by rw [hst], ?_⟩
    rw [hst]
    have n5 := p4.next
    have n6 := s4.next
    refine ⟨s3, b26, bc6, by show Own mI _ 2 (addP Sp _ St).length _ _; rw [hfn]; exact p6, by show (addP Sp _ St).length ≤ _; rw [hfn]; omega, ⟨by have := hP.x.next; omega, fun x hx hn => ?_⟩, hP.off, fun i hi => ?_, by omega⟩
    · have hxp : x ∉ vb pv := fun hm => by have := pge x hm; omega
      rw [s4.same x (by have := hP.x.next; omega) hn, p4.same x (by have := hP.x.next; omega) hxp, hP.x.same x hx hn]
    · show (Sr.set (fz Sr) (Sr.getD (fz Sr) 0 - 1)).getD i 0 = 0
      rw [set_getD (by rw [hS.l]; exact hc), if_neg (by omega)]; exact fz_before hi
  · rcases hemp with hnil | ⟨y, hy, hyc⟩
    · have z1 : (((Sp.length : Nat) : Int) == 0) = true := by rw [beq_iff_eq, hnil]; rfl
      try simp only [go_sem, ruB, hP.bc.at_, lnp, z1]
      have hx0' : mI.next ≤ m1.next := hP.x.next
      obtain ⟨v3, m3, d1, d2, d3, d4, d5⟩ := hPo.appC (by_ := 16) (es := [.int .i64 ((fz Sr : Nat) : Int), u64 0#64]) hx0' (by omega) rfl rfl (by omega) (by omega)
      have b9l := hP.bc.lt
      have bc3 : Bk m3 b9 [.int .i64 w.1, .int .i64 w.2, .int .i64 0, pv] 4 := ⟨by rw [d4 b9 b9l hP.off]; exact hP.bc.at_, by omega⟩
      obtain ⟨va, vn, vc, rfl⟩ := slice_of d2
      have hU4 : Upd m3 (m3.set b9 (some (.cells [.int .i64 w.1, .int .i64 w.2, .int .i64 0, .slice va vn vc] (some 4)))) [b9] := Upd.set (by simp)
      have bc4 : Bk (m3.set b9 (some (.cells [.int .i64 w.1, .int .i64 w.2, .int .i64 0, .slice va vn vc] (some 4)))) b9 [.int .i64 w.1, .int .i64 w.2, .int .i64 0, .slice va vn vc] 4 := ⟨by simp [Mem.set], by show b9 < m3.next; omega⟩
      have off4 : b9 ∉ vb (.slice va vn vc) := fun hm => by
        rcases d5 _ hm with j | j
        · exact hP.off j
        · omega
      have pge4 : ∀ x, x ∈ vb (.slice va vn vc) → mI.next ≤ x := fun x hx => by
        rcases d5 x hx with j | j
        · exact pge x j
        · omega
      have hb2m := hP.b2k.lt
      have hpb2 : b2 ∉ vb pv := fun hm => by have := pge _ hm; omega
      have b23 : Bk m3 b2 [.int .i64 f, u32 cs, lvv] 3 := ⟨by rw [d4 b2 hb2m hpb2]; exact hP.b2k.at_, by omega⟩
      have hrvp : ∀ x ∈ vb rv, x ∉ vb pv := fun x hx hm => by have := pge _ hm; have := hrvl x hx; omega
      have rm3 := hP.rm.same d3 (fun x hx => d4 x (by have := hrvl x hx; omega) (hrvp x hx))
      have d24 := d2.updq hU4 (fun x hx hm => by rw [List.mem_singleton] at hm; exact off4 (hm ▸ hx))
      have b24 := b23.upd hU4 (by simp; omega)
      have rm4 := rm3.updq hU4 (fun x hx => by have := hrvl x hx; simp; omega)
      have ux4 : Upd mI (m3.set b9 (some (.cells [.int .i64 w.1, .int .i64 w.2, .int .i64 0, .slice va vn vc] (some 4)))) (vb rv) := ⟨by show mI.next ≤ m3.next; omega, fun x hx hn => by rw [hU4.same x (by omega) (by simp; omega), d4 x (by omega) (fun hm => by have := pge _ hm; omega), hP.x.same x hx hn]⟩
      have w9 : IntKind.wrap .i64 (((Sp.length : Nat) : Int) + 1) = ((Sp.length + 1 : Nat) : Int) := by rw [wrap_i64 (by omega) (by omega)]; rfl
      try simp only [go_sem, ruB, ↓kfill_p1, ↓kfill_pp, d1, bc3.at_, w9]
      generalize m3.set b9 (some (.cells [.int .i64 w.1, .int .i64 w.2, .int .i64 0, .slice va vn vc] (some 4))) = m4 at hU4 bc4 d24 b24 rm4 ux4 ⊢
      obtain ⟨q, wl, hps1, hq⟩ : ∃ q wl, Sp ++ [(((fz Sr : Nat) : Int), 0#64)] = q ++ [(((fz Sr : Nat) : Int), wl)] ∧ q = Sp ∧ wl = 0#64 := ⟨Sp, 0#64, rfl, rfl, rfl⟩
      replace hps2 : addP Sp ((fz Sr : Nat) : Int) St = q ++ [(((fz Sr : Nat) : Int), withB wl St)] := by rw [hq.1, hq.2]; exact hps2
      have hql : q.length = Sp.length := by rw [hq.1]
      have d24' : Own mI m4 2 (Sp ++ [(((fz Sr : Nat) : Int), 0#64)]).length ((Sp ++ [(((fz Sr : Nat) : Int), 0#64)]).flatMap pcV) (.slice va vn vc) := by rw [List.length_append, List.length_singleton, List.flatMap_append]; exact d24
      have hlq : ((Sp ++ [(((fz Sr : Nat) : Int), 0#64)])).length = q.length + 1 := by rw [hps1]; simp
      obtain ⟨eb, eo, c1, -, c3, -⟩ := d24'.sl.elem (f := pcV) pcV_len (k := .i64) (i := q.length) (by omega)
      have c31 := c3 1 (by omega)
      have hge : ((Sp ++ [(((fz Sr : Nat) : Int), 0#64)]))[q.length]'(by omega) = (((fz Sr : Nat) : Int), wl) := by simp [hps1]
      rw [hge] at c31
      simp only [pcV, List.getElem?_cons_zero, List.getElem?_cons_succ] at c31
      obtain ⟨sb, m5, p1, p2, p3, p4, p5⟩ := d24'.putB (w := u64 (withB wl St)) (k := .i64) (i := q.length) (o := 1) (by omega) (by omega) rfl rfl
      rw [p1] at c1
      cases c1
      have hfl : (((Sp ++ [(((fz Sr : Nat) : Int), 0#64)])).flatMap pcV).set (q.length * 2 + 1) (u64 (withB wl St)) = (addP Sp ((fz Sr : Nat) : Int) St).flatMap pcV := by rw [hps2, hps1]; exact set_last
      have hfn : (addP Sp ((fz Sr : Nat) : Int) St).length = ((Sp ++ [(((fz Sr : Nat) : Int), 0#64)])).length := by rw [hps2, hps1]; simp
      rw [hfl] at p3
      have w1 : IntKind.wrap .i64 ((((Sp.length + 1 : Nat) : Int) : Int) - 1) = ((q.length : Nat) : Int) := by rw [wrap_i64 (by omega) (by omega)]; omega
      try simp only [go_sem, ruB, bc4.at_, w1, p1, c31, watch_one, watch_nil, blk_ptr]
      refine gC.of (ref04_With_spec (x := wl) (t := St)) ?_
      rintro _ _ ⟨rfl, hmw⟩
      replace hmw := hmw.symm
      subst hmw
      have bc5 := bc4.upd p4 off4
      have b25 := b24.upd p4 (fun hm => by have := pge4 _ hm; omega)
      have pvr : ∀ x ∈ vb (.slice va vn vc), x ∉ vb rv := fun x hx hm => by have := pge4 x hx; have := hrvl x hm; omega
      have rm5 := rm4.updq p4 (fun x hx hm => pvr x hm hx)
      obtain ⟨p, r1, r2⟩ := rowget rm5 hS.l hc
      obtain ⟨sb2, m6, s1', s2, s3, s4, s5⟩ := rm5.putB (w := .int .i64 (Sr.getD (fz Sr) 0 - 1)) (k := .i64) (i := fz Sr) (o := 0) hc (by omega) rfl rfl
      simp only [Nat.mul_one, Nat.add_zero] at s1' s2 s3
      rw [intsZ_setC] at s3
      have hpq := Option.some.inj (r1.symm.trans s1')
      subst hpq
      have b26 := b25.upd s4 hb2r
      have bc6 := bc5.upd s4 hb9r
      have p6 := p3.updq s4 (fun x hx hm => pvr x hx hm)
      try simp only [go_sem, ruB, watch_one, watch_nil, blk_ptr, p1, p2, r1, r2, wr, s2, b26.at_, wt, f0, f1, tm0, tm, wk]
      have hst : stN f (k + 1) ⟨r, t, []⟩ = ⟨Sr.set (fz Sr) (Sr.getD (fz Sr) 0 - 1), (St + 1) % f, addP Sp ((fz Sr : Nat) : Int) St⟩ := by show stC f (stN f k ⟨r, t, []⟩) = _; rw [hSe]; rfl
      refine ⟨w.2.toNat - (k + 1), by omega, k + 1, (.slice va vn vc), fz Sr, by omega, rfl, by rw [hst], ?_⟩
      rw [hst]
      have n5 := p4.next
      have n6 := s4.next
      refine ⟨s3, b26, bc6, by show Own mI _ 2 (addP Sp _ St).length _ _; rw [hfn]; exact p6, by show (addP Sp _ St).length ≤ _; rw [hfn]; omega, ⟨by have := ux4.next; omega, fun x hx hn => ?_⟩, off4, fun i hi => ?_, by omega⟩
      · have hxp : x ∉ vb (.slice va vn vc) := fun hm => by have := pge4 x hm; omega
        rw [s4.same x (by have := ux4.next; omega) hn, p4.same x (by have := ux4.next; omega) hxp, ux4.same x hx hn]
      · show (Sr.set (fz Sr) (Sr.getD (fz Sr) 0 - 1)).getD i 0 = 0
        rw [set_getD (by rw [hS.l]; exact hc), if_neg (by omega)]; exact fz_before hi
    · obtain ⟨ys, hys⟩ := List.getLast?_eq_some_iff.1 hy
      have hlq0 : Sp.length = ys.length + 1 := by rw [hys]; simp
      have z1 : (((Sp.length : Nat) : Int) == 0) = false := by rw [beq_eq_false_iff_ne]; omega
      have z2 : (y.1 != ((fz Sr : Nat) : Int)) = true := by rw [bne_iff_ne]; exact hyc
      obtain ⟨lb, lo, l1, -, l3, -⟩ := hPo.sl.elem (f := pcV) pcV_len (k := .i64) (i := ys.length) (by omega)
      have l30 := l3 0 (by omega)
      have hge0 : Sp[ys.length]'(by omega) = y := by simp [hys]
      simp only [hge0] at l30
      simp only [pcV, List.getElem?_cons_zero, Nat.add_zero] at l30
      have w0 : IntKind.wrap .i64 (((Sp.length : Nat) : Int) - 1) = ((ys.length : Nat) : Int) := by rw [wrap_i64 (by omega) (by omega)]; omega
      try simp only [go_sem, ruB, hP.bc.at_, lnp, z1, w0, l1, l30, z2]
      have hx0' : mI.next ≤ m1.next := hP.x.next
      obtain ⟨v3, m3, d1, d2, d3, d4, d5⟩ := hPo.appC (by_ := 16) (es := [.int .i64 ((fz Sr : Nat) : Int), u64 0#64]) hx0' (by omega) rfl rfl (by omega) (by omega)
      have b9l := hP.bc.lt
      have bc3 : Bk m3 b9 [.int .i64 w.1, .int .i64 w.2, .int .i64 0, pv] 4 := ⟨by rw [d4 b9 b9l hP.off]; exact hP.bc.at_, by omega⟩
      obtain ⟨va, vn, vc, rfl⟩ := slice_of d2
      have hU4 : Upd m3 (m3.set b9 (some (.cells [.int .i64 w.1, .int .i64 w.2, .int .i64 0, .slice va vn vc] (some 4)))) [b9] := Upd.set (by simp)
      have bc4 : Bk (m3.set b9 (some (.cells [.int .i64 w.1, .int .i64 w.2, .int .i64 0, .slice va vn vc] (some 4)))) b9 [.int .i64 w.1, .int .i64 w.2, .int .i64 0, .slice va vn vc] 4 := ⟨by simp [Mem.set], by show b9 < m3.next; omega⟩
      have off4 : b9 ∉ vb (.slice va vn vc) := fun hm => by
        rcases d5 _ hm with j | j
        · exact hP.off j
        · omega
      have pge4 : ∀ x, x ∈ vb (.slice va vn vc) → mI.next ≤ x := fun x hx => by
        rcases d5 x hx with j | j
        · exact pge x j
        · omega
      have hb2m := hP.b2k.lt
      have hpb2 : b2 ∉ vb pv := fun hm => by have := pge _ hm; omega
      have b23 : Bk m3 b2 [.int .i64 f, u32 cs, lvv] 3 := ⟨by rw [d4 b2 hb2m hpb2]; exact hP.b2k.at_, by omega⟩
      have hrvp : ∀ x ∈ vb rv, x ∉ vb pv := fun x hx hm => by have := pge _ hm; have := hrvl x hx; omega
      have rm3 := hP.rm.same d3 (fun x hx => d4 x (by have := hrvl x hx; omega) (hrvp x hx))
      have d24 := d2.updq hU4 (fun x hx hm => by rw [List.mem_singleton] at hm; exact off4 (hm ▸ hx))
      have b24 := b23.upd hU4 (by simp; omega)
      have rm4 := rm3.updq hU4 (fun x hx => by have := hrvl x hx; simp; omega)
      have ux4 : Upd mI (m3.set b9 (some (.cells [.int .i64 w.1, .int .i64 w.2, .int .i64 0, .slice va vn vc] (some 4)))) (vb rv) := ⟨by show mI.next ≤ m3.next; omega, fun x hx hn => by rw [hU4.same x (by omega) (by simp; omega), d4 x (by omega) (fun hm => by have := pge _ hm; omega), hP.x.same x hx hn]⟩
      have w9 : IntKind.wrap .i64 (((Sp.length : Nat) : Int) + 1) = ((Sp.length + 1 : Nat) : Int) := by rw [wrap_i64 (by omega) (by omega)]; rfl
      try simp only [go_sem, ruB, ↓kfill_p1, ↓kfill_pp, d1, bc3.at_, w9]
      generalize m3.set b9 (some (.cells [.int .i64 w.1, .int .i64 w.2, .int .i64 0, .slice va vn vc] (some 4))) = m4 at hU4 bc4 d24 b24 rm4 ux4 ⊢
      obtain ⟨q, wl, hps1, hq⟩ : ∃ q wl, Sp ++ [(((fz Sr : Nat) : Int), 0#64)] = q ++ [(((fz Sr : Nat) : Int), wl)] ∧ q = Sp ∧ wl = 0#64 := ⟨Sp, 0#64, rfl, rfl, rfl⟩
      replace hps2 : addP Sp ((fz Sr : Nat) : Int) St = q ++ [(((fz Sr : Nat) : Int), withB wl St)] := by rw [hq.1, hq.2]; exact hps2
      have hql : q.length = Sp.length := by rw [hq.1]
      have d24' : Own mI m4 2 (Sp ++ [(((fz Sr : Nat) : Int), 0#64)]).length ((Sp ++ [(((fz Sr : Nat) : Int), 0#64)]).flatMap pcV) (.slice va vn vc) := by rw [List.length_append, List.length_singleton, List.flatMap_append]; exact d24
      have hlq : ((Sp ++ [(((fz Sr : Nat) : Int), 0#64)])).length = q.length + 1 := by rw [hps1]; simp
      obtain ⟨eb, eo, c1, -, c3, -⟩ := d24'.sl.elem (f := pcV) pcV_len (k := .i64) (i := q.length) (by omega)
      have c31 := c3 1 (by omega)
      have hge : ((Sp ++ [(((fz Sr : Nat) : Int), 0#64)]))[q.length]'(by omega) = (((fz Sr : Nat) : Int), wl) := by simp [hps1]
      rw [hge] at c31
      simp only [pcV, List.getElem?_cons_zero, List.getElem?_cons_succ] at c31
      obtain ⟨sb, m5, p1, p2, p3, p4, p5⟩ := d24'.putB (w := u64 (withB wl St)) (k := .i64) (i := q.length) (o := 1) (by omega) (by omega) rfl rfl
      rw [p1] at c1
      cases c1
      have hfl : (((Sp ++ [(((fz Sr : Nat) : Int), 0#64)])).flatMap pcV).set (q.length * 2 + 1) (u64 (withB wl St)) = (addP Sp ((fz Sr : Nat) : Int) St).flatMap pcV := by rw [hps2, hps1]; exact set_last
      have hfn : (addP Sp ((fz Sr : Nat) : Int) St).length = ((Sp ++ [(((fz Sr : Nat) : Int), 0#64)])).length := by rw [hps2, hps1]; simp
      rw [hfl] at p3
      have w1 : IntKind.wrap .i64 ((((Sp.length + 1 : Nat) : Int) : Int) - 1) = ((q.length : Nat) : Int) := by rw [wrap_i64 (by omega) (by omega)]; omega
      try simp only [go_sem, ruB, bc4.at_, w1, p1, c31, watch_one, watch_nil, blk_ptr]
      refine gC.of (ref04_With_spec (x := wl) (t := St)) ?_
      rintro _ _ ⟨rfl, hmw⟩
      replace hmw := hmw.symm
      subst hmw
      have bc5 := bc4.upd p4 off4
      have b25 := b24.upd p4 (fun hm => by have := pge4 _ hm; omega)
      have pvr : ∀ x ∈ vb (.slice va vn vc), x ∉ vb rv := fun x hx hm => by have := pge4 x hx; have := hrvl x hm; omega
      have rm5 := rm4.updq p4 (fun x hx hm => pvr x hm hx)
      obtain ⟨p, r1, r2⟩ := rowget rm5 hS.l hc
      obtain ⟨sb2, m6, s1', s2, s3, s4, s5⟩ := rm5.putB (w := .int .i64 (Sr.getD (fz Sr) 0 - 1)) (k := .i64) (i := fz Sr) (o := 0) hc (by omega) rfl rfl
      simp only [Nat.mul_one, Nat.add_zero] at s1' s2 s3
      rw [intsZ_setC] at s3
      have hpq := Option.some.inj (r1.symm.trans s1')
      subst hpq
      have b26 := b25.upd s4 hb2r
      have bc6 := bc5.upd s4 hb9r
      have p6 := p3.updq s4 (fun x hx hm => pvr x hx hm)
      try simp only [go_sem, ruB, watch_one, watch_nil, blk_ptr, p1, p2, r1, r2, wr, s2, b26.at_, wt, f0, f1, tm0, tm, wk]
      have hst : stN f (k + 1) ⟨r, t, []⟩ = ⟨Sr.set (fz Sr) (Sr.getD (fz Sr) 0 - 1), (St + 1) % f, addP Sp ((fz Sr : Nat) : Int) St⟩ := by show stC f (stN f k ⟨r, t, []⟩) = _; rw [hSe]; rfl
      refine ⟨w.2.toNat - (k + 1), by omega, k + 1, (.slice va vn vc), fz Sr, by omega, rfl, by rw [hst], ?_⟩
      rw [hst]
      have n5 := p4.next
      have n6 := s4.next
      refine ⟨s3, b26, bc6, by show Own mI _ 2 (addP Sp _ St).length _ _; rw [hfn]; exact p6, by show (addP Sp _ St).length ≤ _; rw [hfn]; omega, ⟨by have := ux4.next; omega, fun x hx hn => ?_⟩, off4, fun i hi => ?_, by omega⟩
      · have hxp : x ∉ vb (.slice va vn vc) := fun hm => by have := pge4 x hm; omega
        rw [s4.same x (by have := ux4.next; omega) hn, p4.same x (by have := ux4.next; omega) hxp, ux4.same x hx hn]
      · show (Sr.set (fz Sr) (Sr.getD (fz Sr) 0 - 1)).getD i 0 = 0
        rw [set_getD (by rw [hS.l]; exact hc), if_neg (by omega)]; exact fz_before hi
end Go.Am


/- Chains: the document's Split. -/
set_option linter.unusedVariables false
set_option linter.unusedSimpArgs false
namespace Go.Am
open Classical
variable {m : Mem}

theorem putE_map {l : List PE} {x : PE} {k : Nat} (h : cutE (dropE l x.pl.unit) x.pl.unit k) : ((dropE l x.pl.unit).take k ++ x :: (dropE l x.pl.unit).drop k).map PE.pl = putP (l.map PE.pl) x.pl := by
  obtain ⟨h1, h2, h3⟩ := h
  have hm : (dropE l x.pl.unit).map PE.pl = dropU (l.map PE.pl) x.pl.unit := dropE_map
  have hl : (dropU (l.map PE.pl) x.pl.unit).length = (dropE l x.pl.unit).length := by rw [← hm, List.length_map]
  obtain ⟨k1, k2⟩ := tkw (p := fun y : Pl => decide (y.unit < x.pl.unit)) (L := dropU (l.map PE.pl) x.pl.unit) (j := k) (by omega) (fun i hi hik => by
    have := h2 i (by omega) hik
    simp only [← hm, List.getElem_map]
    simpa using this) (fun hk => by
    have := h3 (by omega)
    simp only [← hm, List.getElem_map]
    simpa using this)
  unfold putP
  rw [k1, k2, List.map_append, List.map_cons, List.map_take, List.map_drop, hm]
theorem stpC_of {f : Int} {s : Cn} {w : Wt} {p : Pl} {r : List Int} {t : Int} (h : plcC f s.r s.t w = (p, r, t)) : stpC f s w = ⟨r, t, putP s.q p⟩ := by unfold stpC; rw [h]
structure RpV (mE m : Mem) (b2 b4 : Nat) (rv : Value) (f : Int) (cs : BitVec 32) (s : Cn) (le : List PE) (lv : Value) : Prop where
  rm : Own mE m 1 16 (intsZ s.r) rv
  bk : Bk m b2 [.int .i64 f, u32 cs, lv] 3
  b4k : Bk m b4 [.int .i64 0, u32 0#32, .slice none 0 0] 3
  row : RowE m le lv
  pcs : ∀ e ∈ le, PcV m e.pl.pieces e.pv
  q : le.map PE.pl = s.q
  off : ∀ x ∈ b2 :: b4 :: vb rv, x ∉ vb lv ∧ ∀ e ∈ le, x ∉ vb e.pv
  x : Ext mE m
  ge : ∀ x ∈ b2 :: b4 :: vb rv, mE.next ≤ x ∧ x < m.next
theorem RpV.put {mE m3 m4 : Mem} {b2 b4 : Nat} {rv : Value} {f : Int} {cs : BitVec 32} {s : Cn} {r' : List Int} {t' : Int} {le : List PE} {lv lv4 : Value} {x : PE} {k : Nat} (hr : r'.length = 16)
    (rm : Own mE m3 1 16 (intsZ r') rv) (b2k : Bk m3 b2 [.int .i64 f, u32 cs, lv] 3) (b4k : Bk m3 b4 [.int .i64 0, u32 0#32, .slice none 0 0] 3) (pcs : ∀ e ∈ le, PcV m3 e.pl.pieces e.pv) (hq : le.map PE.pl = s.q) (off : ∀ x ∈ b2 :: b4 :: vb rv, ∀ e ∈ le, x ∉ vb e.pv) (X : Ext mE m3) (ge : ∀ x ∈ b2 :: b4 :: vb rv, mE.next ≤ x ∧ x < m3.next)
    (hx : PcV m3 x.pl.pieces x.pv) (hxo : ∀ y ∈ b2 :: b4 :: vb rv, y ∉ vb x.pv) (hcut : cutE (dropE le x.pl.unit) x.pl.unit k) (ho : Own m3 m4 4 ((dropE le x.pl.unit).length + 1) (((dropE le x.pl.unit).take k ++ x :: (dropE le x.pl.unit).drop k).flatMap peV) lv4) (h34 : Ext m3 m4) (h24 : b2 ≠ b4) (h2r : b2 ∉ vb rv) :
    RpV mE (m4.set b2 (some (.cells [.int .i64 f, u32 cs, lv4] (some 3)))) b2 b4 rv f cs ⟨r', t', putP s.q x.pl⟩ ((dropE le x.pl.unit).take k ++ x :: (dropE le x.pl.unit).drop k) lv4 := by
  have hU : Upd m4 (m4.set b2 (some (.cells [.int .i64 f, u32 cs, lv4] (some 3)))) [b2] := Upd.set (by simp)
  have hlen : ((dropE le x.pl.unit).take k ++ x :: (dropE le x.pl.unit).drop k).length = (dropE le x.pl.unit).length + 1 := by
    have := hcut.1
    simp; omega
  rw [← hlen] at ho
  have hg := ho.ge
  have hb2 : b2 < m3.next := b2k.lt
  have n34 := h34.next
  have mem : ∀ e ∈ (dropE le x.pl.unit).take k ++ x :: (dropE le x.pl.unit).drop k, e = x ∨ e ∈ le := fun e he => by
    rcases List.mem_append.1 he with he | he
    · exact .inr (List.mem_filter.1 (List.mem_of_mem_take he)).1
    · rcases List.mem_cons.1 he with rfl | he
      · exact .inl rfl
      · exact .inr (List.mem_filter.1 (List.mem_of_mem_drop he)).1
  have offn : ∀ y ∈ b2 :: b4 :: vb rv, y ∉ vb lv4 := fun y hy hm => by have := hg y hm; have := (ge y hy).2; omega
  refine ⟨(rm.keep h34).updq hU (fun y hy hm => by rw [List.mem_singleton] at hm; exact h2r (hm ▸ hy)), ⟨by simp [Mem.set], by show b2 < m4.next; omega⟩, (b4k.keep h34).upd hU (by simp; exact h24.symm), ?_, fun e he => ?_, ?_, fun y hy => ⟨offn y hy, fun e he => ?_⟩, (X.trans h34).set (ge b2 (by simp)).1, fun y hy => ⟨(ge y hy).1, by have := (ge y hy).2; show y < m4.next; omega⟩⟩
  · exact (ho.rowE).upd hU (fun y hy hm => by rw [List.mem_singleton] at hm; exact offn b2 (by simp) (hm ▸ hy))
  · rcases mem e he with rfl | he
    · exact (hx.keep h34).upd hU (fun y hy hm => by rw [List.mem_singleton] at hm; exact hxo b2 (by simp) (hm ▸ hy))
    · exact ((pcs e he).keep h34).upd hU (fun y hy hm => by rw [List.mem_singleton] at hm; exact off b2 (by simp) e he (hm ▸ hy))
  · rw [putE_map hcut, hq]
  · rcases mem e he with rfl | he
    · exact hxo y hy
    · exact off y hy e he
set_option maxHeartbeats 8000000 in
theorem ref4_loop {mE m0 : Mem} {l : List Wt} {lw : Value} {b2 b4 : Nat} {rv : Value} {f : Int} {cs : BitVec 32} {s0 : Cn} {le : List PE} {lv : Value} (hs : Sl m0 2 l.length (l.flatMap spV) lw) (hlt : SlLt m0 lw) (hx0 : Ext m0 mE) (h : RpV mE m b2 b4 rv f cs s0 le lv) (hf : 2 ≤ f ∧ f ≤ 64) (hok : CnOk f s0 100 (sumW l)) (hw : ∀ w ∈ l, 1 ≤ w.2 ∧ w.2 ≤ f) (hl : l.length ≤ 60)
    (h24 : b2 ≠ b4) (h2r : b2 ∉ vb rv) (h4r : b4 ∉ vb rv) :
    WL R [1, 2, 4, 5, 6, 7] RB.ref19_Split_4 [(1, lw), (2, pt b2), (4, pt b4), (5, rv), (6, .int .i64 s0.t), (7, .int .i64 0)] m fun y e m' => y = .exit 0 ∧ (∃ rs, e = (1, lw) :: (2, pt b2) :: (4, pt b4) :: rs) ∧ ∃ le lv, RpV mE m' b2 b4 rv f cs (chF f s0 l) le lv := by
  refine WL.of (fun z e m' => ∃ (i : Nat) (le : List PE) (lv : Value), i ≤ l.length ∧ z = l.length - i ∧ e = [(1, lw), (2, pt b2), (4, pt b4), (5, rv), (6, .int .i64 (chF f s0 (l.take i)).t), (7, .int .i64 (i : Nat))] ∧ RpV mE m' b2 b4 rv f cs (chF f s0 (l.take i)) le lv) l.length
    ⟨0, le, lv, by omega, by omega, by simp only [pt, go_sem] <;> rfl, h⟩ ?_
  rintro _ _ m1 ⟨i, le, lv, hi, rfl, rfl, hP⟩
  have hS := chF_ok hf hw hok hi
  have hs1 := hs.keep hlt (hx0.trans hP.x)
  simp only [RB.ref19_Split_4, pt, go_sem, hs1.len]
  have s1 := step1 (show i < 1000000 by omega)
  by_cases g : i < l.length
  rotate_left
  · have e1 : decide (((i : Nat) : Int) < ((l.length : Nat) : Int)) = false := decide_eq_false (by omega)
    rw [List.take_of_length_le (by omega)] at hP
    try simp only [go_sem, ruB, e1]
    exact ⟨⟨_, rfl⟩, le, lv, hP⟩
  have e1 : decide (((i : Nat) : Int) < ((l.length : Nat) : Int)) = true := decide_eq_true (by omega)
  have hwi := hw _ (List.getElem_mem g)
  have hdr : l.drop i = l[i] :: l.drop (i + 1) := List.drop_eq_getElem_cons g
  have hpos := @sumW_pos (l.drop (i + 1)) fun w hw' => (hw w (List.mem_of_mem_drop hw')).1
  have hsu := hS.sm
  rw [hdr, sumW_cons] at hsu
  have hch := chF_succ (f := f) (s := s0) g
  generalize hSe : chF f s0 (l.take i) = S at *
  have hc := sum_fz (r := S.r) (by omega)
  rw [hS.ok.l] at hc
  have hcn := hS.ok.n (fz S.r)
  try simp only [go_sem, ruB, e1]
  refine WL.mono (ref3_loop hP.rm hS.ok.l hc) ?_
  rintro _ _ _ ⟨rfl, ⟨rs, rfl⟩, hm⟩
  replace hm := hm.symm
  subst hm
  obtain ⟨wb, wo, a1, -, a3, a4⟩ := hs1.elem spV_len (k := .i64) g
  have a30 := a3 0 (by omega)
  have a31 := a3 1 (by omega)
  simp only [spV, List.getElem?_cons_zero, List.getElem?_cons_succ, Nat.add_zero] at a30 a31
  try simp only [go_sem, ruB, a1, a30, a31, ↓kfill_pl]
  have hge := hP.ge
  have hx2 : Ext m1 (((m1.bump 14).set (m1.next + 12) (some (.cells [.int .i64 0, .int .i64 0, .int .i64 0, .slice none 0 0] (some 4)))).set (m1.next + 12) (some (.cells [.int .i64 l[i].1, .int .i64 l[i].2, .int .i64 ((fz S.r : Nat) : Int), .slice none 0 0] (some 4)))) := (Ext.bump.set (by omega)).set (by omega)
  have hb2 : Bk (((m1.bump 14).set (m1.next + 12) (some (.cells [.int .i64 0, .int .i64 0, .int .i64 0, .slice none 0 0] (some 4)))).set (m1.next + 12) (some (.cells [.int .i64 l[i].1, .int .i64 l[i].2, .int .i64 ((fz S.r : Nat) : Int), .slice none 0 0] (some 4)))) (m1.next + 12) [.int .i64 l[i].1, .int .i64 l[i].2, .int .i64 ((fz S.r : Nat) : Int), .slice none 0 0] 4 := ⟨by simp [Mem.set], by show m1.next + 12 < m1.next + 14; omega⟩
  generalize ((m1.bump 14).set (m1.next + 12) (some (.cells [.int .i64 0, .int .i64 0, .int .i64 0, .slice none 0 0] (some 4)))).set (m1.next + 12) (some (.cells [.int .i64 l[i].1, .int .i64 l[i].2, .int .i64 ((fz S.r : Nat) : Int), .slice none 0 0] (some 4))) = m2 at hx2 hb2 ⊢
  have n2 := hx2.next
  have l2 := hb2.lt
  have rm2 := hP.rm.keep hx2
  have bk2 := hP.bk.keep hx2
  have b42 := hP.b4k.keep hx2
  have pcs2 : ∀ e ∈ le, PcV m2 e.pl.pieces e.pv := fun e he => (hP.pcs e he).keep hx2
  have row2 := hP.row.keep hx2
  have X2 := hP.x.trans hx2
  have hs2 := hs1.keep (hlt.keep (hx0.trans hP.x)) hx2
  obtain ⟨wb2, wo2, c1, -, c3, -⟩ := hs2.elem spV_len (k := .i64) g
  have c31 := c3 1 (by omega)
  simp only [spV, List.getElem?_cons_zero, List.getElem?_cons_succ] at c31
  have ge2 : ∀ x ∈ b2 :: b4 :: vb rv, mE.next ≤ x ∧ x < m1.next := hge
  have hrvl : ∀ x ∈ vb rv, x < m1.next := fun x hx => (hge x (List.mem_cons_of_mem _ (List.mem_cons_of_mem _ hx))).2
  have hrvE : ∀ x ∈ vb rv, mE.next ≤ x := fun x hx => (hge x (List.mem_cons_of_mem _ (List.mem_cons_of_mem _ hx))).1
  have hb2l := (hge b2 (by simp)).2
  have hb4l := (hge b4 (by simp)).2
  have offp : ∀ x ∈ b2 :: b4 :: vb rv, ∀ e ∈ le, x ∉ vb e.pv := fun x hx => (hP.off x hx).2
  have hrow := hS.row
  have lel : le.length = S.q.length := by rw [← hP.q, List.length_map]
  have lek := hrow.n
  obtain ⟨p, r1, r2⟩ := rowget rm2 hS.ok.l hc
  by_cases gw : l[i].2 ≤ S.r.getD (fz S.r) 0
  · have e3 : decide (l[i].2 ≤ S.r.getD (fz S.r) 0) = true := decide_eq_true gw
    have w1 : IntKind.wrap .i64 (S.r.getD (fz S.r) 0 - l[i].2) = S.r.getD (fz S.r) 0 - l[i].2 := wrap_i64 (by omega) (by omega)
    obtain ⟨sb2, m6, s1', s2, s3, s4, s5⟩ := rm2.putB (w := .int .i64 (S.r.getD (fz S.r) 0 - l[i].2)) (k := .i64) (i := fz S.r) (o := 0) hc (by omega) rfl rfl
    simp only [Nat.mul_one, Nat.add_zero] at s1' s2 s3
    rw [intsZ_setC] at s3
    have hpq := Option.some.inj (r1.symm.trans s1')
    subst hpq
    have bk6 := bk2.upd s4 h2r
    have b46 := b42.upd s4 h4r
    have b96 := hb2.upd s4 (fun hm => by have := hrvl _ hm; omega)
    have row6 := row2.upd s4 (fun x hx hm => (hP.off x (List.mem_cons_of_mem _ (List.mem_cons_of_mem _ hm))).1 hx)
    have pcs6 : ∀ e ∈ le, PcV m6 e.pl.pieces e.pv := fun e he => (pcs2 e he).upd s4 (fun x hx hm => offp x (List.mem_cons_of_mem _ (List.mem_cons_of_mem _ hm)) e he hx)
    have X6 : Ext mE m6 := s4.ext_of X2 hrvE
    have hlo := row6.sl.one
    have n6 := s4.next
    have hX : plcC f S.r S.t l[i] = (⟨l[i].1, l[i].2, (fz S.r : Nat), []⟩, S.r.set (fz S.r) (S.r.getD (fz S.r) 0 - l[i].2), S.t) := by unfold plcC; rw [if_pos gw]
    have h1' := hs2.elem spV_len (k := .i64) g
    try simp only [go_sem, ruB, r1, r2, c1, c31, e3, w1, s2, bk6.at_, b96.at_, hlo]
    refine gC.of (refPut_spec (l := le) (x := ⟨⟨l[i].1, l[i].2, (fz S.r : Nat), []⟩, .slice none 0 0, rfl⟩) (f := f) (c := cs) row6 (by omega)) ?_
    rintro _ m7 ⟨lv7, k7, rfl, hcut, ho7, hx7⟩
    have bk7 := bk6.keep hx7
    have lo7 := ho7.sl.one
    obtain ⟨ya, yn, yc, rfl⟩ := slice_of ho7
    try simp only [go_sem, ruB, bk7.at_, lo7, s1]
    have hR := RpV.put (s := S) (r' := S.r.set (fz S.r) (S.r.getD (fz S.r) 0 - l[i].2)) (t' := S.t) (x := ⟨⟨l[i].1, l[i].2, (fz S.r : Nat), []⟩, .slice none 0 0, rfl⟩) (by rw [List.length_set]; exact hS.ok.l) s3 bk6 b46 pcs6 hP.q offp X6 (fun x hx => ⟨(hge x hx).1, by have := (hge x hx).2; omega⟩) ⟨.nil rfl rfl, trivial⟩ (fun y hy => by simp [vb]) hcut ho7 hx7 h24 h2r
    have hch' := hch.trans (stpC_of hX)
    exact ⟨l.length - (i + 1), by omega, i + 1, _, .slice ya yn yc, by omega, rfl, by rw [hch'], by rw [hch']; exact hR⟩
  · have e3 : decide (l[i].2 ≤ S.r.getD (fz S.r) 0) = false := decide_eq_false gw
    have hX : plcC f S.r S.t l[i] = (⟨l[i].1, l[i].2, 0, (stN f l[i].2.toNat ⟨S.r, S.t, []⟩).ps⟩, (stN f l[i].2.toNat ⟨S.r, S.t, []⟩).r, (stN f l[i].2.toNat ⟨S.r, S.t, []⟩).t) := by unfold plcC; rw [if_neg gw]
    try simp only [go_sem, ruB, r1, r2, c1, c31, e3, hb2.at_]
    have hU3 : Upd m2 (m2.set (m1.next + 12) (some (.cells [.int .i64 l[i].1, .int .i64 l[i].2, .int .i64 0, .slice none 0 0] (some 4)))) [m1.next + 12] := Upd.set (by simp)
    have b93 : Bk (m2.set (m1.next + 12) (some (.cells [.int .i64 l[i].1, .int .i64 l[i].2, .int .i64 0, .slice none 0 0] (some 4)))) (m1.next + 12) [.int .i64 l[i].1, .int .i64 l[i].2, .int .i64 0, .slice none 0 0] 4 := ⟨by simp [Mem.set], l2⟩
    have rm3 := rm2.updq hU3 (fun x hx => by have := hrvl x hx; simp; omega)
    have bk3 := bk2.upd hU3 (by simp; omega)
    have ux3 : Upd m1 (m2.set (m1.next + 12) (some (.cells [.int .i64 l[i].1, .int .i64 l[i].2, .int .i64 0, .slice none 0 0] (some 4)))) (vb rv) := ⟨n2, fun x hx hn => by rw [hU3.same x (by omega) (by simp; omega), hx2.same x hx]⟩
    generalize m2.set (m1.next + 12) (some (.cells [.int .i64 l[i].1, .int .i64 l[i].2, .int .i64 0, .slice none 0 0] (some 4))) = m3 at hU3 b93 rm3 bk3 ux3 ⊢
    refine WL.mono (ref2_loop (mE := mE) (mI := m1) (b9 := m1.next + 12) (w := l[i]) hs hlt hx0 hP.x g rfl hl hrvE hrvl hb2l h2r (by omega) hf hS.ok hS.le hwi (by omega) ⟨rm3, bk3, b93, .nil rfl rfl, Nat.le_refl _, ux3, by simp [vb], fun i hi => fz_before hi, by omega⟩) ?_
    rintro _ _ m5 ⟨rfl, ⟨cc, kk, rs2, rfl⟩, pv, c, hQ⟩
    have bk5 := hQ.b2k
    have b95 := hQ.bc
    have pso := hQ.o
    obtain ⟨za, zn, zc, rfl⟩ := slice_of pso
    have pg := pso.ge
    have row5 := hP.row.upd hQ.x (fun x hx hm => (hP.off x (List.mem_cons_of_mem _ (List.mem_cons_of_mem _ hm))).1 hx)
    have lo5 := row5.sl.one
    have pcs5 : ∀ e ∈ le, PcV m5 e.pl.pieces e.pv := fun e he => (hP.pcs e he).upd hQ.x (fun x hx hm => offp x (List.mem_cons_of_mem _ (List.mem_cons_of_mem _ hm)) e he hx)
    have b45 := hP.b4k.upd hQ.x h4r
    have X5 : Ext mE m5 := hQ.x.ext_of hP.x hrvE
    have n5 := hQ.x.next
    simp only [pt]
    try simp only [go_sem, ruB, bk5.at_, b95.at_, lo5]
    refine gC.of (refPut_spec (l := le) (x := ⟨⟨l[i].1, l[i].2, 0, (stN f l[i].2.toNat ⟨S.r, S.t, []⟩).ps⟩, .slice za zn zc, rfl⟩) (f := f) (c := cs) row5 (by omega)) ?_
    rintro _ m7 ⟨lv7, k7, rfl, hcut, ho7, hx7⟩
    have bk7 := bk5.keep hx7
    have lo7 := ho7.sl.one
    obtain ⟨ya, yn, yc, rfl⟩ := slice_of ho7
    try simp only [go_sem, ruB, bk7.at_, lo7, s1]
    have hR := RpV.put (s := S) (r' := (stN f l[i].2.toNat ⟨S.r, S.t, []⟩).r) (t' := (stN f l[i].2.toNat ⟨S.r, S.t, []⟩).t) (x := ⟨⟨l[i].1, l[i].2, 0, (stN f l[i].2.toNat ⟨S.r, S.t, []⟩).ps⟩, .slice za zn zc, rfl⟩) (by rw [stN_len]; exact hS.ok.l) hQ.rm bk5 b45 pcs5 hP.q offp X5 (fun x hx => ⟨(hge x hx).1, by have := (hge x hx).2; omega⟩) ⟨pso.sl, pso.lt⟩ (fun y hy hm => by have := pg y hm; have := (hge y hy).2; omega) hcut ho7 hx7 h24 h2r
    have hch' := hch.trans (stpC_of hX)
    exact ⟨l.length - (i + 1), by omega, i + 1, _, .slice ya yn yc, by omega, rfl, by rw [hch'], by rw [hch']; exact hR⟩
end Go.Am


/- Chains: the document's Split, whole. -/
set_option linter.unusedVariables false
set_option linter.unusedSimpArgs false
namespace Go.Am
open Classical
variable {m : Mem}

set_option maxHeartbeats 4000000 in
theorem refSplit_spec {p : PlanD} {l : List Wt} {v lv : Value} (hv : PlanV m p v) (hs : Sl m 2 l.length (l.flatMap spV) lv) (hlt : SlLt m lv) (hl : l.length ≤ 60) (hL : lightP p = true) (hw : whyC p l = 0) :
    WC R F.ref19_Split [v, lv] m fun r m' => PlanV m' (splitR p l) r ∧ Ext m m' := by
  refine WC.of R.ref19_Split rfl ?_
  have hLL := light_l hL
  obtain ⟨hR, hk, -, -, -⟩ := why0 hw
  obtain ⟨pv, rfl, hp⟩ := hv
  have hpc := hp.cells
  simp only [RC.ref19_Split, planV, go_sem, hp.one]
  have hx1 : Ext m (m.new (.cells [.int .i64 p.frame, u32 p.cores, pv] (some 3))) := Ext.new
  have hb1 : Bk (m.new (.cells [.int .i64 p.frame, u32 p.cores, pv] (some 3))) m.next [.int .i64 p.frame, u32 p.cores, pv] 3 := Bk.new
  have hn1 : (m.new (.cells [.int .i64 p.frame, u32 p.cores, pv] (some 3))).next = m.next + 1 := rfl
  generalize m.new (.cells [.int .i64 p.frame, u32 p.cores, pv] (some 3)) = m1 at hx1 hb1 hn1 ⊢
  have hx2 : Ext m1 (m1.new (.cells [.int .i64 0, u32 0#32, .slice none 0 0] (some 3))) := Ext.new
  have hb2 : Bk (m1.new (.cells [.int .i64 0, u32 0#32, .slice none 0 0] (some 3))) m1.next [.int .i64 0, u32 0#32, .slice none 0 0] 3 := Bk.new
  have hn2 : (m1.new (.cells [.int .i64 0, u32 0#32, .slice none 0 0] (some 3))).next = m1.next + 1 := rfl
  generalize m1.new (.cells [.int .i64 0, u32 0#32, .slice none 0 0] (some 3)) = m2 at hx2 hb2 hn2 ⊢
  have hb12 := hb1.keep hx2
  have hx02 := hx1.trans hx2
  try simp only [go_sem, ruB, hb12.at_, hp.one]
  refine gC.of (refRooms_spec (p := p) ⟨pv, rfl, hp.keep hx02⟩ (hR.pr hLL)) ?_
  rintro rv m3 ⟨hO, hx3⟩
  rw [rL_len, hR.rm] at hO
  have hx03 := hx02.trans hx3
  have hb13 := hb12.keep hx3
  have hb23 := hb2.keep hx3
  have hge := hO.ge
  have hOl := SlLt.vb_iff.1 hO.lt
  have n1 := hx1.next
  have n2 := hx2.next
  have n3 := hx3.next
  have l1 := hb1.lt
  have l2 := hb2.lt
  obtain ⟨wa, wn, wc, rfl⟩ := slice_of hO
  obtain ⟨le, hle, hrow, hpcs⟩ := rowE_of hp
  have hpl := SlLt.vb_iff.1 hrow.lt
  have hcn := cn0 hL hw
  have inE : ∀ x ∈ m.next :: m1.next :: vb (.slice wa wn wc), m.next ≤ x ∧ x < m3.next := fun x hx => by
    rcases List.mem_cons.1 hx with rfl | hx
    · exact ⟨Nat.le_refl _, by omega⟩
    rcases List.mem_cons.1 hx with rfl | hx
    · exact ⟨n1, by omega⟩
    · exact ⟨by have := hge x hx; omega, hOl x hx⟩
  try simp only [go_sem, ruB, hb13.at_]
  refine WL.mono (ref4_loop (mE := m) (s0 := ⟨rmP p, 0, p.places⟩) (f := p.frame) (cs := p.cores) (le := le) (lv := pv) (b2 := m.next) (b4 := m1.next) (rv := .slice wa wn wc) hs hlt (Ext.refl m) ⟨hO.rebase (by omega), hb13, hb23, hrow.keep hx03, fun e he => (hpcs e he).keep hx03, hle, fun x hx => ⟨fun hm => ?_, fun e he hm => ?_⟩, hx03, inE⟩ ⟨hR.1, hR.2.1⟩ hcn (fun w hw => (hk.w w hw).2) hl (by omega) (fun hm => by have := hge _ hm; omega) (fun hm => by have := hge _ hm; omega)) ?_
  · have := hpl x hm; have := (inE x hx).1; omega
  · have := SlLt.vb_iff.1 (hpcs e he).2 x hm; have := (inE x hx).1; omega
  rintro _ _ m4 ⟨rfl, ⟨rs, rfl⟩, le4, lv4, hP⟩
  have bk4 := hP.bk
  have b44 := hP.b4k
  have lo4 := hP.row.sl.one
  obtain ⟨ya, yn, yc, rfl⟩ := hP.row.slice
  try simp only [go_sem, ruB, bk4.at_, b44.at_, lo4]
  have hU : Upd m4 (m4.set m1.next (some (.cells [.int .i64 p.frame, u32 p.cores, .slice ya yn yc] (some 3)))) [m1.next] := Upd.set (by simp)
  refine ⟨?_, hP.x.set n1⟩
  have o1 := hP.off m1.next (by simp)
  refine ⟨_, rfl, ?_⟩
  have hr4 : RowE (m4.set m1.next (some (.cells [.int .i64 p.frame, u32 p.cores, .slice ya yn yc] (some 3)))) le4 (.slice ya yn yc) := hP.row.upd hU (fun x hx hm => by rw [List.mem_singleton] at hm; exact o1.1 (hm ▸ hx))
  have := hr4.pls fun e he => (hP.pcs e he).upd hU (fun x hx hm => by rw [List.mem_singleton] at hm; exact o1.2 e he (hm ▸ hx))
  rw [hP.q] at this
  exact this
end Go.Am


/- ChainSplits. -/
set_option linter.unusedVariables false
set_option linter.unusedSimpArgs false
namespace Go.Am
open Classical
variable {m : Mem}

/-- The cut of the first 60. -/
theorem cut60 {l : List Wt} {v : Value} (hs : Sl m 2 l.length (l.flatMap spV) v) (hb : SlLt m v) (hc : Cut 2 m v) : ∃ v', aSub 2 m v none (some (.int .i64 (if (60 : Int) < (l.length : Int) then (60 : Int) else (l.length : Int)))) none = some v' ∧ Sl m 2 (l.take 60).length ((l.take 60).flatMap spV) v' ∧ SlLt m v' := by
  have e2 : (if (60 : Int) < (l.length : Int) then (60 : Int) else (l.length : Int)) = ((min l.length 60 : Nat) : Int) := by
    split <;> omega
  rw [e2]
  obtain ⟨v', a1, a2, a3, a4⟩ := hs.to hc (k := .i64) (i := min l.length 60) (by omega)
  have h : (l.take 60).length = min l.length 60 := by rw [List.length_take]; omega
  have h2 : (l.flatMap spV).take (min l.length 60 * 2) = (l.take 60).flatMap spV := by
    have e : l.flatMap spV = (l.take 60).flatMap spV ++ (l.drop 60).flatMap spV := by rw [← List.flatMap_append, List.take_append_drop]
    rw [e, List.take_left' (by rw [flat_len spV_len, h])]
  rw [h2] at a2
  exact ⟨v', a1, by rw [h]; exact a2, a3 hb⟩
def pl0 : PlanD := ⟨0, 0#32, []⟩
theorem pl0_l : PlanL pl0 := ⟨by decide, fun x hx => by cases hx⟩
theorem pl0_v : PlanV m pl0 (.agg #[.int .i64 0, u32 0#32, .slice none 0 0]) := ⟨.slice none 0 0, rfl, [], .nil rfl rfl, trivial, fun i hi => by cases hi⟩
theorem splitR_l {p : PlanD} {l : List Wt} (hL : lightP p = true) (hl : l.length ≤ 60) (hw : whyC p l = 0) : PlanL (splitR p l) := by
  obtain ⟨hR, hk, -, -, -⟩ := why0 hw
  have hS := chF_ok (i := l.length) ⟨hR.1, hR.2.1⟩ (fun w hw => (hk.w w hw).2) (cn0 hL hw) (Nat.le_refl _)
  rw [List.take_length] at hS
  exact hS.row.l (by omega)
set_option maxHeartbeats 8000000 in
theorem ChainSplits_spec {p : PlanD} {l : List Wt} {v lv : Value} (hv : PlanV m p v) (hs : Sl m 2 l.length (l.flatMap spV) lv) (hb : SlLt m lv) (hc : Cut 2 m lv) : WC R F.law19_ChainSplits [v, lv] m fun r m' => r = .bool true := by
  refine WC.of R.law19_ChainSplits rfl ?_
  obtain ⟨pv, rfl, hp⟩ := hv
  have l60 : (l.take 60).length ≤ 60 := by rw [List.length_take]; omega
  simp only [RC.law19_ChainSplits, planV, go_sem, hp.one]
  have hx1 : Ext m (m.new (.cells [.int .i64 p.frame, u32 p.cores, pv] (some 3))) := Ext.new
  have hb1 : Bk (m.new (.cells [.int .i64 p.frame, u32 p.cores, pv] (some 3))) m.next [.int .i64 p.frame, u32 p.cores, pv] 3 := Bk.new
  generalize m.new (.cells [.int .i64 p.frame, u32 p.cores, pv] (some 3)) = m1 at hx1 hb1 ⊢
  have hs1 := hs.keep hb hx1
  obtain ⟨v', a1, a2, a3⟩ := cut60 hs1 (hb.keep hx1) (hc.keep hb hx1)
  try simp only [go_sem, ruB, hs1.len, a1, hb1.at_, hp.one]
  generalize l.take 60 = l' at *
  refine gC.of (Light_spec (p := p) ⟨pv, rfl, hp.keep hx1⟩) ?_
  rintro _ m2 ⟨rfl, hx2⟩
  by_cases hL : lightP p = true
  rotate_left
  · have e : lightP p = false := by simpa using hL
    try simp only [go_sem, ruB, e]
    refine gC.of (ok_spec R.law19_awake) ?_
    rintro _ m_ ⟨rfl, hm_⟩
    replace hm_ := hm_.symm
    subst hm_
    simp only [go_sem]
    try simp only [go_sem, ruB]
  have hLL := light_l hL
  have hx02 := hx1.trans hx2
  have hb12 := hb1.keep hx2
  try simp only [go_sem, ruB, hL, hb12.at_, hp.one]
  refine gC.of (Rooms_spec (p := p) ⟨pv, rfl, hp.keep hx02⟩ hLL) ?_
  rintro rv m3 ⟨hx3, hrm⟩
  have hx03 := hx02.trans hx3
  have hb13 := hb12.keep hx3
  rcases hrm with ⟨hR, hO⟩ | ⟨hR, rfl⟩
  rotate_left
  · have d1 : decide (RightP p) = false := decide_eq_false hR
    have ln0 : aLen (.slice none 0 0) = some (.int .i64 0) := rfl
    try simp only [go_sem, ruB, hb13.at_, hp.one]
    refine gC.of (refRight_spec (p := p) ⟨pv, rfl, hp.keep hx03⟩ hLL.len hLL.pcs) ?_
    rintro _ m4 ⟨rfl, hx4⟩
    have hb14 := hb13.keep hx4
    have hx04 := hx03.trans hx4
    try simp only [go_sem, ruB, d1, hb14.at_, hp.one]
    refine gC.of (refRight_spec (p := p) ⟨pv, rfl, hp.keep hx04⟩ hLL.len hLL.pcs) ?_
    rintro _ m5 ⟨rfl, hx5⟩
    have hb15 := hb14.keep hx5
    have hx0a := hx04.trans hx5
    have hx15 := ((hx2.trans hx3).trans hx4).trans hx5
    have z0 : ((0 : Int) != 0) = false := rfl
    try simp only [go_sem, ruB, d1, ln0, z0, hb15.at_, hp.one]
    have a3' := a3.keep hx15
    have a2' := a2.keep a3 hx15
    try simp only [go_sem, ruB, hb15.at_, hp.one]
    refine gC.of (Split_spec (p := p) (l := l') ⟨pv, rfl, hp.keep hx0a⟩ a2' a3' l60 hL) ?_
    rintro _ m7 ⟨hx7, ⟨g, rfl⟩ | ⟨g, qv, rfl, hq⟩⟩
    · have e1 : (whyC p l' != 0) = true := by rw [bne_iff_ne]; exact g
      have hx07 := hx0a.trans hx7
      have b7 := hb15.keep hx7
      try simp only [go_sem, ruB, aExt0, aExt1]
      have hx8 : Ext m7 (m7.new (.cells [.int .i64 0, u32 0#32, .slice none 0 0] (some 3))) := Ext.new
      have hb8 : Bk (m7.new (.cells [.int .i64 0, u32 0#32, .slice none 0 0] (some 3))) m7.next [.int .i64 0, u32 0#32, .slice none 0 0] 3 := Bk.new
      generalize m7.new (.cells [.int .i64 0, u32 0#32, .slice none 0 0] (some 3)) = m8 at hx8 hb8 ⊢
      have hx08 := hx07.trans hx8
      have b8 := b7.keep hx8
      have ne8 : (m7.next = m.next) = False := eq_false (by have := b7.lt; omega)
      have ne8' : (m.next = m7.next) = False := eq_false (by have := b7.lt; omega)
      try simp only [go_sem, ruB, b7.at_, b8.at_, hb8.at_, hp.one, ne8, ne8']
      refine gC.of (refWhy_spec (p := p) (l := l') ⟨pv, rfl, hp.keep hx08⟩ ((a2'.keep a3' hx7).keep (a3'.keep hx7) hx8) ((a3'.keep hx7).keep hx8) l60 hLL) ?_
      rintro _ m9 ⟨rfl, hx9⟩
      have hb9 := hb8.keep hx9
      try simp only [go_sem, ruB, e1, hb9.at_]
      refine gC.of (refSame_spec (p := pl0) (q := pl0) pl0_v pl0_v pl0_l pl0_l) ?_
      rintro _ m10 ⟨rfl, hx10⟩
      try simp only [go_sem, ruB, decide_true]
      refine gC.of (ok_spec R.law19_awake) ?_
      rintro _ m_ ⟨rfl, hm_⟩
      replace hm_ := hm_.symm
      subst hm_
      simp only [go_sem]
      try simp only [go_sem, ruB]
    · exact absurd (why0 g).1 hR
  · have d1 : decide (RightP p) = true := decide_eq_true hR
    have hPR := hR.pr hLL
    try simp only [go_sem, ruB, hb13.at_, hp.one]
    refine gC.of (refRight_spec (p := p) ⟨pv, rfl, hp.keep hx03⟩ hLL.len hLL.pcs) ?_
    rintro _ m4 ⟨rfl, hx4⟩
    have hb14 := hb13.keep hx4
    have hx04 := hx03.trans hx4
    try simp only [go_sem, ruB, d1, hb14.at_, hp.one]
    refine gC.of (refRooms_spec (p := p) ⟨pv, rfl, hp.keep hx04⟩ hPR) ?_
    rintro wv m5 ⟨hO5, hx5⟩
    rw [rL_len, hR.rm] at hO5
    have hb15 := hb14.keep hx5
    have hx0a := hx04.trans hx5
    have hx15 := ((hx2.trans hx3).trans hx4).trans hx5
    have hO' := hO.keep (hx4.trans hx5)
    try simp only [go_sem, ruB]
    refine gC.of (ref03_Same_spec (l := rmP p) (k := rmP p) (by rw [rmP_len]; exact hO'.sl) (by rw [rmP_len]; exact hO5.sl) (by rw [rmP_len]; omega) (by rw [rmP_len]; omega)) ?_
    rintro _ m_ ⟨rfl, hm_⟩
    replace hm_ := hm_.symm
    subst hm_
    simp only [go_sem]
    have bq : (!decide (rmP p = rmP p)) = false := by simp
    try simp only [go_sem, ruB, bq, hb15.at_, hp.one]
    refine gC.of (refRight_spec (p := p) ⟨pv, rfl, hp.keep hx0a⟩ hLL.len hLL.pcs) ?_
    rintro _ m6 ⟨rfl, hx6⟩
    have hb16 := hb15.keep hx6
    replace hx0a := hx0a.trans hx6
    replace hx15 := hx15.trans hx6
    have hO6 := (hO.keep (hx4.trans (hx5.trans hx6)))
    have r16 := hO6.sl.len
    have z16 : (((16 : Nat) : Int) != 16) = false := rfl
    try simp only [go_sem, ruB, d1]
    have a3' := a3.keep hx15
    have a2' := a2.keep a3 hx15
    try simp only [go_sem, ruB, hb16.at_, hp.one]
    refine gC.of (Split_spec (p := p) (l := l') ⟨pv, rfl, hp.keep hx0a⟩ a2' a3' l60 hL) ?_
    rintro _ m7 ⟨hx7, ⟨g, rfl⟩ | ⟨g, qv, rfl, hq⟩⟩
    · have e1 : (whyC p l' != 0) = true := by rw [bne_iff_ne]; exact g
      have hx07 := hx0a.trans hx7
      have b7 := hb16.keep hx7
      try simp only [go_sem, ruB, aExt0, aExt1]
      have hx8 : Ext m7 (m7.new (.cells [.int .i64 0, u32 0#32, .slice none 0 0] (some 3))) := Ext.new
      have hb8 : Bk (m7.new (.cells [.int .i64 0, u32 0#32, .slice none 0 0] (some 3))) m7.next [.int .i64 0, u32 0#32, .slice none 0 0] 3 := Bk.new
      generalize m7.new (.cells [.int .i64 0, u32 0#32, .slice none 0 0] (some 3)) = m8 at hx8 hb8 ⊢
      have hx08 := hx07.trans hx8
      have b8 := b7.keep hx8
      have ne8 : (m7.next = m.next) = False := eq_false (by have := b7.lt; omega)
      have ne8' : (m.next = m7.next) = False := eq_false (by have := b7.lt; omega)
      try simp only [go_sem, ruB, b7.at_, b8.at_, hb8.at_, hp.one, ne8, ne8']
      refine gC.of (refWhy_spec (p := p) (l := l') ⟨pv, rfl, hp.keep hx08⟩ ((a2'.keep a3' hx7).keep (a3'.keep hx7) hx8) ((a3'.keep hx7).keep hx8) l60 hLL) ?_
      rintro _ m9 ⟨rfl, hx9⟩
      have hb9 := hb8.keep hx9
      try simp only [go_sem, ruB, e1, hb9.at_]
      refine gC.of (refSame_spec (p := pl0) (q := pl0) pl0_v pl0_v pl0_l pl0_l) ?_
      rintro _ m10 ⟨rfl, hx10⟩
      try simp only [go_sem, ruB, decide_true]
      refine gC.of (ok_spec R.law19_awake) ?_
      rintro _ m_ ⟨rfl, hm_⟩
      replace hm_ := hm_.symm
      subst hm_
      simp only [go_sem]
      try simp only [go_sem, ruB]
    · have e1 : (whyC p l' != 0) = false := by rw [bne_eq_false_iff_eq]; exact g
      have hx07 := hx0a.trans hx7
      have b7 := hb16.keep hx7
      obtain ⟨qp, rfl, hqp⟩ := hq
      simp only [planV]
      try simp only [go_sem, ruB, aExt0, aExt1]
      have hx8 : Ext m7 (m7.new (.cells [.int .i64 (splitR p l').frame, u32 (splitR p l').cores, qp] (some 3))) := Ext.new
      have hb8 : Bk (m7.new (.cells [.int .i64 (splitR p l').frame, u32 (splitR p l').cores, qp] (some 3))) m7.next [.int .i64 (splitR p l').frame, u32 (splitR p l').cores, qp] 3 := Bk.new
      generalize m7.new (.cells [.int .i64 (splitR p l').frame, u32 (splitR p l').cores, qp] (some 3)) = m8 at hx8 hb8 ⊢
      have hx08 := hx07.trans hx8
      have b8 := b7.keep hx8
      have ne8 : (m7.next = m.next) = False := eq_false (by have := b7.lt; omega)
      have ne8' : (m.next = m7.next) = False := eq_false (by have := b7.lt; omega)
      try simp only [go_sem, ruB, b7.at_, b8.at_, hb8.at_, hp.one, hqp.one, ne8, ne8']
      refine gC.of (refWhy_spec (p := p) (l := l') ⟨pv, rfl, hp.keep hx08⟩ ((a2'.keep a3' hx7).keep (a3'.keep hx7) hx8) ((a3'.keep hx7).keep hx8) l60 hLL) ?_
      rintro _ m9 ⟨rfl, hx9⟩
      have hb9 := hb8.keep hx9
      have b9 := b8.keep hx9
      have hx09 := hx08.trans hx9
      have g0 : (whyC p l' == 0) = true := by rw [beq_iff_eq]; exact g
      have hq9 := hqp.keep (hx8.trans hx9)
      try simp only [go_sem, ruB, e1, g0, hb9.at_, b9.at_, hp.one, hqp.one]
      refine gC.of (refSplit_spec (p := p) (l := l') ⟨pv, rfl, hp.keep hx09⟩ (((a2'.keep a3' hx7).keep (a3'.keep hx7) hx8).keep ((a3'.keep hx7).keep hx8) hx9) (((a3'.keep hx7).keep hx8).keep hx9) l60 hL g) ?_
      rintro wv m10 ⟨hw10, hx10⟩
      obtain ⟨zp, rfl, hz⟩ := hw10
      simp only [planV]
      try simp only [go_sem, ruB]
      refine ⟨hx10.same _ hb9.lt, gC.of (refSame_spec (p := splitR p l') (q := splitR p l') ⟨qp, rfl, hq9.keep hx10⟩ ⟨zp, rfl, hz⟩ (splitR_l hL l60 g) (splitR_l hL l60 g)) ?_⟩
      rintro _ m11 ⟨rfl, hx11⟩
      try simp only [go_sem, ruB, decide_true]
      refine gC.of (ok_spec R.law19_awake) ?_
      rintro _ m_ ⟨rfl, hm_⟩
      replace hm_ := hm_.symm
      subst hm_
      simp only [go_sem]
      try simp only [go_sem, ruB]
end Go.Am


/- What is read of the arguments. -/
namespace Go.Am
theorem sp_read {m : Mem} {v : Value} (h : Rd m (.sl [.int .i64, .int .i64]) v) : ∃ l : List Wt, Sl m 2 l.length (l.flatMap spV) v ∧ SlLt m v ∧ Cut 2 m v := by
  obtain ⟨l, h1, h2, -⟩ := Rd.slice (f := spV) (fun cs hc => by
    obtain ⟨c, r, rfl, h1, h2⟩ := hc.one
    obtain ⟨d, r2, rfl, h3, h4⟩ := h2.one
    cases h4.none
    obtain ⟨a, rfl, -⟩ := h1.i64
    obtain ⟨b, rfl, -⟩ := h3.i64
    exact ⟨(a, b), rfl⟩) h
  exact ⟨l, h1, h2, h.free.cut⟩
end Go.Am


/- ChainSplits, of arguments as they are read. -/
set_option linter.unusedVariables false
namespace Go.Am
theorem law19_ChainSplits_walk (m : Mem) (us : List Value) (h : RdAs m [(true, planSh), (false, [.sl [.int .i64, .int .i64]])] us) : WC R F.law19_ChainSplits us m fun v _ => v = .bool true := by
  obtain ⟨_, _, rfl, h1, h⟩ := h.one; obtain ⟨_, _, rfl, h2, h⟩ := h.one; cases h.none
  obtain ⟨p, hp, -⟩ := plan_read h1
  obtain ⟨l, hl, hb, hc⟩ := sp_read h2.rd
  exact ChainSplits_spec hp hl hb hc
end Go.Am
