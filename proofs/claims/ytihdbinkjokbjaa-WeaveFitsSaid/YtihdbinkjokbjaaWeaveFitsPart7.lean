/- Parts of the proofs of the statements of this seat: WeaveW9, WeaveWA, SpansD, WeaveOrderD, WeaveOrderW, AmMap, WeaveOrderW2, WeavePlanY1, WeavePlanY2, WeavePlanL3, WeaveWB, WeaveWC, WeaveWD, WeaveWE, WeaveWF, WeaveWG, WeaveP4, WeaveP5, WeaveX2, WeaveP6, WeaveP7, WeavePlanZ1, WeavePlanZ2, WeavePlanZ3, WeavePlanZ4, WeavePlanZ5, WeaveP8, WeaveX3, WWeavePlaces, WWeaveFits. No conditions. -/
import Derived.Test.YtihdbinkjokbjaaWeaveFitsPart6
import Derived.Test.YtihdbinkjokbjaaWeaveFitsPart4
import Derived.Test.YtihdbinkjokbjaaWeaveFitsPart5
set_option linter.unusedVariables false
set_option linter.unusedSimpArgs false

/- Weave: Place's ticks, walked. -/
set_option linter.unusedVariables false
set_option linter.unusedSimpArgs false
namespace Go.Am
open Classical
variable {m : Mem}

theorem rgC_coreG {p : PlanD} {gv : Nat → BitVec 64} {j : Nat} {x : BitVec 64} (hj : j < (csP p 16).length) : (rgC (csP p 16).length (fup (fun k => u64 (gv (csF p k))) j (u64 x))) = rgC (csP p 16).length fun k => u64 (fup gv (csF p j) x (csF p k)) := by
  unfold rgC
  refine List.map_congr_left fun k hk => ?_
  rw [List.mem_range] at hk
  by_cases e : k = j
  · subst e; rw [fup_at, fup_at]
  · rw [fup_ne e, fup_ne fun q => e (csF_inj hk hj q)]
theorem okG_none {p : PlanD} {rm : Nat → Int} {t : Nat} {lack : Int} (hz : ∀ c, ¬ hasC p (c : Nat) = true → rm c = 0) (h : ∀ c, c < 16 → ¬ okG (gapH p) rm t lack c) : ∀ c, ¬ okG (gapH p) rm t lack c := fun c q => by
  by_cases hc : c < 16
  · exact h c hc q
  · refine q.1 (hz c fun hh => ?_)
    have := (hasC_range hh).2; omega
set_option maxHeartbeats 8000000 in
theorem ticks_loop {mE : Mem} {p : PlanD} {bl : Nat} {csV gV rV gvV a b : Value} {s : PlS} (h : LgV mE m p bl csV gV rV s.rm) (f2 : 2 ≤ p.frame) (f64 : p.frame ≤ 64) (hl : s.lack ≤ 64)
    (hO : Own mE m 1 (csP p 16).length (rgC (csP p 16).length fun j => u64 (s.gv (csF p j))) gvV) (hd : ∀ x ∈ vb gvV, x ≠ bl ∧ x ∉ vb gV ∧ x ∉ vb rV) :
    WL R [3, 4, 7, 8, 9, 10] RB.weave_Place_2 [(3, a), (4, b), (7, pt bl), (8, gvV), (9, .int .i64 s.lack), (10, .int .i64 0)] m fun y e m' => y = .exit 0 ∧ (∃ rs, e = (3, a) :: (4, b) :: (7, pt bl) :: (8, gvV) :: rs) ∧ Upd m m' (vb rV ++ vb gvV) ∧ LgV mE m' p bl csV gV rV (plRun (gapH p) s p.frame.toNat).rm ∧ Own mE m' 1 (csP p 16).length (rgC (csP p 16).length fun j => u64 ((plRun (gapH p) s p.frame.toNat).gv (csF p j))) gvV := by
  have hcl := csP_len (p := p) (n := 16)
  refine WL.of (fun z e m' => ∃ t : Nat, t ≤ p.frame.toNat ∧ z = p.frame.toNat - t ∧ e = [(3, a), (4, b), (7, pt bl), (8, gvV), (9, .int .i64 (plRun (gapH p) s t).lack), (10, .int .i64 (t : Nat))] ∧ Upd m m' (vb rV ++ vb gvV) ∧ LgV mE m' p bl csV gV rV (plRun (gapH p) s t).rm ∧ Own mE m' 1 (csP p 16).length (rgC (csP p 16).length fun j => u64 ((plRun (gapH p) s t).gv (csF p j))) gvV ∧ (plRun (gapH p) s t).lack ≤ 64) p.frame.toNat
    ⟨0, by omega, by omega, by simp only [pt, go_sem] <;> rfl, Upd.refl _ _, h, hO, hl⟩ ?_
  rintro _ _ m1 ⟨t, ht, rfl, rfl, hU1, h1, hO1, hl1⟩
  have hstep : plRun (gapH p) s (t + 1) = plStep (gapH p) t (plRun (gapH p) s t) := rfl
  have hdone := fun q => @plRun_done (gapH p) s t q p.frame.toNat ht
  have hend : t = p.frame.toNat → plRun (gapH p) s p.frame.toNat = plRun (gapH p) s t := fun e => by rw [e]
  have hrun : plRun (gapH p) s p.frame.toNat = plRun (gapH p) s p.frame.toNat := rfl
  generalize plRun (gapH p) s p.frame.toNat = E at *
  generalize plRun (gapH p) s t = S at *
  have lo1 := h1.lo.at_
  simp only [intV] at lo1
  simp only [RB.weave_Place_2, pt, go_sem, ruB, lo1]
  have s1 := step1 (show t < 1000000 by omega)
  by_cases g : t < p.frame.toNat
  rotate_left
  · have e1 : decide (((t : Nat) : Int) < ((p.frame.toNat : Nat) : Int)) = false := decide_eq_false (by omega)
    have := hend (by omega)
    subst this
    try simp only [go_sem, ruB, e1]
    exact ⟨⟨_, rfl⟩, hU1, h1, hO1⟩
  have e1 : decide (((t : Nat) : Int) < ((p.frame.toNat : Nat) : Int)) = true := decide_eq_true (by omega)
  by_cases g2 : 0 < S.lack
  rotate_left
  · have e2 : decide (0 < S.lack) = false := decide_eq_false g2
    have := hdone g2
    subst this
    try simp only [go_sem, ruB, e1, e2]
    exact ⟨⟨_, rfl⟩, hU1, h1, hO1⟩
  have e2 : decide (0 < S.lack) = true := decide_eq_true g2
  try simp only [go_sem, ruB, e1, e2]
  refine gC.of (give_spec h1 f2 f64 g ⟨by omega, hl1⟩) ?_
  rintro v m2 ⟨hU2, ⟨rfl, hno, h2⟩ | ⟨j, hj, rfl, hok, hbef, h2⟩⟩
  · have e3 : decide ((0 : Int) ≤ -1) = false := by decide
    have hs' := plStep_none (okG_none h1.ok.2 hno)
    rw [hs'] at hstep
    try simp only [go_sem, ruB, e3, s1]
    have hO2 := hO1.updq hU2 fun x hx => (hd x hx).2.2
    exact ⟨p.frame.toNat - (t + 1), by omega, t + 1, by omega, rfl, by rw [hstep], hU1.trans hU2 (fun x hx => hx) (fun x hx => .inl (List.mem_append_left _ hx)), by rw [hstep]; exact h2, by rw [hstep]; exact hO2, by rw [hstep]; exact hl1⟩
  · have e3 : decide ((0 : Int) ≤ ((j : Nat) : Int)) = true := decide_eq_true (by omega)
    have hs' := plStep_some g2 hok hbef
    rw [hs'] at hstep
    have hO2 := hO1.updq hU2 fun x hx => (hd x hx).2.2
    obtain ⟨q, a1, a2⟩ := hO2.sl.get (k := .i64) hj
    rw [rgC_get hj] at a2
    obtain ⟨b', m3, c1, c2, c3, c4, c5⟩ := hO2.putB (w := u64 (withB (S.gv (csF p j)) (t : Nat))) (k := .i64) (i := j) (o := 0) hj (by omega) rfl rfl
    simp only [Nat.mul_one, Nat.add_zero] at c1 c2 c3
    rw [a1] at c1
    cases c1
    rw [rgC_set, rgC_coreG hj] at c3
    have ors := @or_shl (S.gv (csF p j)) t (by omega)
    have i0 : (0 : Int) ≤ ((t : Nat) : Int) := by omega
    have w1 : IntKind.wrap .i64 (S.lack - 1) = S.lack - 1 := wrap_i64 (by omega) (by omega)
    have h3 := h2.upd c4 (fun hm => (hd bl hm).1 rfl) (fun x hx hm => (hd x hm).2.1 hx) (fun x hx hm => (hd x hm).2.2 hx)
    try simp only [go_sem, ruB, e3, a1, a2, i0, Int.toNat_natCast, ors, c2, w1, s1]
    exact ⟨p.frame.toNat - (t + 1), by omega, t + 1, by omega, rfl, by rw [hstep], (hU1.trans hU2 (fun x hx => hx) (fun x hx => .inl (List.mem_append_left _ hx))).trans c4 (fun x hx => hx) (fun x hx => .inl (List.mem_append_right _ hx)), by rw [hstep]; exact h3, by rw [hstep]; exact c3, by rw [hstep]; show S.lack - 1 ≤ 64; omega⟩
end Go.Am


/- Weave: Place's pieces, walked. -/
set_option linter.unusedVariables false
set_option linter.unusedSimpArgs false
namespace Go.Am
open Classical
variable {m : Mem}

theorem Own.appWp {mE m2 : Mem} {i M q1 q2 : Nat} {cs : List Value} {v : Value} {a : Int} {x : BitVec 64} (h : Own mE m2 2 i cs v) (hi : i < 1000) (hlt : ∀ b ∈ vb v, b < M) (hM : mE.next ≤ M) (h1 : M ≤ q1) (h2 : q1 < q2) (h3 : q2 < m2.next) :
    ∃ v' m4, aApp (some q2) 2 16 (m2.set q1 (some (.cells [.int .i64 a, u64 x] (some 2)))) v (.slice (some ⟨q1, 0, none⟩) 1 1) = some (v', m4) ∧ Own mE m4 2 (i + 1) (cs ++ [.int .i64 a, u64 x]) v' ∧ m2.next ≤ m4.next ∧ (∀ b, b < M → b ∉ vb v → m4.blk b = m2.blk b) ∧ (∀ b ∈ vb v', b ∈ vb v ∨ M ≤ b) := by
  have hU : Upd m2 (m2.set q1 (some (.cells [.int .i64 a, u64 x] (some 2)))) [q1] := Upd.set (by simp)
  have s4 : Sl (m2.set q1 (some (.cells [.int .i64 a, u64 x] (some 2)))) 2 1 [.int .i64 a, u64 x] (.slice (some ⟨q1, 0, none⟩) 1 1) := by
    refine .at (Nat.le_refl _) ?_
    unfold aCells
    simp [Mem.set]
  have o4 := h.updq hU (fun b hb => by have := hlt b hb; simp; omega)
  obtain ⟨v', m4, r1, r2, r3, r4, r5⟩ := o4.appB (n := i) (q := q2) (M := M) (by_ := 16) s4 rfl (by omega) (by omega) (by omega) hM (by simpa [Mem.set] using h3) (SlOff.vb_iff.2 fun b hb => by have := hlt b hb; simp; omega)
  exact ⟨v', m4, r1, r2, r3, fun b hb hn => by rw [r4 b hb hn, hU.same b (by omega) (by simp; omega)], r5⟩
theorem wfill_p {a : Int} {x : BitVec 64} : fillL [.int .i64 0, u64 0#64] [(0, 1, .int .i64 a), (1, 1, u64 x)] = some [.int .i64 a, u64 x] := rfl
theorem wfill_pp {a : Int} {x : BitVec 64} : fillL [.int .i64 0, u64 0#64] [(0, 2, .agg #[.int .i64 a, u64 x])] = some [.int .i64 a, u64 x] := rfl
theorem pcL_len {gv : Nat → BitVec 64} {l : List Nat} : (pcL gv l).length ≤ l.length := by
  unfold pcL; rw [List.length_map]; exact List.length_filter_le _ _
/-- A place that grows. -/
structure PbV (m0 m : Mem) (bt : Nat) (w : Wt) (ps : List Pc) (pv : Value) : Prop where
  bk : Bk m bt [.int .i64 w.1, .int .i64 w.2, .int .i64 0, pv] 4
  b0 : m0.next ≤ bt
  o : Own m0 m 2 ps.length (ps.flatMap pcV) pv
  d : bt ∉ vb pv
  x : Ext m0 m
theorem PbV.app {m0 m1 : Mem} {bt q1 q2 : Nat} {w : Wt} {ps : List Pc} {pv : Value} {m2 : Mem} {a : Int} {x : BitVec 64} (h : PbV m0 m1 bt w ps pv) (hl : ps.length ≤ 100) (hx : Ext m1 m2) (h1 : m1.next ≤ q1) (h2 : q1 < q2) (h3 : q2 < m2.next) :
    ∃ pv' m4, aApp (some q2) 2 16 (m2.set q1 (some (.cells [.int .i64 a, u64 x] (some 2)))) pv (.slice (some ⟨q1, 0, none⟩) 1 1) = some (pv', m4) ∧ Bk m4 bt [.int .i64 w.1, .int .i64 w.2, .int .i64 0, pv] 4 ∧ (∃ a n c, pv' = .slice a n c) ∧ PbV m0 (m4.set bt (some (.cells [.int .i64 w.1, .int .i64 w.2, .int .i64 0, pv'] (some 4)))) bt w (ps ++ [(a, x)]) pv' := by
  have lP := SlLt.vb_iff.1 h.o.lt
  have gP := h.o.ge
  have n1 := h.x.next
  have n2 := hx.next
  have lb := h.bk.lt
  obtain ⟨v', m4, r1, r2, r3, r4, r5⟩ := (h.o.keep hx).appWp (a := a) (x := x) (by omega) lP n1 h1 h2 h3
  have hU : Upd m4 (m4.set bt (some (.cells [.int .i64 w.1, .int .i64 w.2, .int .i64 0, v'] (some 4)))) [bt] := Upd.set (by simp)
  have nv : bt ∉ vb v' := fun hm => (r5 bt hm).elim h.d fun q => by omega
  refine ⟨v', m4, r1, ⟨by rw [r4 bt lb h.d, hx.same bt lb]; exact h.bk.at_, by omega⟩, slice_own r2, ⟨by simp [Mem.set], by show bt < m4.next; omega⟩, h.b0, ?_, nv, Ext.set ⟨by omega, fun b hb => ?_⟩ h.b0⟩
  · rw [List.length_append, List.length_singleton, List.flatMap_append]
    refine r2.updq hU fun y hy hm => ?_
    rw [List.mem_singleton] at hm; exact nv (hm ▸ hy)
  · rw [r4 b (by omega) (fun q => by have := gP b q; omega), (h.x.trans hx).same b hb]
set_option maxHeartbeats 8000000 in
theorem pieces_loop {m0 : Mem} {p : PlanD} {bt : Nat} {csV gvV b : Value} {gv : Nat → BitVec 64} {w : Wt} (hc : Sl m0 1 (csP p 16).length (ints (csP p 16)) csV) (hcl : SlLt m0 csV) (hg : Sl m0 1 (csP p 16).length (rgC (csP p 16).length fun j => u64 (gv (csF p j))) gvV) (hgl : SlLt m0 gvV) (h : PbV m0 m bt w [] (.slice none 0 0)) :
    WL R [4, 8, 12, 76, 77, 78] RB.weave_Place_1 [(4, b), (8, gvV), (12, pt bt), (76, csV), (77, .int .i64 ((csP p 16).length : Nat)), (78, .int .i64 0)] m fun y e m' => y = .exit 2 ∧ (∃ c rs, e = (4, b) :: (8, c) :: (12, pt bt) :: rs) ∧ ∃ pv, PbV m0 m' bt w (pcL gv (csP p 16)) pv := by
  have h16 := csP_len (p := p) (n := 16)
  refine WL.of (fun z e m' => ∃ (j : Nat) (pv : Value), j ≤ (csP p 16).length ∧ z = (csP p 16).length - j ∧ e = [(4, b), (8, gvV), (12, pt bt), (76, csV), (77, .int .i64 ((csP p 16).length : Nat)), (78, .int .i64 (j : Nat))] ∧ PbV m0 m' bt w (pcL gv ((csP p 16).take j)) pv) (csP p 16).length
    ⟨0, _, by omega, by omega, by simp only [pt, go_sem] <;> rfl, h⟩ ?_
  rintro _ _ m1 ⟨j, pv, hj, rfl, rfl, hP⟩
  simp only [RB.weave_Place_1, pt, go_sem]
  have s1 := step1 (show j < 1000000 by omega)
  by_cases g : j < (csP p 16).length
  rotate_left
  · have e1 : decide (((j : Nat) : Int) < (((csP p 16).length : Nat) : Int)) = false := decide_eq_false (by omega)
    rw [List.take_of_length_le (by omega)] at hP
    try simp only [go_sem, ruB, e1]
    exact ⟨⟨_, _, rfl⟩, pv, hP⟩
  have e1 : decide (((j : Nat) : Int) < (((csP p 16).length : Nat) : Int)) = true := decide_eq_true (by omega)
  obtain ⟨q, c1, c2⟩ := (hc.keep hcl hP.x).get (k := .i64) g
  have c2' : aLoad false 1 m1 q = some (.int .i64 (csF p j : Nat)) := by
    rw [c2, csF_get g]; unfold ints; rw [List.getElem?_map, List.getElem?_eq_getElem g]; rfl
  obtain ⟨q2, g1, g2⟩ := (hg.keep hgl hP.x).get (k := .i64) g
  rw [rgC_get g] at g2
  have htk : (csP p 16).take (j + 1) = (csP p 16).take j ++ [csF p j] := by rw [csF_get g]; exact List.take_succ_eq_append_getElem g
  have hpn : (pcL gv ((csP p 16).take j)).length ≤ 100 := by
    have := @pcL_len gv ((csP p 16).take j)
    rw [List.length_take] at this; omega
  have bk := hP.bk.at_
  by_cases e : gv (csF p j) = 0#64
  · have e2 : (decide ¬gv (csF p j) = 0#64) = false := by simp [e]
    try simp only [go_sem, ruB, e1, c1, c2', g1, g2, e2, s1]
    refine ⟨(csP p 16).length - (j + 1), by omega, j + 1, pv, by omega, rfl, rfl, ?_⟩
    rw [htk, pcL_snoc, if_pos e, List.append_nil]; exact hP
  · have e2 : (decide ¬gv (csF p j) = 0#64) = true := by simp [e]
    try simp only [go_sem, ruB, e1, c1, c2', g1, g2, e2, s1, bk, ↓wfill_p, ↓wfill_pp]
    obtain ⟨pv', m4, q1, q2', ⟨xa, xn, xc, rfl⟩, hP4⟩ := hP.app (m2 := m1.bump 12) (q1 := m1.next + 8) (q2 := m1.next + 9) (a := (csF p j : Nat)) (x := gv (csF p j)) hpn Ext.bump (by omega) (by omega) (by simp only [Mem.bump_next]; omega)
    try simp only [go_sem, ruB, q1, q2'.at_, s1]
    refine ⟨(csP p 16).length - (j + 1), by omega, j + 1, .slice xa xn xc, by omega, rfl, rfl, ?_⟩
    rw [htk, pcL_snoc, if_neg e]; exact hP4
end Go.Am


/- Rows of spans, with no program in sight: what is in one; that a right row is told by what is in it; how many numbers there are. -/
set_option linter.unusedVariables false
set_option linter.unusedSimpArgs false
namespace Go.Am

abbrev Sp := Int × Int
instance : Inhabited Sp := ⟨(0, 0)⟩
def spV (s : Sp) : List Value := [.int .i64 s.1, .int .i64 s.2]
theorem spV_len (s : Sp) : (spV s).length = 2 := rfl
def InS (l : List Sp) (x : Int) : Prop := ∃ s ∈ l, s.1 ≤ x ∧ x < s.2
def hasS (l : List Sp) (x : Int) : Bool := l.any fun s => decide (s.1 ≤ x) && decide (x < s.2)
theorem hasS_iff {l : List Sp} {x : Int} : hasS l x = true ↔ InS l x := by
  simp only [hasS, InS, List.any_eq_true, Bool.and_eq_true, decide_eq_true_eq]
theorem InS.nil {x : Int} : ¬ InS [] x := by rintro ⟨s, h, _⟩; simp at h
theorem InS.cons {s : Sp} {l : List Sp} {x : Int} : InS (s :: l) x ↔ (s.1 ≤ x ∧ x < s.2) ∨ InS l x := by
  unfold InS; simp
theorem InS.append {a b : List Sp} {x : Int} : InS (a ++ b) x ↔ InS a x ∨ InS b x := by
  unfold InS
  constructor
  · rintro ⟨s, h, h1⟩
    rcases List.mem_append.1 h with h | h
    · exact .inl ⟨s, h, h1⟩
    · exact .inr ⟨s, h, h1⟩
  · rintro (⟨s, h, h1⟩ | ⟨s, h, h1⟩)
    · exact ⟨s, List.mem_append.2 (.inl h), h1⟩
    · exact ⟨s, List.mem_append.2 (.inr h), h1⟩
theorem InS.single {s : Sp} {x : Int} : InS [s] x ↔ s.1 ≤ x ∧ x < s.2 := by
  unfold InS; simp
theorem InS.snoc {a : List Sp} {s : Sp} {x : Int} : InS (a ++ [s]) x ↔ InS a x ∨ (s.1 ≤ x ∧ x < s.2) := by
  rw [InS.append, InS.single]

/-- A row that is right: none is empty, and there is a number between any two. -/
def Rt (l : List Sp) : Prop := (∀ s ∈ l, s.1 < s.2) ∧ l.Pairwise fun s t => s.2 < t.1
theorem Rt.nil : Rt [] := ⟨by simp, .nil⟩
theorem Rt.cons {s : Sp} {l : List Sp} : Rt (s :: l) ↔ s.1 < s.2 ∧ (∀ t ∈ l, s.2 < t.1) ∧ Rt l := by
  unfold Rt
  rw [List.pairwise_cons]
  constructor
  · rintro ⟨h1, h2, h3⟩
    exact ⟨h1 s (by simp), h2, fun t ht => h1 t (by simp [ht]), h3⟩
  · rintro ⟨h1, h2, h3, h4⟩
    refine ⟨fun t ht => ?_, h2, h4⟩
    rcases List.mem_cons.1 ht with rfl | h
    · exact h1
    · exact h3 t h
theorem Rt.snoc {s : Sp} {l : List Sp} : Rt (l ++ [s]) ↔ Rt l ∧ s.1 < s.2 ∧ ∀ t ∈ l, t.2 < s.1 := by
  unfold Rt
  rw [List.pairwise_append]
  constructor
  · rintro ⟨h1, h2, -, h3⟩
    exact ⟨⟨fun t ht => h1 t (by simp [ht]), h2⟩, h1 s (by simp), fun t ht => h3 t ht s (by simp)⟩
  · rintro ⟨⟨h1, h2⟩, h3, h4⟩
    refine ⟨fun t ht => ?_, h2, List.pairwise_singleton _ _, fun t ht u hu => ?_⟩
    · rcases List.mem_append.1 ht with h | h
      · exact h1 t h
      · rw [List.mem_singleton.1 h]; exact h3
    · rw [List.mem_singleton.1 hu]; exact h4 t ht

/-- A right row is told by what is in it. -/
theorem Rt.eq : ∀ {a b : List Sp}, Rt a → Rt b → (∀ x, InS a x ↔ InS b x) → a = b
  | [], [], _, _, _ => rfl
  | [], t :: b, _, hb, h => by
    have := (h t.1).2 (InS.cons.2 (.inl ⟨Int.le_refl _, (Rt.cons.1 hb).1⟩))
    exact absurd this InS.nil
  | s :: a, [], ha, _, h => by
    have := (h s.1).1 (InS.cons.2 (.inl ⟨Int.le_refl _, (Rt.cons.1 ha).1⟩))
    exact absurd this InS.nil
  | s :: a, t :: b, ha, hb, h => by
    obtain ⟨a1, a2, a3⟩ := Rt.cons.1 ha
    obtain ⟨b1, b2, b3⟩ := Rt.cons.1 hb
    have ga : ∀ x, InS a x → s.2 < x := by rintro x ⟨u, hu, h1, _⟩; have := a2 u hu; omega
    have gb : ∀ x, InS b x → t.2 < x := by rintro x ⟨u, hu, h1, _⟩; have := b2 u hu; omega
    have k : ∀ x, ((s.1 ≤ x ∧ x < s.2) ∨ InS a x) ↔ ((t.1 ≤ x ∧ x < t.2) ∨ InS b x) := fun x => by rw [← InS.cons, ← InS.cons]; exact h x
    have e1 : s.1 = t.1 := by
      have h1 : t.1 ≤ s.1 := by
        rcases (k s.1).1 (.inl ⟨Int.le_refl _, a1⟩) with h | h
        · exact h.1
        · have := gb _ h; omega
      have h2 : s.1 ≤ t.1 := by
        rcases (k t.1).2 (.inl ⟨Int.le_refl _, b1⟩) with h | h
        · exact h.1
        · have := ga _ h; omega
      omega
    have e2 : s.2 = t.2 := by
      have h1 : ¬ s.2 < t.2 := fun hlt => by
        rcases (k s.2).2 (.inl ⟨by omega, hlt⟩) with h | h
        · omega
        · have := ga _ h; omega
      have h2 : ¬ t.2 < s.2 := fun hlt => by
        rcases (k t.2).1 (.inl ⟨by omega, hlt⟩) with h | h
        · omega
        · have := gb _ h; omega
      omega
    have e : s = t := Prod.ext e1 e2
    subst e
    congr 1
    refine Rt.eq a3 b3 fun x => ?_
    have kx := k x
    constructor
    · intro hx
      have := ga x hx
      rcases kx.1 (.inr hx) with h | h
      · omega
      · exact h
    · intro hx
      have := gb x hx
      rcases kx.2 (.inr hx) with h | h
      · omega
      · exact h

theorem Rt.none {a : List Sp} (h : Rt a) (hn : ∀ x, ¬ InS a x) : a = [] :=
  Rt.eq h Rt.nil fun x => ⟨fun hx => absurd hx (hn x), fun hx => absurd hx InS.nil⟩

/-! ### Steps -/
theorem Rt.put {r : List Sp} {s : Sp} (h : Rt r) (h1 : s.1 < s.2) (h2 : ∀ t ∈ r, t.2 < s.1) : Rt (r ++ [s]) := Rt.snoc.2 ⟨h, h1, h2⟩
/-- The last one goes on. -/
theorem Rt.more {r : List Sp} {t : Sp} {e : Int} (h : Rt (r ++ [t])) (h1 : t.2 ≤ e) : Rt (r ++ [(t.1, e)]) := by
  obtain ⟨h2, h3, h4⟩ := Rt.snoc.1 h
  exact Rt.snoc.2 ⟨h2, by show t.1 < e; omega, h4⟩
theorem Rt.last {r : List Sp} {t : Sp} (h : Rt (r ++ [t])) {u : Sp} (hu : u ∈ r ++ [t]) : u.2 ≤ t.2 := by
  obtain ⟨h2, h3, h4⟩ := Rt.snoc.1 h
  rcases List.mem_append.1 hu with h | h
  · have := h4 u h; omega
  · rw [List.mem_singleton.1 h]; omega

/-! ### How many -/
def sumS (l : List Sp) : Int := (l.map fun s => s.2 - s.1).foldr (· + ·) 0
theorem sumS_cons {s : Sp} {l : List Sp} : sumS (s :: l) = (s.2 - s.1) + sumS l := rfl

def cnt (p : Int → Bool) (lo : Int) (n : Nat) : Int := ((List.range n).countP fun (i : Nat) => p (lo + i))
theorem cnt_succ {p : Int → Bool} {lo : Int} {n : Nat} : cnt p lo (n + 1) = cnt p lo n + (if p (lo + n) then 1 else 0) := by
  unfold cnt
  rw [List.range_succ, List.countP_append]
  simp only [List.countP_cons, List.countP_nil]
  split <;> simp
theorem cnt_or {p q : Int → Bool} {lo : Int} (h : ∀ x, ¬ (p x = true ∧ q x = true)) : ∀ {n : Nat}, cnt (fun x => p x || q x) lo n = cnt p lo n + cnt q lo n
  | 0 => rfl
  | n + 1 => by
    rw [cnt_succ, cnt_succ, cnt_succ, cnt_or h]
    have := h (lo + n)
    cases hp : p (lo + n) <;> cases hq : q (lo + n) <;> simp [hp, hq] at this ⊢ <;> omega
theorem cnt_congr {p q : Int → Bool} {lo : Int} {n : Nat} (h : ∀ x, p x = q x) : cnt p lo n = cnt q lo n := by
  have : p = q := funext h
  rw [this]
theorem cnt_none {lo : Int} : ∀ {n : Nat}, cnt (fun _ => false) lo n = 0
  | 0 => rfl
  | n + 1 => by rw [cnt_succ, cnt_none]; rfl
theorem cnt_span {a b lo : Int} (h1 : lo ≤ a) (h2 : a ≤ b) : ∀ {n : Nat}, b ≤ lo + n → cnt (fun x => decide (a ≤ x) && decide (x < b)) lo n = b - a := by
  have key : ∀ n : Nat, cnt (fun x => decide (a ≤ x) && decide (x < b)) lo n = (if lo + n ≤ a then 0 else if lo + n ≤ b then lo + n - a else b - a) := by
    intro n
    induction n with
    | zero =>
      show (0 : Int) = _
      rw [if_pos (by omega)]
    | succ n ih =>
      rw [cnt_succ, ih]
      by_cases c1 : a ≤ lo + n
      · by_cases c2 : lo + n < b
        · simp only [c1, c2, decide_true, Bool.and_self, if_true]
          rw [if_neg (show ¬ lo + ((n + 1 : Nat) : Int) ≤ a by omega), if_pos (show lo + ((n + 1 : Nat) : Int) ≤ b by omega)]
          by_cases c3 : lo + (n : Int) ≤ a
          · rw [if_pos c3]; omega
          · rw [if_neg c3, if_pos (by omega)]; omega
        · simp only [c1, c2, decide_true, decide_false, Bool.and_false, Bool.false_eq_true, if_false]
          rw [if_neg (show ¬ lo + ((n + 1 : Nat) : Int) ≤ a by omega), if_neg (show ¬ lo + ((n + 1 : Nat) : Int) ≤ b by omega)]
          by_cases c3 : lo + (n : Int) ≤ a
          · rw [if_pos c3]; omega
          · rw [if_neg c3]
            by_cases c4 : lo + (n : Int) ≤ b
            · rw [if_pos c4]; omega
            · rw [if_neg c4]; omega
      · simp only [c1, decide_false, Bool.false_and, Bool.false_eq_true, if_false]
        rw [if_pos (show lo + (n : Int) ≤ a by omega), if_pos (show lo + ((n + 1 : Nat) : Int) ≤ a by omega)]
        omega
  intro n h
  rw [key]
  by_cases c : lo + (n : Int) ≤ a
  · rw [if_pos c]; omega
  · rw [if_neg c]
    by_cases c2 : lo + (n : Int) ≤ b
    · rw [if_pos c2]; omega
    · rw [if_neg c2]

theorem Rt.cnt {lo : Int} {n : Nat} : ∀ {l : List Sp}, Rt l → (∀ s ∈ l, lo ≤ s.1 ∧ s.2 ≤ lo + n) → cnt (hasS l) lo n = sumS l
  | [], _, _ => by
    rw [show sumS [] = 0 from rfl, ← cnt_none (lo := lo) (n := n)]
    exact cnt_congr fun x => rfl
  | s :: l, h, hb => by
    obtain ⟨h1, h2, h3⟩ := Rt.cons.1 h
    have hs := hb s (by simp)
    rw [sumS_cons, ← Rt.cnt h3 (fun t ht => hb t (by simp [ht])), ← cnt_span hs.1 (by omega) hs.2, ← cnt_or]
    · exact cnt_congr fun x => by unfold hasS; rw [List.any_cons]
    · rintro x ⟨h4, h5⟩
      simp only [Bool.and_eq_true, decide_eq_true_eq] at h4
      obtain ⟨t, ht, h6, h7⟩ := hasS_iff.1 h5
      have := h2 t ht
      omega

theorem bounds : ∀ (l : List Sp), ∃ lo : Int, ∃ n : Nat, ∀ s ∈ l, lo ≤ s.1 ∧ s.2 ≤ lo + n
  | [] => ⟨0, 0, by simp⟩
  | s :: l => by
    obtain ⟨lo, n, h⟩ := bounds l
    refine ⟨min lo s.1, (max (lo + n) s.2 - min lo s.1).toNat, fun t ht => ?_⟩
    rcases List.mem_cons.1 ht with rfl | ht
    · omega
    · have := h t ht; omega

/-- Two rows with nothing in common: as many as both. -/
theorem Rt.sum {a b c : List Sp} (ha : Rt a) (hb : Rt b) (hc : Rt c) (h : ∀ x, InS c x ↔ InS a x ∨ InS b x) (hd : ∀ x, ¬ (InS a x ∧ InS b x)) : sumS a + sumS b = sumS c := by
  obtain ⟨lo, n, hx⟩ := bounds (a ++ (b ++ c))
  rw [← ha.cnt (lo := lo) (n := n) (fun s hs => hx s (by simp [hs])), ← hb.cnt (lo := lo) (n := n) (fun s hs => hx s (by simp [hs])), ← hc.cnt (lo := lo) (n := n) (fun s hs => hx s (by simp [hs])), ← cnt_or]
  · refine (cnt_congr fun x => ?_).symm
    rw [Bool.eq_iff_iff, Bool.or_eq_true, hasS_iff, hasS_iff, hasS_iff]; exact h x
  · rintro x ⟨h1, h2⟩
    exact hd x ⟨hasS_iff.1 h1, hasS_iff.1 h2⟩

end Go.Am


/- OrderD over the table of weave (relayset.py). -/
set_option linter.unusedVariables false
set_option linter.unusedSimpArgs false
namespace Go.Am
/-- What is wrong with the first one that is not right. -/
noncomputable def chkF (f : Int) (pre : List Sp) : List Sp → Int
  | [] => 0
  | w :: r => open Classical in if ¬ isU w.1 then 20 else if w.2 < 1 ∨ f < w.2 then 21 else if ∃ p ∈ pre, p.1 = w.1 then 11 else chkF f (pre ++ [w]) r
end Go.Am


/- OrderW over the table of weave (relayset.py). -/
set_option linter.unusedVariables false
set_option linter.unusedSimpArgs false
namespace Go.Am
variable {m : Mem}

end Go.Am


/- Maps whose keys are whole numbers. -/
set_option linter.unusedVariables false
namespace Go.Am
variable {α : Type}

def mpL (e : α → Value) (L : List (Int × α)) : List (Value × Value) := L.map fun p => (.int .i64 p.1, e p.2)
def lkp : List (Int × α) → Int → Option α
  | [], _ => none
  | (k, a) :: r, x => if k = x then some a else lkp r x
def updL : List (Int × α) → Int → α → List (Int × α)
  | [], x, a => [(x, a)]
  | (k, b) :: r, x, a => if k = x then (x, a) :: r else (k, b) :: updL r x a
def delL : List (Int × α) → Int → List (Int × α)
  | [], _ => []
  | (k, b) :: r, x => if k = x then r else (k, b) :: delL r x

theorem lkp_upd {L : List (Int × α)} {x y : Int} {a : α} : lkp (updL L x a) y = if y = x then some a else lkp L y := by
  induction L with
  | nil => simp only [updL, lkp]; by_cases h : x = y <;> simp [h]; intro e; exact absurd e.symm h
  | cons p r ih =>
    obtain ⟨k, b⟩ := p
    simp only [updL]
    by_cases h : k = x
    · subst h
      simp only [if_true, lkp]
      by_cases g : k = y
      · subst g; simp
      · rw [if_neg g, if_neg (fun e => g e.symm), if_neg g]
    · simp only [h, if_false, lkp]
      by_cases g : k = y
      · subst g; rw [if_pos rfl, if_neg h, if_pos rfl]
      · rw [if_neg g, ih, if_neg g]

theorem findK_mp {e : α → Value} {x : Int} : ∀ (L : List (Int × α)) (i : Nat), (lkp L x = none → findK .int (.int .i64 x) (mpL e L) i = some none ∧ ∀ a, mpL e L ++ [(.int .i64 x, e a)] = mpL e (updL L x a)) ∧
    ∀ a, lkp L x = some a → ∃ j, findK .int (.int .i64 x) (mpL e L) i = some (some (i + j, e a)) ∧ (∀ b, (mpL e L).set j (.int .i64 x, e b) = mpL e (updL L x b)) ∧ (mpL e L).eraseIdx j = mpL e (delL L x)
  | [], i => ⟨fun _ => ⟨rfl, fun a => rfl⟩, fun a h => by simp [lkp] at h⟩
  | (k, b) :: r, i => by
    by_cases h : k = x
    · subst h
      refine ⟨fun h => by simp [lkp] at h, fun a ha => ?_⟩
      simp only [lkp, if_true, Option.some.injEq] at ha
      subst ha
      refine ⟨0, ?_, fun b => ?_, ?_⟩
      · simp [mpL, findK, keyEq]
      · simp [mpL, updL]
      · simp [mpL, delL]
    · have hk : keyEq .int (.int .i64 x) (.int .i64 k) = some false := by simp [keyEq]; exact fun e => h e.symm
      have hf : findK .int (.int .i64 x) (mpL e ((k, b) :: r)) i = findK .int (.int .i64 x) (mpL e r) (i + 1) := by
        show (match keyEq .int (.int .i64 x) (.int .i64 k) with | some true => _ | some false => _ | none => _) = _
        rw [hk]; rfl
      obtain ⟨h1, h2⟩ := findK_mp (e := e) r (i + 1)
      refine ⟨fun hn => ?_, fun a ha => ?_⟩
      · simp only [lkp, h, if_false] at hn
        obtain ⟨g1, g2⟩ := h1 hn
        refine ⟨by rw [hf, g1], fun a => ?_⟩
        simp only [updL, h, if_false]
        show (.int .i64 k, e b) :: (mpL e r ++ _) = _
        rw [g2]; rfl
      · simp only [lkp, h, if_false] at ha
        obtain ⟨j, g1, g2, g3⟩ := h2 a ha
        refine ⟨j + 1, by rw [hf, g1]; congr 3; omega, fun c => ?_, ?_⟩
        · simp only [updL, h, if_false]
          show (.int .i64 k, e b) :: ((mpL e r).set j _) = _
          rw [g2]; rfl
        · simp only [delL, h, if_false]
          show (.int .i64 k, e b) :: ((mpL e r).eraseIdx j) = _
          rw [g3]; rfl

/-- A map that is there. -/
structure Mp (m : Mem) (r : Nat) (e : α → Value) (L : List (Int × α)) : Prop where
  at_ : m.blk r = some (.map (mpL e L))
  lt : r < m.next
theorem Mp.new {m : Mem} {e : α → Value} : Mp (m.new (.map [])) m.next e [] := ⟨by simp [Mem.new, mpL], by simp [Mem.new]⟩
theorem Mp.keep {m m' : Mem} {r : Nat} {e : α → Value} {L : List (Int × α)} (h : Mp m r e L) (hx : Ext m m') : Mp m' r e L := ⟨by rw [hx.same _ h.lt]; exact h.at_, Nat.lt_of_lt_of_le h.lt hx.next⟩
theorem Mp.upd {m m' : Mem} {r : Nat} {e : α → Value} {L : List (Int × α)} {fp : List Nat} (h : Mp m r e L) (hx : Upd m m' fp) (hn : r ∉ fp) : Mp m' r e L := ⟨by rw [hx.same _ h.lt hn]; exact h.at_, Nat.lt_of_lt_of_le h.lt hx.next⟩
theorem Mp.other {m : Mem} {r b : Nat} {e : α → Value} {L : List (Int × α)} {o : Option AObj} (h : Mp m r e L) (hn : r ≠ b) : Mp (m.set b o) r e L := ⟨by simp [Mem.set, hn]; exact h.at_, h.lt⟩
theorem Mp.self {m : Mem} {r : Nat} {e : α → Value} {L L' : List (Int × α)} (h : Mp m r e L) : Mp (m.set r (some (.map (mpL e L')))) r e L' := ⟨by simp [Mem.set], h.lt⟩

theorem Mp.look {m : Mem} {r : Nat} {e : α → Value} {L : List (Int × α)} (h : Mp m r e L) {x : Int} {z : α} : aLook .int (e z) false m (.map (some r)) (.int .i64 x) = some (e ((lkp L x).getD z)) := by
  simp only [aLook, h.at_, Option.bind_some]
  obtain ⟨h1, h2⟩ := findK_mp (e := e) (x := x) L 0
  cases hl : lkp L x with
  | none => rw [(h1 hl).1]; rfl
  | some a =>
    obtain ⟨j, g, -⟩ := h2 a hl
    rw [g]; rfl
theorem Mp.look_ok {m : Mem} {r : Nat} {e : α → Value} {L : List (Int × α)} (h : Mp m r e L) {x : Int} {z : α} : aLook .int (e z) true m (.map (some r)) (.int .i64 x) = some (.tuple #[e ((lkp L x).getD z), .bool (lkp L x).isSome]) := by
  simp only [aLook, h.at_, Option.bind_some]
  obtain ⟨h1, h2⟩ := findK_mp (e := e) (x := x) L 0
  cases hl : lkp L x with
  | none => rw [(h1 hl).1]; rfl
  | some a =>
    obtain ⟨j, g, -⟩ := h2 a hl
    rw [g]; rfl
theorem Mp.put {m : Mem} {r : Nat} {e : α → Value} {L : List (Int × α)} (h : Mp m r e L) {x : Int} {a : α} : aUpd .int m (.map (some r)) (.int .i64 x) (e a) = some (m.set r (some (.map (mpL e (updL L x a))))) := by
  simp only [aUpd, h.at_]
  obtain ⟨h1, h2⟩ := findK_mp (e := e) (x := x) L 0
  cases hl : lkp L x with
  | none => rw [(h1 hl).1]; simp only [Option.map_some]; rw [(h1 hl).2]
  | some b =>
    obtain ⟨j, g, g2, -⟩ := h2 b hl
    rw [g]; simp only [Option.map_some, Nat.zero_add]; rw [g2]
theorem Mp.del {m : Mem} {r : Nat} {e : α → Value} {L : List (Int × α)} (h : Mp m r e L) {x : Int} : ∃ L', L' = (if (lkp L x).isSome then delL L x else L) ∧ ∃ m', aDel .int m (.map (some r)) (.int .i64 x) = some m' ∧ Mp m' r e L' ∧ Upd m m' [r] := by
  refine ⟨_, rfl, ?_⟩
  simp only [aDel, h.at_]
  obtain ⟨h1, h2⟩ := findK_mp (e := e) (x := x) L 0
  cases hl : lkp L x with
  | none => rw [(h1 hl).1]; exact ⟨m, rfl, h, Upd.refl _ _⟩
  | some b =>
    obtain ⟨j, g, -, g3⟩ := h2 b hl
    rw [g]; simp only [Option.map_some, Nat.zero_add]
    rw [g3]
    exact ⟨_, rfl, h.self, Upd.set (by simp)⟩

end Go.Am


/- OrderW2 over the table of weave (relayset.py). -/
set_option linter.unusedVariables false
set_option linter.unusedSimpArgs false
namespace Go.Am
open Classical
variable {m : Mem}

theorem chkF_drop {f : Int} {l : List Sp} {i : Nat} (hi : i < l.length) : chkF f (l.take i) (l.drop i) = if ¬ isU l[i].1 then 20 else if l[i].2 < 1 ∨ f < l[i].2 then 21 else if ∃ p ∈ l.take i, p.1 = l[i].1 then 11 else chkF f (l.take (i + 1)) (l.drop (i + 1)) := by
  rw [List.drop_eq_getElem_cons hi, List.take_succ_eq_append_getElem hi]
  rfl

noncomputable def chkA (f : Int) (l : List Sp) : Int := if f < 2 ∨ 64 < f then 1 else chkF f [] l

theorem st0 {M : Mem} : aStore 0 (M.new (.cells [] (some 0))) (.pointer (some ⟨M.next, 0, none⟩)) (.agg #[]) = some (M.new (.cells [] (some 0))) := by
  have e : (#[] : Array Value) = [].toArray := rfl
  rw [e]
  simp only [go_sem, ruB]
def vU (_ : Unit) : Value := .agg #[]

set_option maxHeartbeats 2000000 in
theorem orCheck {l : List Sp} {v : Value} {f : Int} (hs : Sl m 2 l.length (l.flatMap spV) v) (hb : SlLt m v) (hl : l.length < 100000) :
    WC R F.order_Check [.int .i64 f, v] m fun r m' => r = .int .i64 (chkA f l) ∧ Ext m m' := by
  refine WC.of R.order_Check rfl ?_
  simp only [RC.order_Check, go_sem]
  by_cases h1 : f < 2
  · have e1 : decide (f < 2) = true := decide_eq_true h1
    simp only [go_sem, e1]
    rw [chkA, if_pos (.inl h1)]
    exact ⟨rfl, Ext.refl _⟩
  · have e1 : decide (f < 2) = false := decide_eq_false h1
    simp only [go_sem, e1]
    by_cases h2 : 64 < f
    · have e2 : decide (64 < f) = true := decide_eq_true h2
      simp only [go_sem, e2]
      rw [chkA, if_pos (.inr h2)]
      exact ⟨rfl, Ext.refl _⟩
    · have e2 : decide (64 < f) = false := decide_eq_false h2
      have hA : chkA f l = chkF f [] l := by rw [chkA, if_neg (by omega)]
      simp only [go_sem, e2, hs.len]
      rw [hA]
      have hx1 : Ext m (m.new (.map [])) := Ext.new
      have hM1 : Mp (m.new (.map [])) m.next vU [] := Mp.new
      have hn1 : (m.new (.map [])).next = m.next + 1 := rfl
      generalize m.new (.map []) = m1 at hx1 hM1 hn1 ⊢
      refine WL.of (fun n e m' => ∃ (i : Nat) (L : List (Int × Unit)), i ≤ l.length ∧ n = l.length - i ∧ e = [(0, .int .i64 f), (5, .map (some m.next)), (20, v), (21, .int .i64 l.length), (22, .int .i64 i)] ∧ chkF f [] l = chkF f (l.take i) (l.drop i) ∧
          Mp m' m.next vU L ∧ (∀ u, (lkp L u).isSome = decide (∃ p ∈ l.take i, p.1 = u)) ∧ Ext m m') l.length
        ⟨0, [], by omega, by omega, by simp only [go_sem] <;> rfl, rfl, hM1, fun u => by simp [lkp], hx1⟩ ?_
      rintro _ _ m2 ⟨i, L, hi, rfl, rfl, hc, hM, hL, hx⟩
      simp only [RB.order_Check_1, go_sem]
      refine gT.of (fun g1' => ?_) (fun g1' => ?_) <;> (have g1 := g1'; try simp only [decide_eq_true_eq, decide_eq_false_iff_not, beq_iff_eq, bne_iff_ne, beq_eq_false_iff_ne, ne_eq, Bool.not_eq_true', Bool.not_eq_false', bne_eq_false_iff_eq, Int.not_lt, Int.not_le] at g1)
      · have hil : i < l.length := by omega
        have s1 := step1 (show i < 1000000 by omega)
        obtain ⟨p, o, a1, a2, -, -⟩ := (hs.keep hb hx).elem spV_len (k := .i64) hil
        rw [chkF_drop hil] at hc
        have htk : l.take (i + 1) = l.take i ++ [l[i]] := List.take_succ_eq_append_getElem hil
        simp only [go_sem, g1', a1, a2]
        generalize l[i] = w at hc htk ⊢
        have hst : aStore 2 (m2.new (.cells [(.int .i64 0), (.int .i64 0)] (some 2))) (.pointer (some ⟨m2.next, 0, none⟩)) (.agg (spV w).toArray) = some (m2.new (.cells [.int .i64 w.1, .int .i64 w.2] (some 2))) := by
          simp only [spV]
          simp only [go_sem, ruB]
        simp only [go_sem, hst]
        have hxx : Ext m2 (m2.new (.cells [.int .i64 w.1, .int .i64 w.2] (some 2))) := Ext.new
        have hbx : Bk (m2.new (.cells [.int .i64 w.1, .int .i64 w.2] (some 2))) m2.next [.int .i64 w.1, .int .i64 w.2] 2 := Bk.new
        have hqm : m2.next ≠ m.next := by have := hM.lt; omega
        have hM3 := hM.keep hxx
        generalize m2.new (.cells [.int .i64 w.1, .int .i64 w.2] (some 2)) = m3 at hbx hxx hM3 ⊢
        have c1 : aLoad false 1 m3 (.pointer (some ⟨m2.next, 0, none⟩)) = some (.int .i64 w.1) := by simp only [go_sem, ruB, hbx.at_]
        have c2 : aLoad false 1 m3 (.pointer (some ⟨m2.next, 1, none⟩)) = some (.int .i64 w.2) := by simp only [go_sem, ruB, hbx.at_]
        have hx3 := hx.trans hxx
        simp only [go_sem, c1]
        refine gC.of Kind_spec ?_
        rintro _ _ ⟨⟨hu, rfl⟩ | ⟨hu, rfl⟩, hm⟩ <;> subst hm
        · rw [if_neg (by simpa using hu)] at hc
          simp only [go_sem, aExt0, aExt1, aExt2, c2]
          by_cases h3 : w.2 < 1
          · have e3 : decide (w.2 < 1) = true := decide_eq_true h3
            rw [if_pos (.inl h3)] at hc
            simp only [go_sem, e3]
            rw [hc]; exact ⟨rfl, hx3⟩
          · have e3 : decide (w.2 < 1) = false := decide_eq_false h3
            simp only [go_sem, e3, c2]
            by_cases h4 : f < w.2
            · have e4 : decide (f < w.2) = true := decide_eq_true h4
              rw [if_pos (.inr h4)] at hc
              simp only [go_sem, e4]
              rw [hc]; exact ⟨rfl, hx3⟩
            · have e4 : decide (f < w.2) = false := decide_eq_false h4
              rw [if_neg (by omega)] at hc
              have lk := hM3.look_ok (x := w.1) (z := ())
              simp only [vU] at lk
              simp only [go_sem, e4, c1, lk, aExt0, aExt1, st0]
              have hx4 := hx3.trans (Ext.new (m := _) (o := .cells [] (some 0)))
              have hM4 := hM3.keep (Ext.new (m := _) (o := .cells [] (some 0)))
              have hb4 := hbx.keep (Ext.new (m := _) (o := .cells [] (some 0)))
              generalize Mem.new _ (.cells [] (some 0)) = m4 at hx4 hM4 hb4 ⊢
              have hLu := hL w.1
              cases hlk : lkp L w.1 with
              | some _ =>
                rw [hlk] at hLu
                have hyes : ∃ p ∈ l.take i, p.1 = w.1 := of_decide_eq_true hLu.symm
                rw [if_pos hyes] at hc
                simp only [go_sem, Option.isSome_some]
                rw [hc]; exact ⟨rfl, hx4⟩
              | none =>
                rw [hlk] at hLu
                have hno : ¬ ∃ p ∈ l.take i, p.1 = w.1 := of_decide_eq_false hLu.symm
                rw [if_neg hno] at hc
                have c1' : aLoad false 1 m4 (.pointer (some ⟨m2.next, 0, none⟩)) = some (.int .i64 w.1) := by simp only [go_sem, ruB, hb4.at_]
                have pt := hM4.put (x := w.1) (a := ())
                simp only [vU] at pt
                simp only [go_sem, Option.isSome_none, c1', pt, s1]
                refine ⟨l.length - (i + 1), by omega, i + 1, updL L w.1 (), by omega, rfl, rfl, hc, hM4.self, fun u => ?_, hx4.set (Nat.le_refl _)⟩
                rw [lkp_upd, htk]
                by_cases e : u = w.1
                · subst e
                  simp
                · rw [if_neg e, hL]
                  rw [decide_eq_decide]
                  constructor
                  · rintro ⟨p, hp, h⟩; exact ⟨p, by simp [hp], h⟩
                  · rintro ⟨p, hp, h⟩
                    rcases List.mem_append.1 hp with h' | h'
                    · exact ⟨p, h', h⟩
                    · rw [List.mem_singleton.1 h'] at h; exact absurd h.symm e
        · rw [if_pos hu] at hc
          simp only [go_sem, aExt0, aExt1, aExt2]
          rw [hc]; exact ⟨rfl, hx3⟩
      · have : i = l.length := by omega
        subst this
        rw [List.drop_length] at hc
        simp only [go_sem, g1']
        rw [hc]; exact ⟨rfl, hx⟩
end Go.Am


/- PlanY1 over the table of weave (relayset.py). -/
set_option linter.unusedVariables false
set_option linter.unusedSimpArgs false
namespace Go.Am
open Classical
variable {m : Mem}

def cmpI (a b : Int) : Int := if a < b then -1 else if b < a then 1 else 0

theorem isNaN_spec {a : Int} : WC R F.cmp_isNaN_int [.int .i64 a] m fun r m' => r = .bool false ∧ m' = m := by
  refine WC.of R.cmp_isNaN_int rfl ?_
  simp only [RC.cmp_isNaN_int, go_sem]

theorem Compare_spec {a b : Int} : WC R F.cmp_Compare_int [.int .i64 a, .int .i64 b] m fun r m' => r = .int .i64 (cmpI a b) ∧ m' = m := by
  refine WC.of R.cmp_Compare_int rfl ?_
  simp only [RC.cmp_Compare_int, go_sem]
  refine gC.of isNaN_spec ?_
  rintro _ m_ ⟨rfl, hm_⟩
  replace hm_ := hm_.symm
  subst hm_
  simp only [go_sem]
  refine gC.of isNaN_spec ?_
  rintro _ m_ ⟨rfl, hm_⟩
  replace hm_ := hm_.symm
  subst hm_
  simp only [go_sem]
  unfold cmpI
  refine gT.of (fun h1' => ?_) (fun h1' => ?_) <;> (have h1 := h1'; try simp only [decide_eq_true_eq, decide_eq_false_iff_not, beq_iff_eq, bne_iff_ne, beq_eq_false_iff_ne, ne_eq, Bool.not_eq_true', Bool.not_eq_false', bne_eq_false_iff_eq, Int.not_lt, Int.not_le] at h1)
  · try simp only [go_sem, ruB, h1']
    rw [if_pos h1]
  · try simp only [go_sem, ruB, h1']
    refine gT.of (fun h2' => ?_) (fun h2' => ?_) <;> (have h2 := h2'; try simp only [decide_eq_true_eq, decide_eq_false_iff_not, beq_iff_eq, bne_iff_ne, beq_eq_false_iff_ne, ne_eq, Bool.not_eq_true', Bool.not_eq_false', bne_eq_false_iff_eq, Int.not_lt, Int.not_le] at h2)
    · try simp only [go_sem, ruB, h2']
      rw [if_neg (by omega), if_pos h2]
    · try simp only [go_sem, ruB, h2']
      rw [if_neg (by omega), if_neg (by omega)]

theorem find1_spec {x : Pl} {v : Value} {u : Int} (hv : PlV m x v) : WC R F.plan_find_1 [v, .int .i64 u] m fun r m' => r = .int .i64 (cmpI x.unit u) ∧ Ext m m' := by
  refine WC.of R.plan_find_1 rfl ?_
  obtain ⟨pv, rfl, hp⟩ := hv
  simp only [RC.plan_find_1, plV, go_sem, hp.one]
  have hx : Ext m (m.new (.cells [.int .i64 x.unit, .int .i64 x.share, .int .i64 x.core, pv] (some 4))) := Ext.new
  have hb : Bk (m.new (.cells [.int .i64 x.unit, .int .i64 x.share, .int .i64 x.core, pv] (some 4))) m.next [.int .i64 x.unit, .int .i64 x.share, .int .i64 x.core, pv] 4 := Bk.new
  generalize m.new (.cells [.int .i64 x.unit, .int .i64 x.share, .int .i64 x.core, pv] (some 4)) = m1 at hx hb ⊢
  try simp only [go_sem, ruB, hb.at_]
  refine gC.of Compare_spec ?_
  rintro _ m_ ⟨rfl, hm_⟩
  replace hm_ := hm_.symm
  subst hm_
  simp only [go_sem]
  exact hx
end Go.Am


/- PlanY2 over the table of weave (relayset.py). -/
set_option linter.unusedVariables false
set_option linter.unusedSimpArgs false
namespace Go.Am
open Classical
variable {m : Mem}

def Asc (l : List Pl) : Prop := ∀ i j (hi : i < j) (hj : j < l.length), (l[i]'(by omega)).unit < l[j].unit
/-- Where a unit is, or would be. -/
def atU (l : List Pl) (u : Int) (k : Nat) : Prop := k ≤ l.length ∧ (∀ t (h : t < l.length), t < k → l[t].unit < u) ∧ ∀ t (h : t < l.length), k ≤ t → u ≤ l[t].unit
def isAt (l : List Pl) (u : Int) (k : Nat) : Prop := ∃ h : k < l.length, l[k].unit = u

theorem half_eq {i j : Nat} (h : i + j < 2000000) : IntKind.wrap .i64 (((BitVec.ofInt 64 (IntKind.wrap .i64 ((i : Int) + j)) >>> (1#64).toNat).toNat : Nat) : Int) = ((i + j) / 2 : Nat) := by
  have e : IntKind.wrap .i64 ((i : Int) + j) = ((i + j : Nat) : Int) := by rw [wrap_i64 (by omega) (by omega)]; omega
  rw [show (1#64).toNat = 1 from rfl, e, BitVec.ofInt_natCast, BitVec.toNat_ushiftRight, BitVec.toNat_ofNat, Nat.mod_eq_of_lt (by omega), Nat.shiftRight_eq_div_pow, wrap_i64 (by omega) (by omega)]

theorem Binary_spec {l : List Pl} {v : Value} {u : Int} (hs : PlsV m l v) (hl : l.length < 1000000) (ha : Asc l) :
    WC R F.slices_BinarySearchFunc_api_Place_api_Place_int [v, .int .i64 u, .func (.func F.plan_find_1) #[] #[]] m fun r m' => ∃ k, atU l u k ∧ r = .tuple #[.int .i64 k, .bool (decide (isAt l u k))] ∧ Ext m m' := by
  refine WC.of R.slices_BinarySearchFunc_api_Place_api_Place_int rfl ?_
  simp only [RC.slices_BinarySearchFunc_api_Place_api_Place_int, go_sem, hs.len]
  refine WL.of (fun n e m' => ∃ i j : Nat, i ≤ j ∧ j ≤ l.length ∧ n = j - i ∧ e = [(0, v), (1, .int .i64 u), (2, .func (.func F.plan_find_1) #[] #[]), (8, .int .i64 l.length), (9, .int .i64 i), (10, .int .i64 j)] ∧ (∀ t (h : t < l.length), t < i → l[t].unit < u) ∧ (∀ t (h : t < l.length), j ≤ t → u ≤ l[t].unit) ∧ Ext m m') l.length
    ⟨0, l.length, by omega, by omega, by omega, by simp only [go_sem] <;> rfl, fun t h h2 => by omega, fun t h h2 => by omega, Ext.refl _⟩ ?_
  rintro _ _ m1 ⟨i, j, hij, hj, rfl, rfl, hlo, hhi, hx⟩
  have hs1 := hs.keep hx
  simp only [RB.slices_BinarySearchFunc_api_Place_api_Place_int_1, go_sem]
  refine gT.of (fun h1' => ?_) (fun h1' => ?_) <;> (have h1 := h1'; try simp only [decide_eq_true_eq, decide_eq_false_iff_not, beq_iff_eq, bne_iff_ne, beq_eq_false_iff_ne, ne_eq, Bool.not_eq_true', Bool.not_eq_false', bne_eq_false_iff_eq, Int.not_lt, Int.not_le] at h1)
  · have hij2 : i < j := by omega
    have hh := half_eq (i := i) (j := j) (by omega)
    have hkl : (i + j) / 2 < l.length := by omega
    obtain ⟨b, o, qv, a1, a2, a3, a4, a5⟩ := hs1.elem hkl
    have hlow : l[(i + j) / 2].unit < u → ∀ t (h : t < l.length), t < (i + j) / 2 + 1 → l[t].unit < u := by
      intro g t h ht
      by_cases e : t = (i + j) / 2
      · subst e; exact g
      · have := ha t ((i + j) / 2) (by omega) hkl; omega
    have hhigh : ¬ l[(i + j) / 2].unit < u → ∀ t (h : t < l.length), (i + j) / 2 ≤ t → u ≤ l[t].unit := by
      intro g t h ht
      by_cases e : t = (i + j) / 2
      · subst e; omega
      · have := ha ((i + j) / 2) t (by omega) h; omega
    have hk1 : i ≤ (i + j) / 2 ∧ (i + j) / 2 < j := by omega
    generalize (i + j) / 2 = k at *
    have s1 := step1 (show k < 1000000 by omega)
    try simp only [go_sem, ruB, h1', hh, a1, a2]
    refine gC.of (find1_spec (x := l[k]) (u := u) ⟨qv, rfl, a4⟩) ?_
    rintro _ m2 ⟨rfl, hx2⟩
    simp only [go_sem]
    refine gT.of (fun h2' => ?_) (fun h2' => ?_) <;> (have h2 := h2'; try simp only [decide_eq_true_eq, decide_eq_false_iff_not, beq_iff_eq, bne_iff_ne, beq_eq_false_iff_ne, ne_eq, Bool.not_eq_true', Bool.not_eq_false', bne_eq_false_iff_eq, Int.not_lt, Int.not_le] at h2)
    · have h3 : l[k].unit < u := by unfold cmpI at h2; split at h2 <;> (try split at h2) <;> omega
      try simp only [go_sem, ruB, h2', s1]
      exact ⟨j - (k + 1), by omega, k + 1, j, by omega, by omega, rfl, rfl, hlow h3, hhi, hx.trans hx2⟩
    · have h3 : ¬ l[k].unit < u := by unfold cmpI at h2; split at h2 <;> (try split at h2) <;> omega
      try simp only [go_sem, ruB, h2']
      exact ⟨k - i, by omega, i, k, by omega, by omega, rfl, rfl, hlo, hhigh h3, hx.trans hx2⟩
  · have hij2 : i = j := by omega
    subst hij2
    have hat : atU l u i := ⟨hj, hlo, hhi⟩
    try simp only [go_sem, ruB, h1']
    refine gT.of (fun h2' => ?_) (fun h2' => ?_) <;> (have h2 := h2'; try simp only [decide_eq_true_eq, decide_eq_false_iff_not, beq_iff_eq, bne_iff_ne, beq_eq_false_iff_ne, ne_eq, Bool.not_eq_true', Bool.not_eq_false', bne_eq_false_iff_eq, Int.not_lt, Int.not_le] at h2)
    · have hil : i < l.length := by omega
      obtain ⟨b, o, qv, a1, a2, a3, a4, a5⟩ := hs1.elem hil
      try simp only [go_sem, ruB, h2', a1, a2]
      refine gC.of (find1_spec (x := l[i]) (u := u) ⟨qv, rfl, a4⟩) ?_
      rintro _ m2 ⟨rfl, hx2⟩
      simp only [go_sem]
      try simp only [go_sem, ruB, h2']
      have hge := hhi i hil (Nat.le_refl _)
      have key : (cmpI l[i].unit u == 0) = decide (isAt l u i) := by
        rw [Bool.eq_iff_iff, beq_iff_eq, decide_eq_true_eq]
        unfold cmpI
        constructor
        · intro h; refine ⟨hil, ?_⟩; split at h <;> (try split at h) <;> omega
        · rintro ⟨_, h⟩; rw [if_neg (by omega), if_neg (by omega)]
      exact ⟨i, hat, by rw [key], hx.trans hx2⟩
    · try simp only [go_sem, ruB, h2']
      have key : decide (isAt l u i) = false := decide_eq_false fun ⟨h, _⟩ => by omega
      exact ⟨i, hat, by rw [key], hx⟩

theorem find_spec {p : PlanD} {v : Value} {u : Int} (hv : PlanV m p v) (hl : p.places.length < 1000000) (ha : Asc p.places) :
    WC R F.plan_find [v, .int .i64 u] m fun r m' => ∃ k, atU p.places u k ∧ r = .tuple #[.int .i64 k, .bool (decide (isAt p.places u k))] ∧ Ext m m' := by
  refine WC.of R.plan_find rfl ?_
  obtain ⟨pv, rfl, hp⟩ := hv
  simp only [RC.plan_find, planV, go_sem, hp.one]
  have hx : Ext m (m.new (.cells [.int .i64 p.frame, u32 p.cores, pv] (some 3))) := Ext.new
  have hb : Bk (m.new (.cells [.int .i64 p.frame, u32 p.cores, pv] (some 3))) m.next [.int .i64 p.frame, u32 p.cores, pv] 3 := Bk.new
  generalize m.new (.cells [.int .i64 p.frame, u32 p.cores, pv] (some 3)) = m1 at hx hb ⊢
  try simp only [go_sem, ruB, hb.at_]
  refine gC.of (Binary_spec (hp.keep hx) hl ha) ?_
  rintro _ m2 ⟨k, hk, rfl, hx2⟩
  try simp only [go_sem, ruB, aExt0, aExt1]
  exact ⟨k, hk, rfl, hx.trans hx2⟩

/-- A copy of pieces. -/
theorem Clone_spec {l : List Pc} {v : Value} (hs : PcV m l v) (hl : l.length < 1000000) : WC R F.slices_Clone_api_Piece_api_Piece [v] m fun r m' => Own m m' 2 l.length (l.flatMap pcV) r ∧ Ext m m' := by
  refine WC.of R.slices_Clone_api_Piece_api_Piece rfl ?_
  have hone : oneCells (l.flatMap pcV) = true := by
    unfold oneCells
    rw [List.all_eq_true]
    intro x hx
    obtain ⟨y, _, hy⟩ := List.mem_flatMap.1 hx
    simp only [pcV, List.mem_cons, List.not_mem_nil, or_false] at hy
    rcases hy with rfl | rfl <;> rfl
  obtain ⟨h1, h2⟩ := hs
  have hs0 : Sl m 2 l.length (l.flatMap pcV) v := h1
  cases h1 with
  | nil h hc =>
    simp only [RC.slices_Clone_api_Piece_api_Piece, go_sem, Option.isNone_none]
    exact ⟨.nil h hc, Ext.refl _⟩
  | @«at» b o c hc h =>
    simp only [RC.slices_Clone_api_Piece_api_Piece, go_sem]
    obtain ⟨v', m', e1, e2, e3⟩ := app_copy (by_ := 16) (hs0.keep h2 Ext.new) hone (by omega) (by omega)
    rw [e1, Got.some]
    try simp only [go_sem, ruB]
    exact ⟨e2, e3⟩

def find0 : Pl := ⟨0, 0, 0, []⟩
noncomputable def findP (l : List Pl) (u : Int) : Pl := if h : ∃ i, ∃ h : i < l.length, l[i].unit = u then l[h.choose]'(h.choose_spec.choose) else find0
def hasU (l : List Pl) (u : Int) : Prop := ∃ i, ∃ h : i < l.length, l[i].unit = u

theorem Asc.inj {l : List Pl} (ha : Asc l) {i j : Nat} (hi : i < l.length) (hj : j < l.length) (h : l[i].unit = l[j].unit) : i = j := by
  rcases Nat.lt_trichotomy i j with g | g | g
  · have := ha i j g hj; omega
  · exact g
  · have := ha j i g hi; omega
theorem findP_at {l : List Pl} {u : Int} (ha : Asc l) {i : Nat} (hi : i < l.length) (h : l[i].unit = u) : findP l u = l[i] := by
  have hex : ∃ i, ∃ h : i < l.length, l[i].unit = u := ⟨i, hi, h⟩
  unfold findP
  rw [dif_pos hex]
  have e : hex.choose = i := ha.inj hex.choose_spec.choose hi (by rw [hex.choose_spec.choose_spec, h])
  simp only [e]
theorem findP_not {l : List Pl} {u : Int} (h : ¬ hasU l u) : findP l u = find0 := by unfold findP; exact dif_neg h

theorem Find_spec {p : PlanD} {v : Value} {u : Int} (hv : PlanV m p v) (hl : PlanL p) (ha : Asc p.places) :
    WC R F.plan_Find [v, .int .i64 u] m fun r m' => ∃ w, r = .tuple #[w, .bool (decide (hasU p.places u))] ∧ PlV m' (findP p.places u) w ∧ Ext m m' := by
  refine WC.of R.plan_Find rfl ?_
  obtain ⟨pv, rfl, hp⟩ := hv
  simp only [RC.plan_Find, planV, go_sem, hp.one]
  have hx : Ext m (m.new (.cells [.int .i64 p.frame, u32 p.cores, pv] (some 3))) := Ext.new
  have hb : Bk (m.new (.cells [.int .i64 p.frame, u32 p.cores, pv] (some 3))) m.next [.int .i64 p.frame, u32 p.cores, pv] 3 := Bk.new
  generalize m.new (.cells [.int .i64 p.frame, u32 p.cores, pv] (some 3)) = m1 at hx hb ⊢
  have hbn := hb.ne
  try simp only [go_sem, ruB, hb.at_, hbn]
  have hx2 : Ext m1 (m1.new (.cells [.int .i64 0, .int .i64 0, .int .i64 0, .slice none 0 0] (some 4))) := Ext.new
  have hb2 : Bk (m1.new (.cells [.int .i64 0, .int .i64 0, .int .i64 0, .slice none 0 0] (some 4))) m1.next [.int .i64 0, .int .i64 0, .int .i64 0, .slice none 0 0] 4 := Bk.new
  have hn2 : (m1.new (.cells [.int .i64 0, .int .i64 0, .int .i64 0, .slice none 0 0] (some 4))).next = m1.next + 1 := rfl
  generalize m1.new (.cells [.int .i64 0, .int .i64 0, .int .i64 0, .slice none 0 0] (some 4)) = m2 at hx2 hb2 hn2 ⊢
  have hp2 := (hp.keep hx).keep hx2
  have hb' := hb.keep hx2
  try simp only [go_sem, ruB, hb'.at_]
  refine gC.of (find_spec (p := p) ⟨pv, rfl, hp2⟩ hl.len ha) ?_
  rintro _ m3 ⟨k, ⟨hk1, hk2, hk3⟩, rfl, hx3⟩
  have hp3 := hp2.keep hx3
  have hb3 := hb'.keep hx3
  have hr3 := hb2.keep hx3
  try simp only [go_sem, ruB, aExt0, aExt1]
  have hiff : isAt p.places u k ↔ hasU p.places u := by
    constructor
    · rintro ⟨h, e⟩; exact ⟨k, h, e⟩
    · rintro ⟨i, h, e⟩
      have : i = k := by
        rcases Nat.lt_trichotomy i k with g | g | g
        · have := hk2 i h g; omega
        · exact g
        · have h1 := hk3 k (by omega) (Nat.le_refl _)
          have := ha k i g h
          omega
      subst this; exact ⟨h, e⟩
  refine gT.of (fun h1' => ?_) (fun h1' => ?_) <;> (have h1 := h1'; try simp only [decide_eq_true_eq, decide_eq_false_iff_not, beq_iff_eq, bne_iff_ne, beq_eq_false_iff_ne, ne_eq, Bool.not_eq_true', Bool.not_eq_false', bne_eq_false_iff_eq, Int.not_lt, Int.not_le] at h1)
  · have hno : ¬ isAt p.places u k := by simpa using h1'
    have hnu : ¬ hasU p.places u := fun h => hno (hiff.2 h)
    have hX : Ext m1 m3 := hx2.trans hx3
    try simp only [go_sem, ruB, h1', hr3.at_]
    refine ⟨_, by rw [decide_eq_false hnu], ?_, hx.trans (hX.set (Nat.le_refl _))⟩
    rw [findP_not hnu]
    exact ⟨.slice none 0 0, rfl, .nil rfl rfl, trivial⟩
  · have hyes : isAt p.places u k := by simpa using h1'
    obtain ⟨hkl, hku⟩ := hyes
    try simp only [go_sem, ruB, h1', hb3.at_]
    obtain ⟨b, o, qv, a1, a2, a3, a4, a5⟩ := hp3.elem hkl
    have hfx : findP p.places u = p.places[k] := findP_at ha hkl hku
    have hhas : hasU p.places u := ⟨k, hkl, hku⟩
    have hpl := hl.pcs _ (List.getElem_mem hkl)
    generalize p.places[k] = x at *
    simp only [plV] at a2
    try simp only [go_sem, ruB, a1, a2, a4.one]
    have hx4 : Ext m3 (m3.new (.cells [.int .i64 x.unit, .int .i64 x.share, .int .i64 x.core, qv] (some 4))) := Ext.new
    have hb4 : Bk (m3.new (.cells [.int .i64 x.unit, .int .i64 x.share, .int .i64 x.core, qv] (some 4))) m3.next [.int .i64 x.unit, .int .i64 x.share, .int .i64 x.core, qv] 4 := Bk.new
    generalize m3.new (.cells [.int .i64 x.unit, .int .i64 x.share, .int .i64 x.core, qv] (some 4)) = m4 at hx4 hb4 ⊢
    try simp only [go_sem, ruB, hb4.at_]
    refine gC.of (Clone_spec (a4.keep hx4) hpl) ?_
    rintro w m5 ⟨ho, hx5⟩
    have hb5 := hb4.keep hx5
    have hr5 := (hr3.keep hx4).keep hx5
    have hne : m1.next ≠ m3.next := by have := hr3.lt; omega
    have hso : ∀ {m'}, Upd m5 m' [m1.next, m3.next] → PcV m' x.pieces w := by
      intro m' h
      have hoff : SlOff [m1.next, m3.next] w := ho.off (by
        intro z hz
        have := hr3.lt; have := hx4.next; have := hb4.lt
        simp at hz; omega)
      exact ⟨ho.sl.upd ho.lt hoff h, ho.lt.upd h⟩
    have hw : ∃ a n c, w = .slice a n c := by cases ho <;> exact ⟨_, _, _, rfl⟩
    have hw1 := ho.sl.one
    obtain ⟨wa, wn, wc, rfl⟩ := hw
    have hne' : (m1.next = m3.next) = False := eq_false hne
    try simp only [go_sem, ruB, hb5.at_, hw1, hne', hr5.at_]
    have hle : m1.next ≤ m3.next := by have := hr3.lt; omega
    refine ⟨_, by rw [decide_eq_true hhas], ?_, hx.trans (((((hx2.trans hx3).trans hx4).trans hx5).set hle).set (Nat.le_refl _))⟩
    rw [hfx]
    exact ⟨.slice wa wn wc, rfl, hso ((Upd.set (fp := [m1.next, m3.next]) (by simp)).trans (Upd.set (fp := [m1.next, m3.next]) (by simp)) (fun _ h => h) (fun _ h => .inl h))⟩

end Go.Am


/- PlanL3 over the table of weave (relayset.py). -/
set_option linter.unusedVariables false
set_option linter.unusedSimpArgs false
namespace Go.Am
open Classical
variable {m : Mem}

theorem RightP.asc {p : PlanD} (h : RightP p) : Asc p.places := by
  intro i j hij hj
  induction j with
  | zero => omega
  | succ j ih =>
    obtain ⟨_, _, g⟩ := h.2.2.2.2.1 (j + 1) hj
    have g := g (by omega)
    simp only [Nat.add_sub_cancel] at g
    by_cases e : i = j
    · subst e; exact g
    · have := ih (by omega) (by omega); omega

end Go.Am


/- Weave: why not, walked. -/
set_option linter.unusedVariables false
set_option linter.unusedSimpArgs false
namespace Go.Am
open Classical
variable {m : Mem}

def anyR (p : PlanD) (s : Int) : Prop := ∃ c, c < 16 ∧ hasC p (c : Nat) = true ∧ s ≤ roomP p (c : Nat)
set_option maxHeartbeats 2000000 in
theorem first_spec {p : PlanD} {v : Value} {s : Int} (hv : PlanV m p v) (hR : PlanR p) : WC R F.ffd_first [v, .int .i64 s] m fun r m' => (∃ c, r = .tuple #[.int .i64 c, .bool (decide (anyR p s))]) ∧ Ext m m' := by
  refine WC.of R.ffd_first rfl ?_
  obtain ⟨pv, rfl, hp⟩ := hv
  have hcl := csP_len (p := p) (n := 16)
  simp only [RC.ffd_first, planV, go_sem, hp.one]
  have hx1 : Ext m (m.new (.cells [.int .i64 p.frame, u32 p.cores, pv] (some 3))) := Ext.new
  have hb1 : Bk (m.new (.cells [.int .i64 p.frame, u32 p.cores, pv] (some 3))) m.next [.int .i64 p.frame, u32 p.cores, pv] 3 := Bk.new
  have hn1 : (m.new (.cells [.int .i64 p.frame, u32 p.cores, pv] (some 3))).next = m.next + 1 := rfl
  generalize m.new (.cells [.int .i64 p.frame, u32 p.cores, pv] (some 3)) = m1 at hx1 hb1 hn1 ⊢
  have hp1 := hp.keep hx1
  try simp only [go_sem, ruB, hb1.at_, hp1.one]
  refine gC.of (Cores_spec (p := p) ⟨pv, rfl, hp1⟩) ?_
  rintro cV m2 ⟨hO, hx2⟩
  have hb2 := hb1.keep hx2
  try simp only [go_sem, ruB, hO.sl.len]
  refine WL.of (fun z e m' => ∃ j : Nat, j ≤ (csP p 16).length ∧ z = (csP p 16).length - j ∧ e = [(1, .int .i64 s), (2, pt m.next), (9, cV), (10, .int .i64 ((csP p 16).length : Nat)), (11, .int .i64 (j : Nat))] ∧ Ext m2 m' ∧ ∀ k, k < j → roomP p (csF p k : Nat) < s) (csP p 16).length
    ⟨0, by omega, by omega, by simp only [pt, go_sem] <;> rfl, Ext.refl _, fun k hk => by omega⟩ ?_
  rintro _ _ m3 ⟨j, hj, rfl, rfl, hx3, hno⟩
  simp only [RB.ffd_first_1, pt, go_sem]
  have s1 := step1 (show j < 1000000 by omega)
  by_cases g : j < (csP p 16).length
  rotate_left
  · have e1 : decide (((j : Nat) : Int) < (((csP p 16).length : Nat) : Int)) = false := decide_eq_false (by omega)
    have nn : ¬ anyR p s := by
      rintro ⟨c, c1, c2, c3⟩
      obtain ⟨k, hk, e⟩ := List.getElem_of_mem (csP_mem.2 ⟨c1, c2⟩)
      have := hno k (by omega)
      rw [csF_get hk, e] at this; omega
    have d : decide (anyR p s) = false := decide_eq_false nn
    try simp only [go_sem, ruB, e1, d]
    exact ⟨⟨_, rfl⟩, hx1.trans (hx2.trans hx3)⟩
  have e1 : decide (((j : Nat) : Int) < (((csP p 16).length : Nat) : Int)) = true := decide_eq_true (by omega)
  obtain ⟨q, c1, c2⟩ := (hO.keep hx3).sl.get (k := .i64) g
  have c2' : aLoad false 1 m3 q = some (.int .i64 (csF p j : Nat)) := by
    rw [c2, csF_get g]; unfold ints; rw [List.getElem?_map, List.getElem?_eq_getElem g]; rfl
  have hb3 := hb2.keep hx3
  have hp3 := (hp1.keep hx2).keep hx3
  try simp only [go_sem, ruB, e1, c1, c2', hb3.at_, hp1.one]
  refine gC.of (Room_spec (p := p) (c := (csF p j : Nat)) ⟨pv, rfl, hp3⟩ hR) ?_
  rintro _ m4 ⟨rfl, hx4⟩
  by_cases q : s ≤ roomP p (csF p j : Nat)
  · have e3 : decide (s ≤ roomP p (csF p j : Nat)) = true := decide_eq_true q
    have d : decide (anyR p s) = true := decide_eq_true ⟨csF p j, (csF_has g).1, (csF_has g).2, q⟩
    try simp only [go_sem, ruB, e3, d]
    exact ⟨⟨_, rfl⟩, hx1.trans (hx2.trans (hx3.trans hx4))⟩
  · have e3 : decide (s ≤ roomP p (csF p j : Nat)) = false := decide_eq_false q
    try simp only [go_sem, ruB, e3, s1]
    exact ⟨(csP p 16).length - (j + 1), by omega, j + 1, by omega, rfl, rfl, hx3.trans hx4, fun k hk => by
      by_cases e : k = j
      · subst e; omega
      · exact hno k (by omega)⟩
theorem First_spec {p : PlanD} {v : Value} {s : Int} (hv : PlanV m p v) (hL : PlanL p) (hR : RightP p) (hs : 1 ≤ s) : WC R F.ffd_First [v, .int .i64 s] m fun r m' => (∃ c, r = .tuple #[.int .i64 c, .bool (decide (anyR p s))]) ∧ Ext m m' := by
  refine WC.of R.ffd_First rfl ?_
  obtain ⟨pv, rfl, hp⟩ := hv
  simp only [RC.ffd_First, planV, go_sem, hp.one]
  have hx1 : Ext m (m.new (.cells [.int .i64 p.frame, u32 p.cores, pv] (some 3))) := Ext.new
  have hb1 : Bk (m.new (.cells [.int .i64 p.frame, u32 p.cores, pv] (some 3))) m.next [.int .i64 p.frame, u32 p.cores, pv] 3 := Bk.new
  have hn1 : (m.new (.cells [.int .i64 p.frame, u32 p.cores, pv] (some 3))).next = m.next + 1 := rfl
  generalize m.new (.cells [.int .i64 p.frame, u32 p.cores, pv] (some 3)) = m1 at hx1 hb1 hn1 ⊢
  have hp1 := hp.keep hx1
  try simp only [go_sem, ruB, hb1.at_, hp1.one]
  refine gC.of (Check_spec (p := p) ⟨pv, rfl, hp1⟩ hL) ?_
  rintro _ m2 ⟨rfl, hx2⟩
  have e : chk p = .int .i64 0 := by unfold chk; rw [if_pos (check_iff.2 hR)]
  have e0 : ((0 : Int) != 0) = false := rfl
  have e1 : decide (s < 1) = false := decide_eq_false (by omega)
  have hb2 := hb1.keep hx2
  rw [e]
  try simp only [go_sem, ruB, e0, e1, hb2.at_, hp1.one]
  refine gC.of (first_spec (p := p) ⟨pv, rfl, hp1.keep hx2⟩ (hR.pr hL)) ?_
  rintro _ m3 ⟨⟨c, rfl⟩, hx3⟩
  try simp only [go_sem, ruB, aExt0, aExt1]
  exact ⟨⟨c, rfl⟩, hx1.trans (hx2.trans hx3)⟩
/-- Why a want is not woven, but for room. -/
noncomputable def whyF (p : PlanD) (w : Wt) : Int := if ¬ RightP p then 30 else if chkA p.frame [w] ≠ 0 then chkA p.frame [w] else if hasU p.places w.1 then 11 else if anyR p w.2 ∨ (csP p 16).length ≤ p.places.countP isSp + 1 then 15 else 0
theorem chkF_ok {f : Int} : ∀ {l pre : List Sp}, chkF f pre l = 0 → (∀ w ∈ l, isU w.1 ∧ 1 ≤ w.2 ∧ w.2 ≤ f ∧ ∀ p ∈ pre, p.1 ≠ w.1) ∧ l.Pairwise fun a b => a.1 ≠ b.1
  | [], pre, _ => ⟨fun w hw => by simp at hw, List.Pairwise.nil⟩
  | w :: r, pre, h => by
    unfold chkF at h
    by_cases g1 : isU w.1
    · rw [if_neg (by simpa using g1)] at h
      by_cases g2 : w.2 < 1 ∨ f < w.2
      · rw [if_pos g2] at h; omega
      · rw [if_neg g2] at h
        by_cases g3 : ∃ p ∈ pre, p.1 = w.1
        · rw [if_pos g3] at h; omega
        · rw [if_neg g3] at h
          obtain ⟨h1, h2⟩ := chkF_ok h
          refine ⟨fun x hx => ?_, List.pairwise_cons.2 ⟨fun x hx e => ?_, h2⟩⟩
          · rcases List.mem_cons.1 hx with rfl | hx
            · exact ⟨g1, by omega, by omega, fun p hp e => g3 ⟨p, hp, e⟩⟩
            · obtain ⟨a, b, c, d⟩ := h1 x hx
              exact ⟨a, b, c, fun p hp => d p (List.mem_append_left _ hp)⟩
          · exact (h1 x hx).2.2.2 w (by simp) e
    · rw [if_pos (by simpa using g1)] at h; omega
structure LOk (f : Int) (l : List Wt) : Prop where
  fr : 2 ≤ f ∧ f ≤ 64
  w : ∀ w ∈ l, isU w.1 ∧ 1 ≤ w.2 ∧ w.2 ≤ f
  u : l.Pairwise fun a b => a.1 ≠ b.1
theorem chkA_ok {f : Int} {l : List Wt} (g : chkA f l = 0) : LOk f l := by
  unfold chkA at g
  by_cases g3 : f < 2 ∨ 64 < f
  · rw [if_pos g3] at g; omega
  · rw [if_neg g3] at g
    obtain ⟨h1, h2⟩ := chkF_ok g
    exact ⟨by omega, fun w hw => ⟨(h1 w hw).1, (h1 w hw).2.1, (h1 w hw).2.2.1⟩, h2⟩
theorem wfill_w {a b : Int} : fillL [.int .i64 0, .int .i64 0] [(0, 2, .agg #[.int .i64 a, .int .i64 b])] = some [.int .i64 a, .int .i64 b] := rfl
theorem one_sl {m : Mem} {w : Wt} : Sl (m.new (.cells [.int .i64 w.1, .int .i64 w.2] (some 2))) 2 1 ([w].flatMap spV) (.slice (some ⟨m.next, 0, none⟩) 1 1) ∧ SlLt (m.new (.cells [.int .i64 w.1, .int .i64 w.2] (some 2))) (.slice (some ⟨m.next, 0, none⟩) 1 1) := by
  refine ⟨.at (Nat.le_refl _) ?_, SlLt.vb_iff.2 fun x hx => by simp [vb] at hx; simp [Mem.new]; omega⟩
  unfold aCells
  simp [Mem.new, spV]
set_option maxHeartbeats 4000000 in
theorem wWhy_spec {p : PlanD} {v : Value} {w : Wt} (hv : PlanV m p v) (hL : PlanL p) : WC R F.weave_why [v, .agg #[.int .i64 w.1, .int .i64 w.2]] m fun r m' => r = .int .i64 (whyF p w) ∧ Ext m m' := by
  refine WC.of R.weave_why rfl ?_
  obtain ⟨pv, rfl, hp⟩ := hv
  have hcl := csP_len (p := p) (n := 16)
  simp only [RC.weave_why, planV, go_sem, hp.one]
  have hx1 : Ext m (m.new (.cells [.int .i64 p.frame, u32 p.cores, pv] (some 3))) := Ext.new
  have hb1 : Bk (m.new (.cells [.int .i64 p.frame, u32 p.cores, pv] (some 3))) m.next [.int .i64 p.frame, u32 p.cores, pv] 3 := Bk.new
  have hn1 : (m.new (.cells [.int .i64 p.frame, u32 p.cores, pv] (some 3))).next = m.next + 1 := rfl
  generalize m.new (.cells [.int .i64 p.frame, u32 p.cores, pv] (some 3)) = m1 at hx1 hb1 hn1 ⊢
  have hx2 : Ext m1 (m1.new (.cells [.int .i64 w.1, .int .i64 w.2] (some 2))) := Ext.new
  have hc2 : Bk (m1.new (.cells [.int .i64 w.1, .int .i64 w.2] (some 2))) m1.next [.int .i64 w.1, .int .i64 w.2] 2 := Bk.new
  have hn2 : (m1.new (.cells [.int .i64 w.1, .int .i64 w.2] (some 2))).next = m1.next + 1 := rfl
  generalize m1.new (.cells [.int .i64 w.1, .int .i64 w.2] (some 2)) = m2 at hx2 hc2 hn2 ⊢
  have hb2 := hb1.keep hx2
  have hx02 := hx1.trans hx2
  have hp2 := hp.keep hx02
  try simp only [go_sem, ruB, hb2.at_, hp2.one]
  refine gC.of (Check_spec (p := p) ⟨pv, rfl, hp2⟩ hL) ?_
  rintro _ m3 ⟨rfl, hx3⟩
  have hb3 := hb2.keep hx3
  have hc3 := hc2.keep hx3
  have hp3 := hp2.keep hx3
  have e0 : ((0 : Int) != 0) = false := rfl
  by_cases hR : RightP p
  rotate_left
  · have e : chk p = .int .i64 30 := by unfold chk; rw [if_neg fun g => hR (check_iff.1 g)]
    have hw : whyF p w = 30 := by unfold whyF; rw [if_pos hR]
    have e2 : ((30 : Int) != 0) = true := rfl
    rw [e, hw]
    try simp only [go_sem, ruB, e2]
    exact hx02.trans hx3
  have e : chk p = .int .i64 0 := by unfold chk; rw [if_pos (check_iff.2 hR)]
  rw [e]
  obtain ⟨sl, sb⟩ := @one_sl m3 w
  have hx4 : Ext m3 (m3.new (.cells [.int .i64 w.1, .int .i64 w.2] (some 2))) := Ext.new
  try simp only [go_sem, ruB, e0, hb3.at_, hc3.at_, ↓wfill_w]
  generalize m3.new (.cells [.int .i64 w.1, .int .i64 w.2] (some 2)) = m4 at hx4 sl sb ⊢
  refine gC.of (orCheck (l := [w]) sl sb (by simp)) ?_
  rintro _ m5 ⟨rfl, hx5⟩
  have hx35 := hx4.trans hx5
  have hb5 := hb3.keep hx35
  have hc5 := hc3.keep hx35
  have hp5 := hp3.keep hx35
  have hx05 := (hx02.trans hx3).trans hx35
  by_cases gc : chkA p.frame [w] = 0
  rotate_left
  · have e2 : (chkA p.frame [w] != 0) = true := by rw [bne_iff_ne]; exact gc
    have hw : whyF p w = chkA p.frame [w] := by unfold whyF; rw [if_neg (by simpa using hR), if_pos gc]
    try simp only [go_sem, ruB, e2, hw]
    exact hx05
  have e2 : (chkA p.frame [w] != 0) = false := by rw [bne_eq_false_iff_eq]; exact gc
  try simp only [go_sem, ruB, e2, hb5.at_, hc5.at_, hp5.one]
  refine gC.of (Find_spec (p := p) (u := w.1) ⟨pv, rfl, hp5⟩ hL hR.asc) ?_
  rintro _ m6 ⟨_, rfl, ⟨fv, rfl, hfv⟩, hx6⟩
  have fo := hfv.one
  simp only [plV]
  try simp only [go_sem, ruB, aExt0, aExt1, fo]
  have hx7 : Ext m6 (m6.new (.cells [.int .i64 (findP p.places w.1).unit, .int .i64 (findP p.places w.1).share, .int .i64 (findP p.places w.1).core, fv] (some 4))) := Ext.new
  have hf7 : Bk (m6.new (.cells [.int .i64 (findP p.places w.1).unit, .int .i64 (findP p.places w.1).share, .int .i64 (findP p.places w.1).core, fv] (some 4))) m6.next [.int .i64 (findP p.places w.1).unit, .int .i64 (findP p.places w.1).share, .int .i64 (findP p.places w.1).core, fv] 4 := Bk.new
  generalize m6.new (.cells [.int .i64 (findP p.places w.1).unit, .int .i64 (findP p.places w.1).share, .int .i64 (findP p.places w.1).core, fv] (some 4)) = m7 at hx7 hf7 ⊢
  have hx57 := hx6.trans hx7
  have hb7 := hb5.keep hx57
  have hc7 := hc5.keep hx57
  have hp7 := hp5.keep hx57
  have hx07 := hx05.trans hx57
  by_cases gu : hasU p.places w.1
  · have d : decide (hasU p.places w.1) = true := decide_eq_true gu
    have hw : whyF p w = 11 := by unfold whyF; rw [if_neg (by simpa using hR), if_neg (by simpa using gc), if_pos gu]
    try simp only [go_sem, ruB, d, hw]
    exact hx07
  have d : decide (hasU p.places w.1) = false := decide_eq_false gu
  have hk := (chkA_ok gc).w w (by simp)
  have e6 : whyF p w = if anyR p w.2 ∨ (csP p 16).length ≤ p.places.countP isSp + 1 then 15 else 0 := by unfold whyF; rw [if_neg (by simpa using hR), if_neg (by simpa using gc), if_neg gu]
  try simp only [go_sem, ruB, d, hb7.at_, hc7.at_, hp7.one]
  refine gC.of (First_spec (p := p) (s := w.2) ⟨pv, rfl, hp7⟩ hL hR hk.2.1) ?_
  rintro _ m8 ⟨⟨c, rfl⟩, hx8⟩
  have hb8 := hb7.keep hx8
  have hp8 := hp7.keep hx8
  have hx08 := hx07.trans hx8
  by_cases ga : anyR p w.2
  · have d2 : decide (anyR p w.2) = true := decide_eq_true ga
    try simp only [go_sem, ruB, aExt0, aExt1, d2]
    rw [e6, if_pos (.inl ga)]
    exact ⟨rfl, hx08⟩
  have d2 : decide (anyR p w.2) = false := decide_eq_false ga
  try simp only [go_sem, ruB, aExt0, aExt1, d2, hb8.at_, hp8.one]
  refine gC.of (Splits_spec (p := p) ⟨pv, rfl, hp8⟩ hL.len) ?_
  rintro _ m9 ⟨rfl, hx9⟩
  have w9 := hx9.same _ hb8.lt
  try simp only [go_sem, ruB, watch_one, watch_nil, blk_ptr, w9]
  refine gC.of (Cores_spec (p := p) ⟨pv, rfl, hp8.keep hx9⟩) ?_
  rintro cV m10 ⟨hO, hx10⟩
  have w1 : IntKind.wrap .i64 (((csP p 16).length : Nat) - 1) = ((csP p 16).length : Nat) - 1 := wrap_i64 (by omega) (by omega)
  have hx0a := hx08.trans (hx9.trans hx10)
  by_cases gs : (csP p 16).length ≤ p.places.countP isSp + 1
  · have d3 : decide ((((csP p 16).length : Nat) : Int) - 1 ≤ ((p.places.countP isSp : Nat) : Int)) = true := decide_eq_true (by omega)
    try simp only [go_sem, ruB, hO.sl.len, w1, d3]
    rw [e6, if_pos (.inr gs)]
    exact ⟨rfl, hx0a⟩
  · have d3 : decide ((((csP p 16).length : Nat) : Int) - 1 ≤ ((p.places.countP isSp : Nat) : Int)) = false := decide_eq_false (by omega)
    try simp only [go_sem, ruB, hO.sl.len, w1, d3]
    rw [e6, if_neg (fun q => q.elim ga gs)]
    exact ⟨rfl, hx0a⟩
end Go.Am


/- Weave: Place, walked. -/
set_option linter.unusedVariables false
set_option linter.unusedSimpArgs false
namespace Go.Am
open Classical
variable {m : Mem}

theorem BgV.lg {mE m : Mem} {p : PlanD} {bl : Nat} {csV gV rV : Value} (h : BgV mE m p bl (csP p 16).length (csP p 16).length csV gV rV) (hf : 0 ≤ p.frame) (hR : PlanR p) : LgV mE m p bl csV gV rV (fun c => roomP p (c : Nat)) := by
  have l := h.lm hf
  exact ⟨l.lo, l.cl, l.g, l.gl, h.ro, h.d1.2.2, fun x hx => (h.d2.1 x hx).1, fun c => roomP_le hR, fun c hh => roomP_0 hh⟩
/-- The start. -/
noncomputable def plS0 (p : PlanD) (s : Int) : PlS := ⟨fun c => roomP p (c : Nat), fun _ => 0#64, s⟩
noncomputable def plL (p : PlanD) : Int := lstN (gapH p) (fun c => roomP p (c : Nat)) 16 0 0#64 0
noncomputable def plPl (p : PlanD) (w : Wt) : Pl := ⟨w.1, w.2, 0, pcL (plRun (gapH p) (plS0 p w.2) p.frame.toNat).gv (csP p 16)⟩
noncomputable def whyW (p : PlanD) (w : Wt) : Int := if whyF p w ≠ 0 then whyF p w else if plL p < w.2 then 12 else 0
def PlaceO (p : PlanD) (w : Wt) (m : Mem) (v : Value) (m' : Mem) : Prop :=
  Ext m m' ∧ ((whyW p w ≠ 0 ∧ v = .tuple #[.agg #[.int .i64 0, .int .i64 0, .int .i64 0, .slice none 0 0], .int .i64 (whyW p w)]) ∨ (whyW p w = 0 ∧ ∃ xv, v = .tuple #[xv, .int .i64 0] ∧ PlV m' (plPl p w) xv))
theorem zerosW {n : Nat} : zeros [u64 0#64] n = rgC n fun _ => u64 0#64 := by
  induction n with
  | zero => rfl
  | succ n ih =>
    rw [rgC_succ, ← ih]
    have : ∀ n : Nat, zeros [u64 0#64] n = List.replicate n (u64 0#64) := fun n => by
      induction n with
      | zero => rfl
      | succ n ih => simp [zeros, List.replicate_succ] at *; try exact ih
    rw [this, this, List.replicate_succ']
theorem rgC_oneW {n : Nat} {g : Nat → BitVec 64} : oneCells (rgC n fun i => u64 (g i)) = true := by
  unfold oneCells rgC
  rw [List.all_eq_true]
  intro x hx
  obtain ⟨i, -, rfl⟩ := List.mem_map.1 hx
  rfl
theorem whyF_0 {p : PlanD} {w : Wt} (h : whyF p w = 0) : RightP p ∧ chkA p.frame [w] = 0 ∧ ¬ hasU p.places w.1 ∧ ¬ anyR p w.2 ∧ p.places.countP isSp + 1 < (csP p 16).length := by
  unfold whyF at h
  by_cases hR : RightP p
  · rw [if_neg (by simpa using hR)] at h
    by_cases gc : chkA p.frame [w] = 0
    · rw [if_neg (by simpa using gc)] at h
      by_cases gu : hasU p.places w.1
      · rw [if_pos gu] at h; omega
      · rw [if_neg gu] at h
        by_cases ga : anyR p w.2 ∨ (csP p 16).length ≤ p.places.countP isSp + 1
        · rw [if_pos ga] at h; omega
        · exact ⟨hR, gc, gu, fun q => ga (.inl q), by
            have : ¬ (csP p 16).length ≤ p.places.countP isSp + 1 := fun q => ga (.inr q)
            omega⟩
    · rw [if_pos gc] at h; exact absurd h gc
  · rw [if_pos hR] at h; omega
set_option maxHeartbeats 8000000 in
theorem wPlace_spec {p : PlanD} {v : Value} {w : Wt} (hv : PlanV m p v) (hL : PlanL p) : WC R F.weave_Place [v, .agg #[.int .i64 w.1, .int .i64 w.2]] m fun r m' => PlaceO p w m r m' := by
  refine WC.of R.weave_Place rfl ?_
  obtain ⟨pv, rfl, hp⟩ := hv
  have hcl := csP_len (p := p) (n := 16)
  simp only [RC.weave_Place, planV, go_sem, hp.one]
  have hx1 : Ext m (m.new (.cells [.int .i64 p.frame, u32 p.cores, pv] (some 3))) := Ext.new
  have hb1 : Bk (m.new (.cells [.int .i64 p.frame, u32 p.cores, pv] (some 3))) m.next [.int .i64 p.frame, u32 p.cores, pv] 3 := Bk.new
  have hn1 : (m.new (.cells [.int .i64 p.frame, u32 p.cores, pv] (some 3))).next = m.next + 1 := rfl
  generalize m.new (.cells [.int .i64 p.frame, u32 p.cores, pv] (some 3)) = m1 at hx1 hb1 hn1 ⊢
  have hx2 : Ext m1 (m1.new (.cells [.int .i64 w.1, .int .i64 w.2] (some 2))) := Ext.new
  have hc2 : Bk (m1.new (.cells [.int .i64 w.1, .int .i64 w.2] (some 2))) m1.next [.int .i64 w.1, .int .i64 w.2] 2 := Bk.new
  have hn2 : (m1.new (.cells [.int .i64 w.1, .int .i64 w.2] (some 2))).next = m1.next + 1 := rfl
  generalize m1.new (.cells [.int .i64 w.1, .int .i64 w.2] (some 2)) = m2 at hx2 hc2 hn2 ⊢
  have hx3 : Ext m2 (m2.new (.cells [.int .i64 0, .int .i64 0, .int .i64 0, .slice none 0 0] (some 4))) := Ext.new
  have hd3 : Bk (m2.new (.cells [.int .i64 0, .int .i64 0, .int .i64 0, .slice none 0 0] (some 4))) m2.next [.int .i64 0, .int .i64 0, .int .i64 0, .slice none 0 0] 4 := Bk.new
  have hn3 : (m2.new (.cells [.int .i64 0, .int .i64 0, .int .i64 0, .slice none 0 0] (some 4))).next = m2.next + 1 := rfl
  generalize m2.new (.cells [.int .i64 0, .int .i64 0, .int .i64 0, .slice none 0 0] (some 4)) = m3 at hx3 hd3 hn3 ⊢
  have hx03 := (hx1.trans hx2).trans hx3
  have hb3 := (hb1.keep hx2).keep hx3
  have hc3 := hc2.keep hx3
  have hp3 := hp.keep hx03
  have e0 : ((0 : Int) != 0) = false := rfl
  try simp only [go_sem, ruB, hb3.at_, hc3.at_, hp3.one]
  refine gC.of (wWhy_spec (p := p) (w := w) ⟨pv, rfl, hp3⟩ hL) ?_
  rintro _ m4 ⟨rfl, hx4⟩
  have hb4 := hb3.keep hx4
  have hc4 := hc3.keep hx4
  have hd4 := hd3.keep hx4
  have hp4 := hp3.keep hx4
  have hx04 := hx03.trans hx4
  have n1 := hx1.next
  have n2 := hx2.next
  have n3 := hx3.next
  by_cases gf : whyF p w = 0
  rotate_left
  · have e2 : (whyF p w != 0) = true := by rw [bne_iff_ne]; exact gf
    have hw : whyW p w = whyF p w := by unfold whyW; rw [if_pos gf]
    try simp only [go_sem, ruB, e2, hd4.at_]
    exact ⟨hx04.set (by omega), .inl ⟨by rw [hw]; exact gf, by rw [hw]⟩⟩
  have e2 : (whyF p w != 0) = false := by rw [bne_eq_false_iff_eq]; exact gf
  obtain ⟨hR, gc, gu, ga, gs⟩ := whyF_0 gf
  have hPR := hR.pr hL
  have f2 := hR.1
  have f64 := hR.2.1
  have hk := (chkA_ok gc).w w (by simp)
  try simp only [go_sem, ruB, e2, hb4.at_, hp4.one]
  refine gC.of (begin_spec (p := p) ⟨pv, rfl, hp4⟩ hL hPR) ?_
  rintro _ m5 ⟨bl, csV, gV, rV, rfl, hB⟩
  have hc5 := hc4.keep hB.x
  have hd5 := hd4.keep hB.x
  have hlg := hB.lg (by omega) hPR
  have ef : ((p.frame.toNat : Nat) : Int) = p.frame := by omega
  try simp only [go_sem, ruB, hc5.at_]
  refine gC.of (most_spec (fr := 0) (lim := w.2) hlg.lm hcl (by omega) (fun i hi => roomP_le hPR) (by omega)) ?_
  rintro _ m6 ⟨hx6, N, rfl, hM⟩
  obtain ⟨k1, k2, k3⟩ := most_lst (p := p) (gs := gapH p) (gm := gapH p) (rs := fun c => roomP p (c : Nat)) (f := p.frame.toNat) (by omega) (fun c s _ => ⟨fun q => ⟨by omega, q⟩, fun q => q.2⟩) (fun c s q => gapH_lt f2 f64 q) (fun c _ hh => gapH_0 hh) (fun c _ hh => roomP_0 hh) hM
  have hc6 := hc5.keep hx6
  have hd6 := hd5.keep hx6
  have hlg6 := hlg.keep hx6
  have w6 := hx6.same _ hc5.lt
  have hx46 := hB.x.trans hx6
  have hx06 := hx04.trans hx46
  by_cases gm : N < w.2
  · have e3 : decide (N < w.2) = true := decide_eq_true gm
    have hw : whyW p w = 12 := by unfold whyW; rw [if_neg (by simpa using gf)]; unfold plL; rw [if_pos (by omega)]
    try simp only [go_sem, ruB, watch_one, watch_nil, blk_ptr, w6, hc6.at_, e3, hd6.at_]
    exact ⟨hx06.set (by omega), .inl ⟨by rw [hw]; decide, by rw [hw]⟩⟩
  have e3 : decide (N < w.2) = false := decide_eq_false gm
  have hw : whyW p w = 0 := by unfold whyW; rw [if_neg (by simpa using gf)]; unfold plL; rw [if_neg (by omega)]
  have lo6 := hlg6.lo.at_
  have cl6 := hlg6.cl
  simp only [intV] at lo6 cl6
  try simp only [go_sem, ruB, watch_one, watch_nil, blk_ptr, w6, hc6.at_, e3, lo6, cl6]
  refine Got.of (make_eq (n := (csP p 16).length) (by omega) (by omega) rfl rfl) ?_
  rw [zerosW]
  have hx7 : Ext m6 (m6.new (.cells (rgC (csP p 16).length fun _ => u64 0#64) (some 1))) := Ext.new
  have hO7 : Own m6 (m6.new (.cells (rgC (csP p 16).length fun _ => u64 0#64) (some 1))) 1 (csP p 16).length (rgC (csP p 16).length fun _ => u64 0#64) (.slice (some ⟨m6.next, 0, none⟩) (csP p 16).length (csP p 16).length) := by
    refine .at (all := rgC (csP p 16).length fun _ => u64 0#64) (Nat.le_refl _) (by simp [Mem.new]) (Nat.le_refl _) (by simp [Mem.new]) (by simp [rgC]) ?_ (rgC_oneW (g := fun _ => 0#64))
    rw [List.take_of_length_le (by simp [rgC])]
  have n7 : m6.next < (m6.new (.cells (rgC (csP p 16).length fun _ => u64 0#64) (some 1))).next := by simp [Mem.new]
  simp only []
  generalize m6.new (.cells (rgC (csP p 16).length fun _ => u64 0#64) (some 1)) = m7 at hx7 hO7 n7 ⊢
  have hgb : ∀ x ∈ vb (.slice (some ⟨m6.next, 0, none⟩) (csP p 16).length (csP p 16).length), x = m6.next := fun x hx => by simpa [vb] using hx
  generalize (Value.slice (some ⟨m6.next, 0, none⟩) (csP p 16).length (csP p 16).length) = gvV at hO7 hgb ⊢
  have hc7 := hc6.keep hx7
  have hd7 := hd6.keep hx7
  have hlg7 := hlg6.keep hx7
  have n46 := hx46.next
  have n56 := hx6.next
  have lbl := hB.lo.lt
  have lG := SlLt.vb_iff.1 hB.go.lt
  have lR := SlLt.vb_iff.1 hB.ro.lt
  have gR := hB.ro.ge
  have lC := SlLt.vb_iff.1 hB.co.lt
  have l3 := hc4.lt
  have l4 := hd4.lt
  have s7 : Sl m7 1 (csP p 16).length (ints (csP p 16)) csV := (hB.co.sl.keep hB.co.lt hx6).keep (hB.co.lt.keep hx6) hx7
  have t7 : SlLt m7 csV := (hB.co.lt.keep hx6).keep hx7
  try simp only [go_sem, ruB, hc7.at_]
  refine WL.mono (ticks_loop (mE := m4) (s := plS0 p w.2) (gvV := gvV) hlg7 f2 f64 (by show w.2 ≤ 64; omega) (hO7.rebase (m1 := m4) (by omega)) (fun x hx => ?_)) ?_
  · rw [hgb x hx]
    exact ⟨by omega, fun hm => by have := lG _ hm; omega, fun hm => by have := lR _ hm; omega⟩
  rintro _ _ m8 ⟨rfl, ⟨rs, rfl⟩, hU8, hlg8, hO8⟩
  have off : ∀ x, x < m4.next → x ∉ vb rV ++ vb gvV := fun x hx hm => by
    rcases List.mem_append.1 hm with hm | hm
    · have := gR x hm; omega
    · have := hgb x hm; omega
  have hc8 := hc7.upd hU8 (off _ l3)
  have hd8 := hd7.upd hU8 (off _ l4)
  have s8 : Sl m8 1 (csP p 16).length (ints (csP p 16)) csV := s7.upd t7 (SlOff.vb_iff.2 fun x hx hm => by
    rcases List.mem_append.1 hm with hm | hm
    · first | exact hB.d2.2 x hm hx | exact hB.d2.2 x hx hm
    · first | (have := hgb x hm; have := lC x hx; omega) | (have := hgb x hx; have := lC x hm; omega)) hU8
  have t8 := t7.upd hU8
  have lo8 := hlg8.lo.at_
  have cl8 := hlg8.cl
  simp only [intV] at lo8 cl8
  have n8 := hU8.next
  have n67 := hx7.next
  have kf : fillL [.int .i64 0, .int .i64 0, .int .i64 0, .slice none 0 0] [(0, 1, .int .i64 w.1), (1, 1, .int .i64 w.2)] = some [.int .i64 w.1, .int .i64 w.2, .int .i64 0, .slice none 0 0] := rfl
  simp only [pt]
  try simp only [go_sem, ruB, hc8.at_, ↓kf]
  have hx9 : Ext m8 (m8.new (.cells [.int .i64 w.1, .int .i64 w.2, .int .i64 0, .slice none 0 0] (some 4))) := Ext.new
  have hb9 : Bk (m8.new (.cells [.int .i64 w.1, .int .i64 w.2, .int .i64 0, .slice none 0 0] (some 4))) m8.next [.int .i64 w.1, .int .i64 w.2, .int .i64 0, .slice none 0 0] 4 := Bk.new
  have hn9 : (m8.new (.cells [.int .i64 w.1, .int .i64 w.2, .int .i64 0, .slice none 0 0] (some 4))).next = m8.next + 1 := rfl
  generalize m8.new (.cells [.int .i64 w.1, .int .i64 w.2, .int .i64 0, .slice none 0 0] (some 4)) = m9 at hx9 hb9 hn9 ⊢
  have hd9 := hd8.keep hx9
  have lo9 := (hlg8.keep hx9).lo.at_
  simp only [intV] at lo9
  have lb9 := hb9.lt
  have bl8 := hlg8.lo.lt
  have ne9 : (m8.next = bl) = False := eq_false (by omega)
  have ne9' : (bl = m8.next) = False := eq_false (by omega)
  try simp only [go_sem, ruB, lo8, lo9, cl8, ne9, ne9']
  refine WL.mono (pieces_loop (m0 := m8) (bt := m8.next) (gv := (plRun (gapH p) (plS0 p w.2) p.frame.toNat).gv) (w := w) s8 t8 hO8.sl hO8.lt ⟨hb9, Nat.le_refl _, .nil rfl rfl, by simp [vb], hx9⟩) ?_
  rintro _ _ m10 ⟨rfl, ⟨c, rs', rfl⟩, pv', hP⟩
  have hd10 := hd8.keep hP.x
  have bk10 := hP.bk
  have oP := hP.o
  have gP := oP.ge
  obtain ⟨xa, xn, xc, rfl⟩ := slice_own oP
  have oneP := oP.sl.one
  have l42 := hd8.lt
  have hd3l := hd3.lt
  have ne10 : (m2.next = m8.next) = False := eq_false (by omega)
  simp only [pt]
  try simp only [go_sem, ruB, bk10.at_, hd10.at_, ne10, oneP]
  have n04 := hx04.next
  have X8 : Ext m m8 := hU8.ext_of (hx06.trans hx7) fun x hx => by
    rcases List.mem_append.1 hx with hx | hx
    · have := gR x hx; omega
    · have := hgb x hx; omega
  have hU11 : Upd m10 (m10.set m2.next (some (.cells [.int .i64 w.1, .int .i64 w.2, .int .i64 0, .slice xa xn xc] (some 4)))) [m2.next] := Upd.set (by simp)
  have nop : ∀ x ∈ vb (.slice xa xn xc), x ∉ [m2.next] := fun x hx hm => by
    rw [List.mem_singleton] at hm
    have := gP x hx; omega
  have o11 := oP.updq hU11 nop
  exact ⟨(X8.trans hP.x).set (by omega), .inr ⟨hw, _, rfl, .slice xa xn xc, rfl, o11.sl, o11.lt⟩⟩
end Go.Am


/- Weave: the document's First and Why, walked. -/
set_option linter.unusedVariables false
set_option linter.unusedSimpArgs false
namespace Go.Am
open Classical
variable {m : Mem}

theorem frW_0 {p : PlanD} : (fun c => frW (gapH p c) 0) = gapH p := by
  funext c
  refine word_ext fun s hs => ?_
  rw [Bool.eq_iff_iff, frW_bit hs]
  exact ⟨fun q => q.2, fun q => ⟨by omega, q⟩⟩
end Go.Am


/- Weave: the document's Place: its ticks, walked. -/
set_option linter.unusedVariables false
set_option linter.unusedSimpArgs false
namespace Go.Am
open Classical
variable {m : Mem}

structure RgV (mE m : Mem) (p : PlanD) (gV rV gvV : Value) (s : PlS) : Prop where
  g : Sl m 1 16 (rgC 16 fun c => u64 (gapH p c)) gV
  gl : SlLt m gV
  ro : Own mE m 1 16 (rgC 16 fun c => intV (s.rm c)) rV
  go : Own mE m 1 16 (rgC 16 fun c => u64 (s.gv c)) gvV
  d1 : ∀ x ∈ vb gV, x ∉ vb rV ∧ x ∉ vb gvV
  d2 : ∀ x ∈ vb rV, x ∉ vb gvV
  ok : (∀ c, 0 ≤ s.rm c ∧ s.rm c ≤ 64) ∧ ∀ c, ¬ hasC p (c : Nat) = true → s.rm c = 0
theorem RgV.keep {mE m m' : Mem} {p : PlanD} {gV rV gvV : Value} {s : PlS} (h : RgV mE m p gV rV gvV s) (hx : Ext m m') : RgV mE m' p gV rV gvV s := ⟨h.g.keep h.gl hx, h.gl.keep hx, h.ro.keep hx, h.go.keep hx, h.d1, h.d2, h.ok⟩
end Go.Am


/- Weave: the document's Place, walked. -/
set_option linter.unusedVariables false
set_option linter.unusedSimpArgs false
namespace Go.Am
open Classical
variable {m : Mem}

end Go.Am


/- Weave: the document's Place, whole. -/
set_option linter.unusedVariables false
set_option linter.unusedSimpArgs false
namespace Go.Am
open Classical
variable {m : Mem}

theorem fstN_spec {P : Nat → Prop} {c : Nat} (h : fstN P = some c) : P c ∧ ∀ c', c' < c → ¬ P c' := by
  unfold fstN at h
  split at h
  · rename_i hex
    have := Option.some.inj h
    rw [← this]; exact hex.choose_spec
  · cases h
theorem plStep_cases (G : Nat → BitVec 64) (t : Nat) (s : PlS) : plStep G t s = s ∨ ∃ c, 0 < s.lack ∧ okG G s.rm t s.lack c ∧ plStep G t s = ⟨fup s.rm c (s.rm c - 1), fup s.gv c (withB (s.gv c) (t : Nat)), s.lack - 1⟩ := by
  unfold plStep
  by_cases h : 0 < s.lack
  · rw [if_pos h]
    cases e : fstN (okG G s.rm t s.lack) with
    | none => exact .inl rfl
    | some c => exact .inr ⟨c, h, (fstN_spec e).1, rfl⟩
  · rw [if_neg h]; exact .inl rfl
theorem plRun_ok {p : PlanD} {G : Nat → BitVec 64} {s : PlS} (h1 : ∀ c, ¬ hasC p (c : Nat) = true → s.rm c = 0) (h2 : ∀ c, ¬ hasC p (c : Nat) = true → s.gv c = 0#64) : ∀ t, (∀ c, ¬ hasC p (c : Nat) = true → (plRun G s t).rm c = 0) ∧ ∀ c, ¬ hasC p (c : Nat) = true → (plRun G s t).gv c = 0#64
  | 0 => ⟨h1, h2⟩
  | t + 1 => by
    obtain ⟨i1, i2⟩ := plRun_ok (G := G) h1 h2 t
    rcases plStep_cases G t (plRun G s t) with e | ⟨c, -, c2, e⟩
    · show (∀ c, _ → (plStep G t (plRun G s t)).rm c = 0) ∧ ∀ c, _ → (plStep G t (plRun G s t)).gv c = 0#64
      rw [e]; exact ⟨i1, i2⟩
    · show (∀ c, _ → (plStep G t (plRun G s t)).rm c = 0) ∧ ∀ c, _ → (plStep G t (plRun G s t)).gv c = 0#64
      rw [e]
      have hh : ∀ c', ¬ hasC p (c' : Nat) = true → c' ≠ c := fun c' q e' => c2.1 (by rw [← e']; exact i1 c' q)
      exact ⟨fun c' q => by show fup _ _ _ c' = 0; rw [fup_ne (hh c' q)]; exact i1 c' q, fun c' q => by show fup _ _ _ c' = 0#64; rw [fup_ne (hh c' q)]; exact i2 c' q⟩
end Go.Am


/- Weave, in plain Lean: the greedy way keeps enough. -/
set_option linter.unusedVariables false
set_option linter.unusedSimpArgs false
namespace Go.Am
open Classical

/-- A cut from a tick on. -/
noncomputable def cutT (G : Nat → BitVec 64) (rm : Nat → Int) (t : Nat) (X : Nat → Prop) : Int :=
  S (fun s => if t ≤ s ∧ ∃ c, c < 16 ∧ X c ∧ (G c).getLsbD s = true then 1 else 0) 64 + S (fun c => if X c then 0 else rm c) 16
theorem cutT_cut {G : Nat → BitVec 64} {rm : Nat → Int} {t : Nat} {X : Nat → Prop} : cutB (fun c => frW (G c) t) rm X 16 0 0#64 0 = cutT G rm t X := by
  rw [cutB_eq]
  unfold cutT
  have h1 : S (fun s => if (0#64).getLsbD s = true ∨ ∃ c, 0 ≤ c ∧ c < 0 + 16 ∧ X c ∧ (frW (G c) t).getLsbD s = true then (1 : Int) else 0) 64 = S (fun s => if t ≤ s ∧ ∃ c, c < 16 ∧ X c ∧ (G c).getLsbD s = true then (1 : Int) else 0) 64 := S_congr fun s hs => by
    have : ((0#64).getLsbD s = true ∨ ∃ c, 0 ≤ c ∧ c < 0 + 16 ∧ X c ∧ (frW (G c) t).getLsbD s = true) ↔ (t ≤ s ∧ ∃ c, c < 16 ∧ X c ∧ (G c).getLsbD s = true) := by
      constructor
      · rintro (q | ⟨c, -, q2, q3, q4⟩)
        · simp at q
        · obtain ⟨a, b⟩ := (frW_bit hs).1 q4
          exact ⟨a, c, by omega, q3, b⟩
      · rintro ⟨a, c, q2, q3, q4⟩
        exact .inr ⟨c, by omega, by omega, q3, (frW_bit hs).2 ⟨a, q4⟩⟩
    by_cases e : t ≤ s ∧ ∃ c, c < 16 ∧ X c ∧ (G c).getLsbD s = true
    · rw [if_pos (this.2 e), if_pos e]
    · rw [if_neg e, if_neg fun q => e (this.1 q)]
  rw [h1]
  simp only [Nat.zero_add]; omega
noncomputable def lT (G : Nat → BitVec 64) (rm : Nat → Int) (t : Nat) : Int := lstN (fun c => frW (G c) t) rm 16 0 0#64 0
theorem lT_le {G : Nat → BitVec 64} {rm : Nat → Int} {t : Nat} (X : Nat → Prop) : lT G rm t ≤ cutT G rm t X := by rw [← cutT_cut]; exact lst_le X
theorem lT_eq {G : Nat → BitVec 64} {rm : Nat → Int} {t : Nat} : ∃ X, lT G rm t = cutT G rm t X := by
  obtain ⟨X, h⟩ := @lst_eq (fun c => frW (G c) t) rm 16 0 0#64 0
  exact ⟨X, by rw [← cutT_cut]; exact h⟩
theorem least_nat {P : Nat → Prop} (h : ∃ n, P n) : ∃ n, P n ∧ ∀ k, k < n → ¬ P k := by
  obtain ⟨n, hn⟩ := h
  induction n using Nat.strongRecOn with
  | _ n ih =>
    by_cases g : ∃ k, k < n ∧ P k
    · obtain ⟨k, k1, k2⟩ := g; exact ih k k1 k2
    · exact ⟨n, hn, fun k hk q => g ⟨k, hk, q⟩⟩
theorem cutT_sub {G : Nat → BitVec 64} {rm : Nat → Int} {t : Nat} {X Y A O : Nat → Prop} (hA : ∀ c, A c ↔ X c ∧ Y c) (hO : ∀ c, O c ↔ X c ∨ Y c) : cutT G rm t A + cutT G rm t O ≤ cutT G rm t X + cutT G rm t Y := by
  have h1 : S (fun s => (if t ≤ s ∧ ∃ c, c < 16 ∧ A c ∧ (G c).getLsbD s = true then (1 : Int) else 0) + if t ≤ s ∧ ∃ c, c < 16 ∧ O c ∧ (G c).getLsbD s = true then (1 : Int) else 0) 64 ≤ S (fun s => (if t ≤ s ∧ ∃ c, c < 16 ∧ X c ∧ (G c).getLsbD s = true then (1 : Int) else 0) + if t ≤ s ∧ ∃ c, c < 16 ∧ Y c ∧ (G c).getLsbD s = true then (1 : Int) else 0) 64 := S_le fun s _ => by
    by_cases pA : t ≤ s ∧ ∃ c, c < 16 ∧ A c ∧ (G c).getLsbD s = true
    · obtain ⟨a, c, c1, c2, c3⟩ := pA
      have pX : t ≤ s ∧ ∃ c, c < 16 ∧ X c ∧ (G c).getLsbD s = true := ⟨a, c, c1, ((hA c).1 c2).1, c3⟩
      have pY : t ≤ s ∧ ∃ c, c < 16 ∧ Y c ∧ (G c).getLsbD s = true := ⟨a, c, c1, ((hA c).1 c2).2, c3⟩
      rw [if_pos pX, if_pos pY]; split <;> split <;> omega
    · rw [if_neg pA]
      by_cases pO : t ≤ s ∧ ∃ c, c < 16 ∧ O c ∧ (G c).getLsbD s = true
      · obtain ⟨a, c, c1, c2, c3⟩ := pO
        rcases (hO c).1 c2 with q | q
        · have pX : t ≤ s ∧ ∃ c, c < 16 ∧ X c ∧ (G c).getLsbD s = true := ⟨a, c, c1, q, c3⟩
          rw [if_pos pX]; split <;> split <;> omega
        · have pY : t ≤ s ∧ ∃ c, c < 16 ∧ Y c ∧ (G c).getLsbD s = true := ⟨a, c, c1, q, c3⟩
          rw [if_pos pY]; split <;> split <;> omega
      · rw [if_neg pO]; split <;> split <;> omega
  have h2 : S (fun c => (if A c then 0 else rm c) + if O c then 0 else rm c) 16 = S (fun c => (if X c then 0 else rm c) + if Y c then 0 else rm c) 16 := S_congr fun c _ => by
    have a := hA c
    have o := hO c
    by_cases x : X c <;> by_cases y : Y c
    · rw [if_pos (a.2 ⟨x, y⟩), if_pos (o.2 (.inl x)), if_pos x, if_pos y]
    · rw [if_neg fun q => y (a.1 q).2, if_pos (o.2 (.inl x)), if_pos x, if_neg y]; omega
    · rw [if_neg fun q => x (a.1 q).1, if_pos (o.2 (.inr y)), if_neg x, if_pos y]
    · rw [if_neg fun q => x (a.1 q).1, if_neg fun q => (o.1 q).elim x y, if_neg x, if_neg y]
  rw [S_add, S_add] at h1 h2
  unfold cutT
  omega
noncomputable def szX (X : Nat → Prop) : Int := S (fun c => if X c then 1 else 0) 16
theorem szX_nonneg {X : Nat → Prop} : 0 ≤ szX X := by
  have : S (fun _ => (0 : Int)) 16 ≤ szX X := S_le fun s _ => by split <;> omega
  rw [S_zero] at this; exact this
theorem szX_lt {X Y : Nat → Prop} (h : ∀ c, Y c → X c) {c : Nat} (hc : c < 16) (h1 : X c) (h2 : ¬ Y c) : szX Y + 1 ≤ szX X := by
  have one : S (fun k => if k = c then (1 : Int) else 0) 16 = 1 := S_one hc
  have : S (fun k => (if Y k then (1 : Int) else 0) + if k = c then 1 else 0) 16 ≤ szX X := S_le fun k _ => by
    by_cases e : k = c
    · subst e; rw [if_neg h2, if_pos rfl, if_pos h1]; omega
    · rw [if_neg e]
      by_cases y : Y k
      · rw [if_pos y, if_pos (h k y)]; omega
      · rw [if_neg y]; split <;> omega
  rw [S_add, one] at this
  exact this
/-- The smallest set that cuts least. -/
theorem min_set (G : Nat → BitVec 64) (rm : Nat → Int) (t : Nat) : ∃ X, cutT G rm t X = lT G rm t ∧ ∀ Y, cutT G rm t Y = lT G rm t → ∀ c, c < 16 → X c → Y c := by
  obtain ⟨X1, hX1⟩ := @lT_eq G rm t
  obtain ⟨n, ⟨X, x1, x2⟩, hn⟩ := least_nat (P := fun n => ∃ X, cutT G rm t X = lT G rm t ∧ szX X = (n : Int)) ⟨(szX X1).toNat, X1, hX1.symm, by have := @szX_nonneg X1; omega⟩
  refine ⟨X, x1, fun Y hY c hc hx => ?_⟩
  by_cases g : Y c
  · exact g
  · exfalso
    obtain ⟨A, hA⟩ : ∃ A : Nat → Prop, ∀ c, A c ↔ X c ∧ Y c := ⟨fun c => X c ∧ Y c, fun _ => Iff.rfl⟩
    obtain ⟨O, hO⟩ : ∃ O : Nat → Prop, ∀ c, O c ↔ X c ∨ Y c := ⟨fun c => X c ∨ Y c, fun _ => Iff.rfl⟩
    have h1 := cutT_sub (G := G) (rm := rm) (t := t) hA hO
    have h2 := @lT_le G rm t A
    have h3 := @lT_le G rm t O
    have h4 := szX_lt (X := X) (Y := A) (fun c q => ((hA c).1 q).1) hc hx (fun q => g ((hA c).1 q).2)
    have h5 := @szX_nonneg A
    exact hn (szX A).toNat (by omega) ⟨A, by omega, by omega⟩
/-- If no core may have the tick, enough is left behind it. -/
theorem keep_lack {G : Nat → BitVec 64} {rm : Nat → Int} {t : Nat} {k : Int} (ht : t < 64) (h0 : ∀ c, 0 ≤ rm c) (h : k ≤ lT G rm t) (hno : ∀ c, c < 16 → rm c ≠ 0 → (G c).getLsbD t = true → lT G (fup rm c (rm c - 1)) (t + 1) < k - 1) : k ≤ lT G rm (t + 1) := by
  by_cases g : k ≤ lT G rm (t + 1)
  · exact g
  · exfalso
    obtain ⟨X, x1, x2⟩ := min_set G rm (t + 1)
    have hX := @lT_le G rm t X
    have step : ∀ Y, cutT G rm t Y = cutT G rm (t + 1) Y + if ∃ c, c < 16 ∧ Y c ∧ (G c).getLsbD t = true then 1 else 0 := fun Y => by
      have one : S (fun s => if s = t then (if ∃ c, c < 16 ∧ Y c ∧ (G c).getLsbD t = true then (1 : Int) else 0) else 0) 64 = if ∃ c, c < 16 ∧ Y c ∧ (G c).getLsbD t = true then 1 else 0 := S_one ht
      have e : S (fun s => if t ≤ s ∧ ∃ c, c < 16 ∧ Y c ∧ (G c).getLsbD s = true then (1 : Int) else 0) 64 = S (fun s => (if t + 1 ≤ s ∧ ∃ c, c < 16 ∧ Y c ∧ (G c).getLsbD s = true then (1 : Int) else 0) + if s = t then (if ∃ c, c < 16 ∧ Y c ∧ (G c).getLsbD t = true then (1 : Int) else 0) else 0) 64 := S_congr fun s _ => by
        by_cases q : s = t
        · subst q
          have n1 : ¬ (s + 1 ≤ s ∧ ∃ c, c < 16 ∧ Y c ∧ (G c).getLsbD s = true) := fun z => by have := z.1; omega
          by_cases z : ∃ c, c < 16 ∧ Y c ∧ (G c).getLsbD s = true
          · rw [if_pos ⟨Nat.le_refl _, z⟩, if_neg n1, if_pos rfl, if_pos z]; rfl
          · rw [if_neg fun y => z y.2, if_neg n1, if_pos rfl, if_neg z]; rfl
        · rw [if_neg q]
          by_cases z : t ≤ s ∧ ∃ c, c < 16 ∧ Y c ∧ (G c).getLsbD s = true
          · rw [if_pos z, if_pos ⟨by omega, z.2⟩]; rfl
          · rw [if_neg z, if_neg fun y => z ⟨by omega, y.2⟩]; rfl
      unfold cutT
      rw [e, S_add, one]; omega
    have hs := step X
    by_cases hc : ∃ c, c < 16 ∧ X c ∧ (G c).getLsbD t = true
    · obtain ⟨c, c1, c2, c3⟩ := hc
      rw [if_pos ⟨c, c1, c2, c3⟩] at hs
      by_cases r0 : rm c = 0
      · obtain ⟨Y, hY⟩ : ∃ Y : Nat → Prop, ∀ k, Y k ↔ X k ∧ k ≠ c := ⟨fun k => X k ∧ k ≠ c, fun _ => Iff.rfl⟩
        have le : cutT G rm (t + 1) Y ≤ cutT G rm (t + 1) X := by
          have a : S (fun s => if t + 1 ≤ s ∧ ∃ c, c < 16 ∧ Y c ∧ (G c).getLsbD s = true then (1 : Int) else 0) 64 ≤ S (fun s => if t + 1 ≤ s ∧ ∃ c, c < 16 ∧ X c ∧ (G c).getLsbD s = true then (1 : Int) else 0) 64 := S_le fun s _ => by
            by_cases z : t + 1 ≤ s ∧ ∃ c, c < 16 ∧ Y c ∧ (G c).getLsbD s = true
            · obtain ⟨z1, d, d1, d2, d3⟩ := z
              rw [if_pos ⟨z1, d, d1, d2, d3⟩, if_pos ⟨z1, d, d1, ((hY d).1 d2).1, d3⟩]; exact Int.le_refl _
            · rw [if_neg z]; split <;> omega
          have b : S (fun k => if Y k then 0 else rm k) 16 = S (fun k => if X k then 0 else rm k) 16 := S_congr fun k _ => by
            by_cases e : k = c
            · subst e; rw [if_neg fun q => ((hY k).1 q).2 rfl, r0]; split <;> rfl
            · by_cases x : X k
              · rw [if_pos ((hY k).2 ⟨x, e⟩), if_pos x]
              · rw [if_neg fun q => x ((hY k).1 q).1, if_neg x]
          unfold cutT; omega
        have := @lT_le G rm (t + 1) Y
        exact ((hY c).1 (x2 Y (by omega) c c1 c2)).2 rfl
      · have hlt := hno c c1 r0 c3
        obtain ⟨Y, hY⟩ := @lT_eq G (fup rm c (rm c - 1)) (t + 1)
        have dec : cutT G (fup rm c (rm c - 1)) (t + 1) Y = cutT G rm (t + 1) Y - if Y c then 0 else 1 := by
          have one : S (fun k => if k = c then (if Y c then (0 : Int) else 1) else 0) 16 = if Y c then 0 else 1 := S_one c1
          have e : S (fun k => if Y k then 0 else fup rm c (rm c - 1) k) 16 = S (fun k => (if Y k then 0 else rm k) - if k = c then (if Y c then (0 : Int) else 1) else 0) 16 := S_congr fun k _ => by
            by_cases e : k = c
            · subst e; rw [fup_at, if_pos rfl]; split <;> omega
            · rw [fup_ne e, if_neg e]; omega
          unfold cutT
          rw [e, S_sub, one]; omega
        have hYl := @lT_le G rm (t + 1) Y
        by_cases y : Y c
        · rw [if_pos y] at dec; omega
        · rw [if_neg y] at dec
          exact y (x2 Y (by omega) c c1 c2)
    · rw [if_neg hc] at hs; omega
end Go.Am


/- Weave, in plain Lean: all ticks are given. -/
set_option linter.unusedVariables false
set_option linter.unusedSimpArgs false
namespace Go.Am
open Classical

theorem fstN_all {P : Nat → Prop} (h : fstN P = none) : ∀ c, ¬ P c := fun c hc => by
  obtain ⟨n, h1, h2⟩ := least_nat ⟨c, hc⟩
  rw [fstN_some h1 h2] at h; cases h
theorem plStep_all (G : Nat → BitVec 64) (t : Nat) (s : PlS) : (¬ 0 < s.lack ∧ plStep G t s = s) ∨ (0 < s.lack ∧ (∀ c, ¬ okG G s.rm t s.lack c) ∧ plStep G t s = s) ∨ ∃ c, 0 < s.lack ∧ okG G s.rm t s.lack c ∧ plStep G t s = ⟨fup s.rm c (s.rm c - 1), fup s.gv c (withB (s.gv c) (t : Nat)), s.lack - 1⟩ := by
  by_cases h : 0 < s.lack
  · right
    cases e : fstN (okG G s.rm t s.lack) with
    | none => exact .inl ⟨h, fstN_all e, by unfold plStep; rw [if_pos h, e]⟩
    | some c => exact .inr ⟨c, h, (fstN_spec e).1, by unfold plStep; rw [if_pos h, e]⟩
  · exact .inl ⟨h, plStep_done h⟩
/-- What holds at each tick. -/
structure PlI (G : Nat → BitVec 64) (s0 s : PlS) (t : Nat) : Prop where
  r0 : ∀ c, 0 ≤ s.rm c
  l0 : 0 ≤ s.lack
  lk : s.lack = 0 ∨ s.lack ≤ lT G s.rm t
  bit : ∀ c k, k < 64 → (s.gv c).getLsbD k = true → k < t ∧ (G c).getLsbD k = true
  one : ∀ c d k, k < 64 → (s.gv c).getLsbD k = true → (s.gv d).getLsbD k = true → c = d
  cnt : ∀ c, s.rm c + S (fun k => if (s.gv c).getLsbD k = true then 1 else 0) 64 = s0.rm c
  tot : s.lack + S (fun k => if ∃ c, (s.gv c).getLsbD k = true then 1 else 0) 64 = s0.lack
  hs : ∀ c, s.gv c ≠ 0#64 → s0.rm c ≠ 0
theorem PlI.start {G : Nat → BitVec 64} {s : PlS} (h0 : ∀ c, 0 ≤ s.rm c) (h1 : 0 ≤ s.lack) (h2 : s.lack ≤ lT G s.rm 0) (h3 : ∀ c, s.gv c = 0#64) : PlI G s s 0 := by
  have z : ∀ c k, ¬ (s.gv c).getLsbD k = true := fun c k => by rw [h3]; simp
  refine ⟨h0, h1, .inr h2, fun c k _ h => absurd h (z c k), fun c d k _ h => absurd h (z c k), fun c => ?_, ?_, fun c h => absurd (h3 c) h⟩
  · rw [S_congr (g := fun _ => 0) (fun k _ => if_neg (z c k)), S_zero]; omega
  · rw [S_congr (g := fun _ => 0) (fun k _ => if_neg fun ⟨c, hc⟩ => z c k hc), S_zero]; omega
theorem PlI.step {G : Nat → BitVec 64} {s0 s : PlS} {t : Nat} (h : PlI G s0 s t) (ht : t < 64) : PlI G s0 (plStep G t s) (t + 1) := by
  have up : ∀ c k, k < 64 → (s.gv c).getLsbD k = true → k < t + 1 ∧ (G c).getLsbD k = true := fun c k hk hb => by
    have := h.bit c k hk hb
    exact ⟨by omega, this.2⟩
  rcases plStep_all G t s with ⟨g, e⟩ | ⟨g, hno, e⟩ | ⟨c, g, hok, e⟩
  · rw [e]
    exact ⟨h.r0, h.l0, .inl (by have := h.l0; omega), up, h.one, h.cnt, h.tot, h.hs⟩
  · rw [e]
    refine ⟨h.r0, h.l0, .inr ?_, up, h.one, h.cnt, h.tot, h.hs⟩
    have hl := h.lk.resolve_left (by omega)
    refine keep_lack ht h.r0 hl fun c _ r0 gb => ?_
    by_cases q : lT G (fup s.rm c (s.rm c - 1)) (t + 1) < s.lack - 1
    · exact q
    · exact absurd ⟨r0, gb, by unfold lT at q; omega⟩ (hno c)
  · rw [e]
    have rc := h.r0 c
    have r0 := hok.1
    have nb : ∀ d, (s.gv d).getLsbD t = false := fun d => by
      cases q : (s.gv d).getLsbD t with
      | false => rfl
      | true => have := (h.bit d t ht q).1; omega
    have bits : ∀ d k, k < 64 → ((fup s.gv c (withB (s.gv c) (t : Nat)) d).getLsbD k = true ↔ (s.gv d).getLsbD k = true ∨ (d = c ∧ k = t)) := fun d k hk => by
      by_cases q : d = c
      · subst q
        rw [fup_at, withB_bit hk, Bool.or_eq_true, decide_eq_true_eq]
        constructor
        · exact fun z => z.imp id fun z => ⟨rfl, by omega⟩
        · exact fun z => z.imp id fun z => by have := z.2; omega
      · rw [fup_ne q]
        exact ⟨.inl, fun z => z.resolve_right fun z => q z.1⟩
    have one1 : S (fun k => if k = t then (1 : Int) else 0) 64 = 1 := S_one ht
    refine ⟨fun d => ?_, by show 0 ≤ s.lack - 1; omega, .inr hok.2.2, fun d k hk hb => ?_, fun d d' k hk hb hb' => ?_, fun d => ?_, ?_, fun d hd => ?_⟩
    · show 0 ≤ fup s.rm c (s.rm c - 1) d
      by_cases q : d = c
      · rw [q, fup_at]; omega
      · rw [fup_ne q]; exact h.r0 d
    · rcases (bits d k hk).1 hb with q | ⟨q1, q2⟩
      · exact up d k hk q
      · subst q1 q2; exact ⟨by omega, hok.2.1⟩
    · rcases (bits d k hk).1 hb with q | ⟨q1, q2⟩
      · rcases (bits d' k hk).1 hb' with q' | ⟨q1', q2'⟩
        · exact h.one d d' k hk q q'
        · subst q2'; rw [nb d] at q; cases q
      · rcases (bits d' k hk).1 hb' with q' | ⟨q1', q2'⟩
        · subst q2; rw [nb d'] at q'; cases q'
        · rw [q1, q1']
    · show fup s.rm c (s.rm c - 1) d + S (fun k => if (fup s.gv c (withB (s.gv c) (t : Nat)) d).getLsbD k = true then (1 : Int) else 0) 64 = s0.rm d
      have hc := h.cnt d
      by_cases q : d = c
      · have e2 : S (fun k => if (fup s.gv c (withB (s.gv c) (t : Nat)) d).getLsbD k = true then (1 : Int) else 0) 64 = S (fun k => (if (s.gv d).getLsbD k = true then (1 : Int) else 0) + if k = t then 1 else 0) 64 := S_congr fun k hk => by
          by_cases z : k = t
          · subst z; rw [if_pos ((bits d k hk).2 (.inr ⟨q, rfl⟩)), if_neg (by rw [nb d]; simp), if_pos rfl]; rfl
          · rw [if_neg z]
            by_cases y : (s.gv d).getLsbD k = true
            · rw [if_pos ((bits d k hk).2 (.inl y)), if_pos y]; rfl
            · rw [if_neg fun w => ((bits d k hk).1 w).elim y fun w => z w.2, if_neg y]; rfl
        rw [e2, S_add, one1]
        subst q; rw [fup_at]; omega
      · rw [fup_ne q, fup_ne q]; exact hc
    · show s.lack - 1 + S (fun k => if ∃ d, (fup s.gv c (withB (s.gv c) (t : Nat)) d).getLsbD k = true then (1 : Int) else 0) 64 = s0.lack
      have e2 : S (fun k => if ∃ d, (fup s.gv c (withB (s.gv c) (t : Nat)) d).getLsbD k = true then (1 : Int) else 0) 64 = S (fun k => (if ∃ d, (s.gv d).getLsbD k = true then (1 : Int) else 0) + if k = t then 1 else 0) 64 := S_congr fun k hk => by
        by_cases z : k = t
        · subst z
          rw [if_pos ⟨c, (bits c k hk).2 (.inr ⟨rfl, rfl⟩)⟩, if_neg (fun ⟨d, w⟩ => absurd w (by rw [nb d]; simp)), if_pos rfl]; rfl
        · rw [if_neg z]
          by_cases y : ∃ d, (s.gv d).getLsbD k = true
          · obtain ⟨d, y⟩ := y
            rw [if_pos ⟨d, (bits d k hk).2 (.inl y)⟩, if_pos ⟨d, y⟩]; rfl
          · rw [if_neg fun ⟨d, w⟩ => ((bits d k hk).1 w).elim (fun w => y ⟨d, w⟩) fun w => z w.2, if_neg y]; rfl
      have ht' := h.tot
      rw [e2, S_add, one1]; omega
    · have hd' : fup s.gv c (withB (s.gv c) (t : Nat)) d ≠ 0#64 := hd
      by_cases q : d = c
      · subst q
        have hc := h.cnt d
        have nn : S (fun _ => (0 : Int)) 64 ≤ S (fun k => if (s.gv d).getLsbD k = true then (1 : Int) else 0) 64 := S_le fun k _ => by split <;> omega
        rw [S_zero] at nn
        omega
      · rw [fup_ne q] at hd'; exact h.hs d hd'
theorem PlI.run {G : Nat → BitVec 64} {s : PlS} (h : PlI G s s 0) : ∀ {t : Nat}, t ≤ 64 → PlI G s (plRun G s t) t
  | 0, _ => h
  | t + 1, ht => (PlI.run h (by omega)).step (by omega)
end Go.Am


/- WeavePlaces. -/
set_option linter.unusedVariables false
set_option linter.unusedSimpArgs false
namespace Go.Am
open Classical
variable {m : Mem}

def x0 : Pl := ⟨0, 0, 0, []⟩
theorem x0_v : PlV m x0 (.agg #[.int .i64 0, .int .i64 0, .int .i64 0, .slice none 0 0]) := ⟨.slice none 0 0, rfl, .nil rfl rfl, trivial⟩
theorem plPl_len {p : PlanD} {w : Wt} : (plPl p w).pieces.length < 1000000 := by
  have := @pcL_len (plRun (gapH p) (plS0 p w.2) p.frame.toNat).gv (csP p 16)
  have h2 := csP_len (p := p) (n := 16)
  show (pcL _ _).length < _
  omega
end Go.Am


/- Weave, in plain Lean: the place. -/
set_option linter.unusedVariables false
set_option linter.unusedSimpArgs false
namespace Go.Am
open Classical

/-- Behind all ticks. -/
theorem PlI.done {G : Nat → BitVec 64} {s0 s : PlS} {f : Nat} (h : PlI G s0 s f) (hf : f ≤ 64) (hG : ∀ c k, (G c).getLsbD k = true → k < f) : s.lack = 0 := by
  have h0 := h.l0
  rcases h.lk with q | q
  · exact q
  · obtain ⟨X, hX⟩ : ∃ X : Nat → Prop, ∀ c, X c := ⟨fun _ => True, fun _ => trivial⟩
    have h1 := @lT_le G s.rm f X
    have h2 : cutT G s.rm f X = 0 := by
      have a : S (fun s => if f ≤ s ∧ ∃ c, c < 16 ∧ X c ∧ (G c).getLsbD s = true then (1 : Int) else 0) 64 = S (fun _ => 0) 64 := S_congr fun k hk => if_neg (by
        rintro ⟨a, c, c1, c2, c3⟩
        have := hG c k c3; omega)
      have b : S (fun c => if X c then 0 else s.rm c) 16 = S (fun _ => 0) 16 := S_congr fun k _ => if_pos (hX k)
      unfold cutT
      rw [a, b, S_zero, S_zero]; rfl
    omega
theorem plI_all {p : PlanD} {w : Wt} (hL : PlanL p) (hR : RightP p) (hw : 1 ≤ w.2) (hp : w.2 ≤ plL p) : PlI (gapH p) (plS0 p w.2) (plRun (gapH p) (plS0 p w.2) p.frame.toNat) p.frame.toNat ∧ (plRun (gapH p) (plS0 p w.2) p.frame.toNat).lack = 0 := by
  have f2 := hR.1
  have f64 := hR.2.1
  have hPR := hR.pr hL
  have st : PlI (gapH p) (plS0 p w.2) (plS0 p w.2) 0 := PlI.start (fun c => (roomP_le hPR).1) (by show 0 ≤ w.2; omega) (by
    show w.2 ≤ lT (gapH p) (fun c => roomP p (c : Nat)) 0
    unfold lT; rw [frW_0]; exact hp) (fun _ => rfl)
  have := st.run (t := p.frame.toNat) (by omega)
  exact ⟨this, this.done (by omega) fun c k q => gapH_lt f2 f64 q⟩
/-- One core's ticks. -/
theorem atB_pc {c t : Nat} {y : Nat} {x : BitVec 64} : atB (c : Nat) (t : Nat) (((y : Nat) : Int), x) = (decide (y = c) && x.getLsbD t) := by
  unfold atB
  rw [inB_nat']
  have : decide (((c : Nat) : Int) < 0) = false := decide_eq_false (by omega)
  rw [this, Bool.false_or]
  congr 1
  exact decide_eq_decide.2 ⟨fun h => by have : ((y : Nat) : Int) = ((c : Nat) : Int) := h; omega, fun h => by show ((y : Nat) : Int) = ((c : Nat) : Int); omega⟩
theorem pcL_cnt {gv : Nat → BitVec 64} {l : List Nat} (hnd : l.Pairwise (· < ·)) {c t : Nat} : (pcL gv l).countP (atB (c : Nat) (t : Nat)) = if c ∈ l ∧ (gv c).getLsbD t = true then 1 else 0 := by
  induction l with
  | nil => simp [pcL]
  | cons a l ih =>
    rw [List.pairwise_cons] at hnd
    have e : pcL gv (a :: l) = (if gv a = 0#64 then [] else [(((a : Nat) : Int), gv a)]) ++ pcL gv l := by
      unfold pcL
      by_cases q : gv a = 0#64
      · simp [q]
      · simp [q]
    rw [e, List.countP_append, ih hnd.2]
    by_cases q : gv a = 0#64
    · rw [if_pos q]
      by_cases z : c = a
      · subst z; simp [q]
      · simp [z]
    · rw [if_neg q, List.countP_cons, atB_pc]
      by_cases z : c = a
      · subst z
        have nm : c ∉ l := fun hm => by have := hnd.1 c hm; omega
        by_cases y : (gv c).getLsbD t = true
        · simp [nm, y]
        · simp [nm, y]
      · have : (decide (a = c)) = false := decide_eq_false (fun k => z k.symm)
        simp [this, z]
end Go.Am


/- Weave, in plain Lean: the place is right. -/
set_option linter.unusedVariables false
set_option linter.unusedSimpArgs false
namespace Go.Am
open Classical

theorem pcL_cons {gv : Nat → BitVec 64} {a : Nat} {l : List Nat} : pcL gv (a :: l) = (if gv a = 0#64 then [] else [(((a : Nat) : Int), gv a)]) ++ pcL gv l := by
  unfold pcL
  by_cases q : gv a = 0#64
  · simp [q]
  · simp [q]
theorem pcL_mem {gv : Nat → BitVec 64} {l : List Nat} {y : Pc} (h : y ∈ pcL gv l) : ∃ c, c ∈ l ∧ gv c ≠ 0#64 ∧ y = (((c : Nat) : Int), gv c) := by
  unfold pcL at h
  obtain ⟨c, hc, rfl⟩ := List.mem_map.1 h
  obtain ⟨h1, h2⟩ := List.mem_filter.1 hc
  exact ⟨c, h1, of_decide_eq_true h2, rfl⟩
theorem pcL_asc {gv : Nat → BitVec 64} {l : List Nat} (h : l.Pairwise (· < ·)) : (pcL gv l).Pairwise fun a b => a.1 < b.1 := by
  unfold pcL
  rw [List.pairwise_map]
  exact (h.sublist List.filter_sublist).imp fun h => by show ((_ : Nat) : Int) < ((_ : Nat) : Int); omega
theorem pcL_all {gv : Nat → BitVec 64} {l : List Nat} (hnd : l.Pairwise (· < ·)) {t : Nat} (ht : t < 64) (ho : ∀ c d, (gv c).getLsbD t = true → (gv d).getLsbD t = true → c = d) : (pcL gv l).countP (atB (-1) (t : Nat)) = if ∃ c, c ∈ l ∧ (gv c).getLsbD t = true then 1 else 0 := by
  induction l with
  | nil => simp [pcL]
  | cons a l ih =>
    rw [List.pairwise_cons] at hnd
    have ih := ih hnd.2
    have sing : ∀ x : BitVec 64, atB (-1) (t : Nat) (((a : Nat) : Int), x) = x.getLsbD t := fun x => atB_all ht _
    rw [pcL_cons, List.countP_append, ih]
    by_cases y : (gv a).getLsbD t = true
    · have q : gv a ≠ 0#64 := fun e => by rw [e] at y; simp at y
      have nl : ¬ ∃ c, c ∈ l ∧ (gv c).getLsbD t = true := fun ⟨c, c1, c2⟩ => by
        have := ho a c y c2
        have := hnd.1 c c1
        omega
      rw [if_neg q, List.countP_cons, sing, if_pos y, if_neg nl, if_pos ⟨a, by simp, y⟩]; rfl
    · have e1 : (if gv a = 0#64 then [] else [(((a : Nat) : Int), gv a)]).countP (atB (-1) (t : Nat)) = 0 := by
        split
        · rfl
        · rw [List.countP_cons, sing, if_neg y]; rfl
      rw [e1, Nat.zero_add]
      by_cases z : ∃ c, c ∈ l ∧ (gv c).getLsbD t = true
      · obtain ⟨c, c1, c2⟩ := z
        rw [if_pos ⟨c, c1, c2⟩, if_pos ⟨c, by simp [c1], c2⟩]
      · rw [if_neg z, if_neg]
        rintro ⟨c, c1, c2⟩
        rcases List.mem_cons.1 c1 with rfl | c1
        · exact y c2
        · exact z ⟨c, c1, c2⟩
theorem csP_pw {p : PlanD} : (csP p 16).Pairwise (· < ·) := by
  unfold csP
  exact List.pairwise_lt_range.sublist List.filter_sublist
theorem pieces_pcOkW {p : PlanD} {ps : List Pc} (hasc : ps.Pairwise fun a b => a.1 < b.1) (cs : ∀ y ∈ ps, hasC p y.1 = true ∧ y.2 ≠ 0#64) : ∀ i, i < ps.length → pcOk p ps i := fun i hi => by
  have h := cs _ (List.getElem_mem hi)
  exact ⟨hi, h.1, fun h0 => (List.pairwise_iff_getElem.1 hasc) (i - 1) i (by omega) hi (by omega), h.2⟩
/-- The place that is woven. -/
theorem plPl_right {p : PlanD} {w : Wt} (hL : PlanL p) (hR : RightP p) (hk : isU w.1 ∧ 1 ≤ w.2 ∧ w.2 ≤ p.frame) (hp : w.2 ≤ plL p) (ha : ¬ anyR p w.2) : refPlaceP p (plPl p w) ∧ 2 ≤ (plPl p w).pieces.length := by
  obtain ⟨hI, h0⟩ := plI_all (w := w) hL hR hk.2.1 hp
  have hz := (plRun_ok (p := p) (G := gapH p) (s := plS0 p w.2) (fun c hh => roomP_0 hh) (fun c hh => rfl) p.frame.toNat).2
  have f2 := hR.1
  have f64 := hR.2.1
  unfold plPl
  generalize plRun (gapH p) (plS0 p w.2) p.frame.toNat = E at *
  have inC : ∀ c k, (E.gv c).getLsbD k = true → c ∈ csP p 16 := fun c k hb => by
    by_cases hh : hasC p (c : Nat) = true
    · exact csP_mem.2 ⟨by have := (hasC_range hh).2; omega, hh⟩
    · rw [hz c hh] at hb; simp at hb
  have all : ∀ t, t < 64 → (pcL E.gv (csP p 16)).countP (atB (-1) (t : Nat)) = if ∃ c, (E.gv c).getLsbD t = true then 1 else 0 := fun t ht => by
    rw [pcL_all csP_pw ht fun c d h1 h2 => hI.one c d t ht h1 h2]
    by_cases q : ∃ c, (E.gv c).getLsbD t = true
    · obtain ⟨c, q⟩ := q
      rw [if_pos ⟨c, inC c t q, q⟩, if_pos ⟨c, q⟩]
    · rw [if_neg q, if_neg fun ⟨c, _, z⟩ => q ⟨c, z⟩]
  have tot := hI.tot
  have tot' : S (fun k => if ∃ c, (E.gv c).getLsbD k = true then (1 : Int) else 0) 64 = w.2 := by
    have : (plS0 p w.2).lack = w.2 := rfl
    omega
  have two : 2 ≤ (pcL E.gv (csP p 16)).length := by
    by_cases g : 2 ≤ (pcL E.gv (csP p 16)).length
    · exact g
    · exfalso
      cases e : pcL E.gv (csP p 16) with
      | nil =>
        have : S (fun k => if ∃ c, (E.gv c).getLsbD k = true then (1 : Int) else 0) 64 = S (fun _ => 0) 64 := S_congr fun k hk' => by
          have := all k hk'
          rw [e] at this
          by_cases q : ∃ c, (E.gv c).getLsbD k = true
          · rw [if_pos q] at this; simp at this
          · rw [if_neg q]
        rw [this, S_zero] at tot'; omega
      | cons y l =>
        have l0 : l = [] := by
          rw [e] at g; simp at g
          cases l with
          | nil => rfl
          | cons a l => simp at g
        subst l0
        obtain ⟨c, c1, c2, rfl⟩ := pcL_mem (show y ∈ pcL E.gv (csP p 16) by rw [e]; simp)
        have : S (fun k => if ∃ c, (E.gv c).getLsbD k = true then (1 : Int) else 0) 64 = S (fun k => if (E.gv c).getLsbD k = true then (1 : Int) else 0) 64 := S_congr fun k hk' => by
          have a1 := all k hk'
          rw [e, List.countP_cons, atB_all hk'] at a1
          by_cases q : (E.gv c).getLsbD k = true
          · rw [if_pos q, if_pos ⟨c, q⟩]
          · rw [if_neg q]
            by_cases z : ∃ c, (E.gv c).getLsbD k = true
            · rw [if_pos z, if_neg q] at a1; simp at a1
            · rw [if_neg z]
        have hc := hI.cnt c
        have hr := hI.r0 c
        have : (plS0 p w.2).rm c = roomP p (c : Nat) := rfl
        have m := csP_mem.1 c1
        exact ha ⟨c, m.1, m.2, by omega⟩
  refine ⟨⟨hk.1, hk.2.1, hk.2.2, fun e => by simp only at e; omega, fun _ => ⟨pieces_pcOkW (pcL_asc csP_pw) fun y hy => ?_, fun t ht => ?_, two, rfl, ?_⟩⟩, two⟩
  · obtain ⟨c, c1, c2, rfl⟩ := pcL_mem hy
    exact ⟨(csP_mem.1 c1).2, c2⟩
  · show (pcL E.gv (csP p 16)).countP _ ≤ 1 ∧ (0 < (pcL E.gv (csP p 16)).countP _ → _)
    rw [all t ht]
    by_cases q : ∃ c, (E.gv c).getLsbD t = true
    · rw [if_pos q]
      obtain ⟨c, q⟩ := q
      have := (hI.bit c t ht q).1
      exact ⟨Nat.le_refl _, fun _ => by omega⟩
    · rw [if_neg q]; exact ⟨by omega, fun z => by omega⟩
  · rw [sumA_S]
    show S (fun t => (((pcL E.gv (csP p 16)).countP (atB (-1) (t : Nat)) : Nat) : Int)) 64 = w.2
    rw [← tot']
    refine S_congr fun t ht => ?_
    rw [all t ht]; split <;> rfl
end Go.Am


/- PlanZ1 over the table of weave (relayset.py). -/
set_option linter.unusedVariables false
set_option linter.unusedSimpArgs false
namespace Go.Am
open Classical
variable {m : Mem}

/-- A place with where its pieces lie. -/
structure PE where
  pl : Pl
  pv : Value
  one : pv.oneCell' = true
def peV (e : PE) : List Value := plV e.pl e.pv
theorem peV_len (e : PE) : (peV e).length = 4 := rfl
theorem peV_one (e : PE) : oneCells (peV e) = true := by
  unfold peV plV oneCells
  simp [e.one]
  exact ⟨rfl, rfl, rfl⟩

/-- Places in a row of one's own. -/
structure OwnPls (m0 m : Mem) (l : List PE) (v : Value) : Prop where
  own : Own m0 m 4 l.length (l.flatMap peV) v
  el : ∀ e ∈ l, PcV m e.pl.pieces e.pv ∧ ∀ b ∈ vb e.pv, b ∉ vb v
  ext : Ext m0 m
theorem OwnPls.keep {m0 m m' : Mem} {l : List PE} {v : Value} (h : OwnPls m0 m l v) (hx : Ext m m') : OwnPls m0 m' l v :=
  ⟨h.own.keep hx, fun e he => ⟨(h.el e he).1.keep hx, (h.el e he).2⟩, h.ext.trans hx⟩
theorem PcV.upd {m m' : Mem} {l : List Pc} {v : Value} {fp : List Nat} (h : PcV m l v) (hx : Upd m m' fp) (ho : ∀ b ∈ vb v, b ∉ fp) : PcV m' l v :=
  ⟨h.1.upd h.2 (SlOff.vb_iff.2 ho) hx, h.2.upd hx⟩
theorem OwnPls.updq {m0 m m' : Mem} {l : List PE} {v : Value} {fp : List Nat} (h : OwnPls m0 m l v) (hx : Upd m m' fp) (h1 : ∀ b ∈ vb v, b ∉ fp) (h2 : ∀ e ∈ l, ∀ b ∈ vb e.pv, b ∉ fp) (h3 : ∀ x ∈ fp, m0.next ≤ x) : OwnPls m0 m' l v :=
  ⟨h.own.updq hx h1, fun e he => ⟨(h.el e he).1.upd hx (h2 e he), (h.el e he).2⟩, hx.ext_of h.ext h3⟩
theorem OwnPls.weak {m0 m1 m : Mem} {l : List PE} {v : Value} (h : OwnPls m1 m l v) (hx : Ext m0 m1) : OwnPls m0 m l v := ⟨h.own.weak hx, h.el, hx.trans h.ext⟩
theorem OwnPls.pls {m0 m : Mem} {l : List PE} {v : Value} (h : OwnPls m0 m l v) : PlsV m (l.map PE.pl) v := by
  refine ⟨l.flatMap peV, by rw [List.length_map]; exact h.own.sl, h.own.lt, fun i hi => ?_⟩
  have hi' : i < l.length := by simpa using hi
  refine ⟨l[i].pv, ?_, ?_⟩
  · rw [flat_drop peV_len hi']; simp [peV]
  · have := (h.el _ (List.getElem_mem hi')).1
    simpa using this

theorem OwnPls.app {m0 m : Mem} {l : List PE} {v : Value} {e : PE} (h : OwnPls m0 m l v) (hp : PcV m e.pl.pieces e.pv) (ho : ∀ b ∈ vb e.pv, b ∉ vb v) (hl : l.length < 1000000) :
    ∃ v' m', aApp none 4 48 (m.new (.cells (peV e) (some 4))) v (.slice (some ⟨m.next, 0, none⟩) 1 1) = some (v', m') ∧ OwnPls m0 m' (l ++ [e]) v' := by
  obtain ⟨v', m', e1, e2, e3⟩ := h.own.app (by_ := 48) (es := peV e) h.ext (by omega) rfl (peV_one e) (by omega) (by omega)
  have hx : Ext m (m.new (.cells (peV e) (some 4))) := Ext.new
  obtain ⟨a1, a2, a3⟩ := app_updA (M := (m.new (.cells (peV e) (some 4))).next) e1 (fun k hk => by cases hk) (Nat.le_refl _)
  have hn := hx.next
  have key : ∀ pc pv, PcV m pc pv → (∀ b ∈ vb pv, b ∉ vb v) → PcV m' pc pv ∧ ∀ b ∈ vb pv, b ∉ vb v' := fun pc pv h1 h2 => by
    have hlt := SlLt.vb_iff.1 h1.2
    refine ⟨(h1.keep hx).upd (fp := vb v) ⟨a1, fun b hb hnb => a2 b hb hnb⟩ h2, fun b hb hm => ?_⟩
    rcases a3 with e | ⟨k, e, hk⟩
    · rw [e] at hm; exact h2 b hb hm
    · rw [e] at hm
      simp at hm
      have := hlt b hb
      omega
  refine ⟨v', m', e1, ⟨?_, fun x hx' => ?_, e3⟩⟩
  · rw [List.length_append, List.flatMap_append]; simpa using e2
  · rcases List.mem_append.1 hx' with hx' | hx'
    · exact key _ _ (h.el x hx').1 (h.el x hx').2
    · rw [List.mem_singleton.1 hx']
      exact key _ _ hp ho


/-- A row of places, all of whose blocks are new. -/
structure NewPls (m0 m : Mem) (l : List PE) (v : Value) : Prop where
  pls : OwnPls m0 m l v
  new : ∀ e ∈ l, ∀ b ∈ vb e.pv, m0.next ≤ b
theorem NewPls.keep {m0 m m' : Mem} {l : List PE} {v : Value} (h : NewPls m0 m l v) (hx : Ext m m') : NewPls m0 m' l v := ⟨h.pls.keep hx, h.new⟩
theorem NewPls.weak {m0 m1 m : Mem} {l : List PE} {v : Value} (h : NewPls m1 m l v) (hx : Ext m0 m1) : NewPls m0 m l v := ⟨h.pls.weak hx, fun e he b hb => by have := h.new e he b hb; have := hx.next; omega⟩
theorem NewPls.old {m0 m m' : Mem} {l : List PE} {v : Value} {fp : List Nat} (h : NewPls m0 m l v) (hx : Upd m m' fp) (hf : ∀ x ∈ fp, x < m0.next) : OwnPls m0 m' l v ∨ True := .inr trivial
end Go.Am


/- PlanZ2 over the table of weave (relayset.py). -/
set_option linter.unusedVariables false
set_option linter.unusedSimpArgs false
namespace Go.Am
open Classical
variable {m : Mem}

def dropU (l : List Pl) (u : Int) : List Pl := l.filter fun x => decide (x.unit ≠ u)
theorem dropU_not {l : List Pl} {u : Int} (h : ∀ k (hk : k < l.length), l[k].unit ≠ u) : dropU l u = l := by
  unfold dropU
  rw [List.filter_eq_self]
  intro x hx
  obtain ⟨k, hk, rfl⟩ := List.getElem_of_mem hx
  exact decide_eq_true (h k hk)
theorem Asc.filter {l : List Pl} (h : Asc l) (f : Pl → Bool) : Asc (l.filter f) := by
  have hp : l.Pairwise fun a b => a.unit < b.unit := List.pairwise_iff_getElem.2 fun i j hi hj hij => h i j hij hj
  intro i j hij hj
  exact List.pairwise_iff_getElem.1 (hp.filter f) i j (by omega) hj hij

/-- Stores into boxes leave a row of new blocks. -/
theorem NewPls.box {m0 m m' : Mem} {l : List PE} {v : Value} {fp : List Nat} (h : NewPls m0 m l v) (hx : Upd m m' fp) (h1 : ∀ x ∈ fp, m0.next ≤ x) (h2 : ∀ x ∈ fp, x ∉ vb v) (h3 : ∀ x ∈ fp, ∀ e ∈ l, x ∉ vb e.pv) : NewPls m0 m' l v :=
  ⟨h.pls.updq hx (fun b hb hf => h2 b hf hb) (fun e he b hb hf => h3 b hf e he hb) h1, h.new⟩
/-- Blocks below it, or behind what it was told at. -/
theorem NewPls.out {m0 m : Mem} {l : List PE} {v : Value} (h : NewPls m0 m l v) {x : Nat} (hx : x < m0.next ∨ m.next ≤ x) : x ∉ vb v ∧ ∀ e ∈ l, x ∉ vb e.pv := by
  refine ⟨fun hb => ?_, fun e he hb => ?_⟩
  · have := h.pls.own.ge x hb
    have := (SlLt.vb_iff.1 h.pls.own.lt) x hb
    omega
  · have := h.new e he x hb
    have := (SlLt.vb_iff.1 (h.pls.el e he).1.2) x hb
    omega

theorem slice_of {m0 m : Mem} {u n : Nat} {cs : List Value} {v : Value} (h : Own m0 m u n cs v) : ∃ a n c, v = .slice a n c := by cases h <;> exact ⟨_, _, _, rfl⟩
end Go.Am


/- PlanZ3 over the table of weave (relayset.py). -/
set_option linter.unusedVariables false
set_option linter.unusedSimpArgs false
namespace Go.Am
open Classical
variable {m : Mem}
end Go.Am


/- PlanZ4 over the table of weave (relayset.py). -/
set_option linter.unusedVariables false
set_option linter.unusedSimpArgs false
namespace Go.Am
open Classical
variable {m : Mem}

/-- A row of places as it lies. -/
structure RowE (m : Mem) (l : List PE) (v : Value) : Prop where
  sl : Sl m 4 l.length (l.flatMap peV) v
  lt : SlLt m v
theorem RowE.keep {m m' : Mem} {l : List PE} {v : Value} (h : RowE m l v) (hx : Ext m m') : RowE m' l v := ⟨h.sl.keep h.lt hx, h.lt.keep hx⟩
theorem RowE.upd {m m' : Mem} {l : List PE} {v : Value} {fp : List Nat} (h : RowE m l v) (hx : Upd m m' fp) (ho : ∀ b ∈ vb v, b ∉ fp) : RowE m' l v := ⟨h.sl.upd h.lt (SlOff.vb_iff.2 ho) hx, h.lt.upd hx⟩
theorem RowE.slice {m : Mem} {l : List PE} {v : Value} (h : RowE m l v) : ∃ a n c, v = .slice a n c := by cases h.sl <;> exact ⟨_, _, _, rfl⟩
theorem Own.rowE {m0 m : Mem} {l : List PE} {v : Value} (h : Own m0 m 4 l.length (l.flatMap peV) v) : RowE m l v := ⟨h.sl, h.lt⟩
/-- The places behind a row as it lies. -/
theorem RowE.pls {m : Mem} {l : List PE} {v : Value} (h : RowE m l v) (hp : ∀ e ∈ l, PcV m e.pl.pieces e.pv) : PlsV m (l.map PE.pl) v := by
  refine ⟨l.flatMap peV, by rw [List.length_map]; exact h.sl, h.lt, fun i hi => ?_⟩
  have hi' : i < l.length := by simpa using hi
  refine ⟨l[i].pv, ?_, ?_⟩
  · rw [flat_drop peV_len hi']; simp [peV]
  · have := hp _ (List.getElem_mem hi')
    simpa using this
theorem rowE_of {m : Mem} {l : List Pl} {v : Value} (h : PlsV m l v) : ∃ le : List PE, le.map PE.pl = l ∧ RowE m le v ∧ ∀ e ∈ le, PcV m e.pl.pieces e.pv := by
  obtain ⟨cs, h1, h2, h3⟩ := h
  obtain ⟨le, hle, hP⟩ := list_choice (P := fun i (e : PE) => ∃ h : i < l.length, e.pl = l[i] ∧ (cs.drop (i * 4)).take 4 = peV e ∧ PcV m e.pl.pieces e.pv) (n := l.length) (fun i hi => by
    obtain ⟨pv, a, b⟩ := h3 i hi
    exact ⟨⟨l[i], pv, b.one⟩, hi, rfl, a, b⟩)
  have hm : le.map PE.pl = l := by
    apply List.ext_getElem
    · rw [List.length_map, hle]
    · intro i h1 h2
      rw [List.getElem_map]
      obtain ⟨_, e, _⟩ := hP i (by simpa using h1)
      exact e
  refine ⟨le, hm, ⟨?_, h2⟩, fun e he => ?_⟩
  · have hc : cs = le.flatMap peV := by
      have hcl := h1.length
      have hfl : (le.flatMap peV).length = l.length * 4 := by rw [flat_len peV_len, hle]
      apply List.ext_getElem (by rw [hcl, hfl])
      intro i hi hi2
      have hq : i / 4 < le.length := by rw [hle]; omega
      obtain ⟨_, _, e, _⟩ := hP (i / 4) hq
      have e2 := flat_drop peV_len hq
      rw [← e2] at e
      have g1 : ((cs.drop (i / 4 * 4)).take 4)[i % 4]? = cs[i]? := by
        rw [List.getElem?_take_of_lt (by omega), List.getElem?_drop, show i / 4 * 4 + i % 4 = i by omega]
      have g2 : (((le.flatMap peV).drop (i / 4 * 4)).take 4)[i % 4]? = (le.flatMap peV)[i]? := by
        rw [List.getElem?_take_of_lt (by omega), List.getElem?_drop, show i / 4 * 4 + i % 4 = i by omega]
      rw [e, g2] at g1
      rw [List.getElem?_eq_getElem hi, List.getElem?_eq_getElem hi2] at g1
      exact (Option.some.inj g1).symm
    rw [hle, ← hc]; exact h1
  · obtain ⟨i, hi, rfl⟩ := List.getElem_of_mem he
    obtain ⟨_, _, _, b⟩ := hP i hi
    exact b

def dropE (l : List PE) (u : Int) : List PE := l.filter fun e => decide (e.pl.unit ≠ u)
theorem dropE_succ {l : List PE} {u : Int} {i : Nat} (hi : i < l.length) : dropE (l.take (i + 1)) u = dropE (l.take i) u ++ (if l[i].pl.unit ≠ u then [l[i]] else []) := by
  unfold dropE
  rw [List.take_succ_eq_append_getElem hi, List.filter_append, List.filter_cons]
  by_cases h : l[i].pl.unit = u <;> simp [h]
theorem dropE_len {l : List PE} {u : Int} {i : Nat} : (dropE (l.take i) u).length ≤ i := by
  unfold dropE
  exact Nat.le_trans (List.length_filter_le ..) (by rw [List.length_take]; omega)
theorem dropE_map {l : List PE} {u : Int} : (dropE l u).map PE.pl = dropU (l.map PE.pl) u := by
  unfold dropE dropU
  rw [List.filter_map]; rfl

set_option maxHeartbeats 4000000 in
theorem refDrop_spec {l : List PE} {f : Int} {c : BitVec 32} {pv : Value} {u : Int} (hs : RowE m l pv) (hl : l.length < 1000000) :
    WC R F.ref16_Drop [.agg #[.int .i64 f, u32 c, pv], .int .i64 u] m fun r m' => ∃ lv, r = .agg #[.int .i64 f, u32 c, lv] ∧ Own m m' 4 (dropE l u).length ((dropE l u).flatMap peV) lv ∧ Ext m m' := by
  refine WC.of R.ref16_Drop rfl ?_
  simp only [RC.ref16_Drop, go_sem, hs.sl.one]
  have hx1 : Ext m (m.new (.cells [.int .i64 f, u32 c, pv] (some 3))) := Ext.new
  have hb1 : Bk (m.new (.cells [.int .i64 f, u32 c, pv] (some 3))) m.next [.int .i64 f, u32 c, pv] 3 := Bk.new
  generalize m.new (.cells [.int .i64 f, u32 c, pv] (some 3)) = m1 at hx1 hb1 ⊢
  have hbn := hb1.ne
  have hx2 : Ext m1 (m1.new (.cells [.int .i64 0, u32 0#32, .slice none 0 0] (some 3))) := Ext.new
  have hb2 : Bk (m1.new (.cells [.int .i64 0, u32 0#32, .slice none 0 0] (some 3))) m1.next [.int .i64 0, u32 0#32, .slice none 0 0] 3 := Bk.new
  generalize m1.new (.cells [.int .i64 0, u32 0#32, .slice none 0 0] (some 3)) = m2 at hx2 hb2 ⊢
  have hb12 := hb1.keep hx2
  have hs2 := (hs.keep hx1).keep hx2
  have hx3 : Ext m2 (m2.new (.cells [] (some 4))) := Ext.new
  have ho3 : Own m2 (m2.new (.cells [] (some 4))) 4 0 [] (.slice (some ⟨m2.next, 0, none⟩) 0 0) := .at (all := []) (Nat.le_refl _) (by simp [Mem.new]) (Nat.le_refl _) (by simp [Mem.new]) rfl rfl rfl
  have hle : m.next + 1 ≤ m1.next ∧ m1.next + 1 ≤ m2.next := ⟨hb1.lt, hb2.lt⟩
  generalize m2.new (.cells [] (some 4)) = m3 at hx3 ho3 ⊢
  refine WL.of (fun n e m' => ∃ (i : Nat) (w : Value), i ≤ l.length ∧ n = l.length - i ∧ e = [(1, .int .i64 u), (2, pt m.next), (4, pt m1.next), (5, w), (6, .int .i64 i)] ∧ Own m2 m' 4 (dropE (l.take i) u).length ((dropE (l.take i) u).flatMap peV) w ∧ Ext m2 m') l.length
    ⟨0, _, by omega, by omega, by simp only [go_sem] <;> rfl, ho3, hx3⟩ ?_
  rintro _ _ m4 ⟨i, w, hi, rfl, rfl, ho, hx4⟩
  have hs4 := hs2.keep hx4
  have hb4 := hb12.keep hx4
  have hr4 := hb2.keep hx4
  simp only [RB.ref16_Drop_1, pt, go_sem, ruB, hb4.at_, hs4.sl.len]
  refine gT.of (fun h1' => ?_) (fun h1' => ?_) <;> (have h1 := h1'; try simp only [decide_eq_true_eq, decide_eq_false_iff_not, beq_iff_eq, bne_iff_ne, beq_eq_false_iff_ne, ne_eq, Bool.not_eq_true', Bool.not_eq_false', bne_eq_false_iff_eq, Int.not_lt, Int.not_le] at h1)
  · have hil : i < l.length := by omega
    obtain ⟨b, o, a1, a2, a3, a4⟩ := hs4.sl.elem peV_len (k := .i64) (i := i) hil
    have a30 := a3 0 (by omega)
    have hd := dropE_succ (u := u) hil
    have hdl := dropE_len (l := l) (u := u) (i := i)
    have s1 := step1 (show i < 1000000 by omega)
    have q1 := l[i].one
    generalize l[i] = x at *
    simp only [peV, plV, Nat.add_zero, List.getElem?_cons_zero] at a2 a30
    try simp only [go_sem, ruB, h1', a1, a30, hb4.at_]
    refine gT.of (fun h2' => ?_) (fun h2' => ?_) <;> (have h2 := h2'; try simp only [decide_eq_true_eq, decide_eq_false_iff_not, beq_iff_eq, bne_iff_ne, beq_eq_false_iff_ne, ne_eq, Bool.not_eq_true', Bool.not_eq_false', bne_eq_false_iff_eq, Int.not_lt, Int.not_le] at h2)
    · try simp only [go_sem, ruB, h2', a1, a2, hb4.at_, q1]
      obtain ⟨v', m6, e1, e2, e3⟩ := ho.app (by_ := 48) (es := peV x) hx4 (by omega) rfl (peV_one x) (by omega) (by omega)
      simp only [peV, plV] at e1
      rw [e1, Got.some]
      try simp only [go_sem, ruB, s1]
      rw [if_pos h2] at hd
      refine ⟨l.length - (i + 1), by omega, i + 1, v', by omega, rfl, rfl, ?_, e3⟩
      rw [hd, List.length_append, List.flatMap_append]; simpa [peV, plV] using e2
    · try simp only [go_sem, ruB, h2', s1]
      rw [if_neg (by simpa using h2), List.append_nil] at hd
      refine ⟨l.length - (i + 1), by omega, i + 1, w, by omega, rfl, rfl, ?_, hx4⟩
      rw [hd]; exact ho
  · have hil : i = l.length := by omega
    subst hil
    rw [List.take_length] at ho
    have hlo := ho.sl.one
    obtain ⟨wa, wn, wc, rfl⟩ := slice_of ho
    have hge := ho.ge
    have hne : (m.next = m1.next) = False := hbn
    have hne2 : (m1.next = m.next) = False := eq_false (by omega)
    try simp only [go_sem, ruB, h1', hb4.at_, hlo, hr4.at_, hne, hne2]
    have hX := (hx1.trans hx2)
    have key : ∀ {m'}, Upd m4 m' [m.next, m1.next] → Own m m' 4 (dropE l u).length ((dropE l u).flatMap peV) (.slice wa wn wc) ∧ Ext m m' := fun hU =>
      ⟨(ho.weak hX).updq hU (fun b hb => by have := hge b hb; simp; omega), hU.ext_of (hX.trans hx4) (by simp; omega)⟩
    refine ⟨_, rfl, key ?_⟩
    exact ((Upd.set (fp := [m.next, m1.next]) (by simp)).trans (Upd.set (fp := [m.next, m1.next]) (by simp)) (fun _ h => h) (fun _ h => .inl h))

theorem peV_flat {l : List PE} : oneCells (l.flatMap peV) = true := by
  unfold oneCells
  rw [List.all_eq_true]
  intro x hx
  obtain ⟨y, _, hy⟩ := List.mem_flatMap.1 hx
  have := peV_one y
  unfold oneCells at this
  exact List.all_eq_true.1 this x hy

theorem refPut_loop {l : List PE} {x : PE} {f : Int} {c : BitVec 32} {lv : Value} {bp bx br : Nat} (hs : RowE m l lv) (hl : l.length < 1000000) (hp : Bk m bp [.int .i64 f, u32 c, lv] 3) (hx : Bk m bx (peV x) 4) :
    WL R [2, 3, 4, 5] RB.ref16_Put_1 [(2, pt bp), (3, pt bx), (4, pt br), (5, .int .i64 0)] m fun y e m' => m' = m ∧ y = .exit 0 ∧ ∃ (k : Nat) (rest : Env), k ≤ l.length ∧ (∀ t (h : t < l.length), t < k → l[t].pl.unit < x.pl.unit) ∧ (∀ h : k < l.length, ¬ l[k].pl.unit < x.pl.unit) ∧ e = (2, pt bp) :: (3, pt bx) :: (4, pt br) :: (5, .int .i64 k) :: rest := by
  refine WL.of (fun n e m' => ∃ k : Nat, k ≤ l.length ∧ n = l.length - k ∧ m' = m ∧ e = [(2, pt bp), (3, pt bx), (4, pt br), (5, .int .i64 k)] ∧ ∀ t (h : t < l.length), t < k → l[t].pl.unit < x.pl.unit) l.length
    ⟨0, by omega, by omega, rfl, by simp only [go_sem] <;> rfl, fun _ _ h => by omega⟩ ?_
  rintro _ _ _ ⟨k, hk, rfl, hm, rfl, hall⟩
  replace hm := hm.symm
  subst hm
  simp only [RB.ref16_Put_1, pt, go_sem, ruB, hp.at_, hs.sl.len]
  by_cases g1 : k < l.length
  · have e1 : decide ((k : Int) < (l.length : Int)) = true := decide_eq_true (by omega)
    obtain ⟨b, o, a1, a2, a3, a4⟩ := hs.sl.elem peV_len (k := .i64) (i := k) g1
    have a30 := a3 0 (by omega)
    have s1 := step1 (show k < 1000000 by omega)
    simp only [peV, plV, Nat.add_zero, List.getElem?_cons_zero] at a30
    have hx0 : aLoad false 1 m (.pointer (some ⟨bx, 0, none⟩)) = some (.int .i64 x.pl.unit) := by
      simp only [go_sem, ruB, hx.at_, peV, plV]
    try simp only [go_sem, ruB, e1, a1, a30, hx0, hp.at_]
    by_cases g2 : l[k].pl.unit < x.pl.unit
    · try simp only [go_sem, ruB, decide_eq_true g2, s1]
      refine ⟨l.length - (k + 1), by omega, k + 1, by omega, rfl, rfl, fun t h ht => ?_⟩
      by_cases e : t = k
      · subst e; exact g2
      · exact hall t h (by omega)
    · try simp only [go_sem, ruB, decide_eq_false g2]
      exact ⟨k, _, hk, hall, fun _ => g2, rfl⟩
  · have e1 : decide ((k : Int) < (l.length : Int)) = false := decide_eq_false (by omega)
    try simp only [go_sem, ruB, e1]
    exact ⟨k, _, hk, hall, fun h => absurd h g1, rfl⟩
end Go.Am


/- PlanZ5 over the table of weave (relayset.py). -/
set_option linter.unusedVariables false
set_option linter.unusedSimpArgs false
namespace Go.Am
open Classical
variable {m : Mem}

theorem dropE_len' {l : List PE} {u : Int} : (dropE l u).length ≤ l.length := List.length_filter_le ..
theorem flat_take {l : List PE} {k : Nat} : (l.flatMap peV).take (k * 4) = (l.take k).flatMap peV := by
  have e : l.flatMap peV = (l.take k).flatMap peV ++ (l.drop k).flatMap peV := by rw [← List.flatMap_append, List.take_append_drop]
  by_cases hk : k ≤ l.length
  · rw [e, List.take_left' (by rw [flat_len peV_len, List.length_take]; congr 1; omega)]
  · rw [List.take_of_length_le (by rw [flat_len peV_len]; omega), List.take_of_length_le (by omega)]
theorem flat_dropk {l : List PE} {k : Nat} (hk : k ≤ l.length) : (l.flatMap peV).drop (k * 4) = (l.drop k).flatMap peV := by
  have e : l.flatMap peV = (l.take k).flatMap peV ++ (l.drop k).flatMap peV := by rw [← List.flatMap_append, List.take_append_drop]
  rw [e, List.drop_left' (by rw [flat_len peV_len, List.length_take]; congr 1; omega)]

def cutE (l : List PE) (u : Int) (k : Nat) : Prop := k ≤ l.length ∧ (∀ t (h : t < l.length), t < k → l[t].pl.unit < u) ∧ ∀ h : k < l.length, ¬ l[k].pl.unit < u

set_option maxHeartbeats 4000000 in
theorem refPut_spec {l : List PE} {x : PE} {f : Int} {c : BitVec 32} {pv : Value} (hs : RowE m l pv) (hl : l.length < 100000) :
    WC R F.ref16_Put [.agg #[.int .i64 f, u32 c, pv], .agg (peV x).toArray] m fun r m' => ∃ lv k, r = .agg #[.int .i64 f, u32 c, lv] ∧ cutE (dropE l x.pl.unit) x.pl.unit k ∧
      Own m m' 4 ((dropE l x.pl.unit).length + 1) (((dropE l x.pl.unit).take k ++ x :: (dropE l x.pl.unit).drop k).flatMap peV) lv ∧ Ext m m' := by
  refine WC.of R.ref16_Put rfl ?_
  simp only [RC.ref16_Put, RB.ref16_Put_1, peV, plV, go_sem, hs.sl.one, x.one]
  have hx1 : Ext m (m.new (.cells [.int .i64 f, u32 c, pv] (some 3))) := Ext.new
  have hb1 : Bk (m.new (.cells [.int .i64 f, u32 c, pv] (some 3))) m.next [.int .i64 f, u32 c, pv] 3 := Bk.new
  generalize m.new (.cells [.int .i64 f, u32 c, pv] (some 3)) = m1 at hx1 hb1 ⊢
  have hx2 : Ext m1 (m1.new (.cells [.int .i64 x.pl.unit, .int .i64 x.pl.share, .int .i64 x.pl.core, x.pv] (some 4))) := Ext.new
  have hb2 : Bk (m1.new (.cells [.int .i64 x.pl.unit, .int .i64 x.pl.share, .int .i64 x.pl.core, x.pv] (some 4))) m1.next [.int .i64 x.pl.unit, .int .i64 x.pl.share, .int .i64 x.pl.core, x.pv] 4 := Bk.new
  generalize m1.new (.cells [.int .i64 x.pl.unit, .int .i64 x.pl.share, .int .i64 x.pl.core, x.pv] (some 4)) = m2 at hx2 hb2 ⊢
  have hx3 : Ext m2 (m2.new (.cells [.int .i64 0, u32 0#32, .slice none 0 0] (some 3))) := Ext.new
  have hb3 : Bk (m2.new (.cells [.int .i64 0, u32 0#32, .slice none 0 0] (some 3))) m2.next [.int .i64 0, u32 0#32, .slice none 0 0] 3 := Bk.new
  generalize m2.new (.cells [.int .i64 0, u32 0#32, .slice none 0 0] (some 3)) = m3 at hx3 hb3 ⊢
  have hle : m.next + 1 ≤ m1.next ∧ m1.next + 1 ≤ m2.next ∧ m2.next + 1 ≤ m3.next := ⟨hb1.lt, hb2.lt, hb3.lt⟩
  have hb13 := (hb1.keep hx2).keep hx3
  have hb23 := hb2.keep hx3
  have hs3 := ((hs.keep hx1).keep hx2).keep hx3
  try simp only [go_sem, ruB, hb13.at_, hb23.at_]
  refine gC.of (refDrop_spec (u := x.pl.unit) hs3 (by omega)) ?_
  rintro _ m4 ⟨lv, rfl, ho, hx4⟩
  have hlo := ho.sl.one
  have hge := ho.ge
  obtain ⟨wa, wn, wc, rfl⟩ := slice_of ho
  have hb14 := hb13.keep hx4
  have hb24 := hb23.keep hx4
  have hb34 := hb3.keep hx4
  try simp only [go_sem, ruB, hlo, hb14.at_]
  have hU5 : Upd m4 (m4.set m.next (some (.cells [.int .i64 f, u32 c, .slice wa wn wc] (some 3)))) [m.next] := Upd.set (by simp)
  have hb15 : Bk (m4.set m.next (some (.cells [.int .i64 f, u32 c, .slice wa wn wc] (some 3)))) m.next [.int .i64 f, u32 c, .slice wa wn wc] 3 := ⟨by simp [Mem.set], by have := hb14.lt; simpa [Mem.set] using this⟩
  generalize m4.set m.next (some (.cells [.int .i64 f, u32 c, .slice wa wn wc] (some 3))) = m5 at hU5 hb15 ⊢
  have hb25 := hb24.upd hU5 (by simp; omega)
  have hb35 := hb34.upd hU5 (by simp; omega)
  have ho5 := ho.updq hU5 (fun b hb => by have := hge b hb; simp; omega)
  have hx05 : Ext m m5 := hU5.ext_of (((hx1.trans hx2).trans hx3).trans hx4) (by simp)
  have hdl := dropE_len' (l := l) (u := x.pl.unit)
  generalize dropE l x.pl.unit = d at *
  refine WL.mono (refPut_loop (x := x) (br := m2.next) ho5.rowE (by omega) hb15 hb25) ?_
  rintro _ _ _ ⟨hm, rfl, k, rest, hk, hk1, hk2, rfl⟩
  replace hm := hm.symm
  subst hm
  have hs5 := ho5.rowE
  have hc5 := ho5.cut
  have hxa : Ext m5 (m5.new (.cells [] (some 4))) := Ext.new
  obtain ⟨vk, t1, t2, -, -⟩ := (hs5.keep hxa).sl.to (hc5.keep hs5.lt hxa) (k := .i64) (i := k) (by omega)
  rw [flat_take] at t2
  obtain ⟨v1, m6, f1, f2, f3⟩ := app_copy (by_ := 48) t2 peV_flat (by omega) (by omega)
  have F1 := app_full f1 t2.src.2 (fun _ _ _ e => by cases e; rfl)
  obtain ⟨v2, m8, f4, f5, f6⟩ := f2.app (by_ := 48) (es := peV x) f3 (by omega) rfl (peV_one x) (by omega) (by omega)
  have F2 := app_full f4 rfl F1
  obtain ⟨vr, t3, t4, -, -⟩ := (hs5.keep f6).sl.from (hc5.keep hs5.lt f6) (k := .i64) (i := k) (by omega)
  rw [flat_dropk hk] at t4
  obtain ⟨v3, m9, f7, f8, f9⟩ := f5.appAll (by_ := 48) f6 t4 peV_flat (by omega) (by omega) F2
  simp only [peV, plV] at f4
  have hb16 := hb15.keep f3
  have hb26 := hb25.keep f3
  have hb18 := hb15.keep f6
  have hb19 := hb15.keep f9
  have hb39 := hb35.keep f9
  have hlo9 := f8.sl.one
  have hge9 := f8.ge
  obtain ⟨ya, yn, yc, rfl⟩ := slice_of f8
  have hbn5 := hb15.ne
  have ne1 : (m.next = m2.next) = False := eq_false (by omega)
  have ne2 : (m2.next = m.next) = False := eq_false (by omega)
  simp only [pt]
  try simp only [go_sem, ruB, hb15.at_, hbn5, t1, f1]
  try simp only [go_sem, ruB, hb26.at_, x.one, f4]
  try simp only [go_sem, ruB, hb18.at_, t3, f7]
  try simp only [go_sem, ruB, hb19.at_, hlo9, hb39.at_, ne1, ne2]
  have hU : ∀ {m'}, Upd m9 m' [m.next, m2.next] → Own m m' 4 (d.length + 1) ((d.take k ++ x :: d.drop k).flatMap peV) (.slice ya yn yc) ∧ Ext m m' := fun hU => by
    have hn5 := hx05.next
    have hn5' := hb35.lt
    have h8 := (f8.weak hx05).updq hU (fun b hb => by have := hge9 b hb; have := hb15.lt; simp; omega)
    refine ⟨?_, hU.ext_of (hx05.trans f9) (by simp; omega)⟩
    rw [show k + 1 + (d.length - k) = d.length + 1 by omega] at h8
    rw [List.flatMap_append, List.flatMap_cons]
    simpa using h8
  refine ⟨_, k, rfl, ⟨hk, hk1, hk2⟩, hU ?_⟩
  exact ((Upd.set (fp := [m.next, m2.next]) (by simp)).trans (Upd.set (fp := [m.next, m2.next]) (by simp)) (fun _ h => h) (fun _ h => .inl h))
end Go.Am


/- Weave, in plain Lean: the plan with the place is right. -/
set_option linter.unusedVariables false
set_option linter.unusedSimpArgs false
namespace Go.Am
open Classical

theorem sumW_cons {w : Wt} {l : List Wt} : sumW (w :: l) = w.2 + sumW l := by simp [sumW]
def putP (l : List Pl) (x : Pl) : List Pl := (dropU l x.unit).takeWhile (fun y => decide (y.unit < x.unit)) ++ x :: (dropU l x.unit).dropWhile (fun y => decide (y.unit < x.unit))
theorem tkw {α : Type} {p : α → Bool} : ∀ {L : List α} {j : Nat} (hj : j ≤ L.length), (∀ i (h : i < L.length), i < j → p L[i] = true) → (∀ h : j < L.length, p L[j] = false) → L.takeWhile p = L.take j ∧ L.dropWhile p = L.drop j
  | [], j, hj, _, _ => by simp
  | a :: l, 0, _, _, h => by
    have := h (by simp)
    simp only [List.getElem_cons_zero] at this
    simp [List.takeWhile_cons, List.dropWhile_cons, this]
  | a :: l, j + 1, hj, h1, h2 => by
    have h0 := h1 0 (by simp) (by omega)
    simp only [List.getElem_cons_zero] at h0
    obtain ⟨k1, k2⟩ := @tkw α p l j (by simpa using hj) (fun i h hi => by have := h1 (i + 1) (by simpa using h) (by omega); simpa using this) (fun h => by have := h2 (by simpa using h); simpa using this)
    simp [List.takeWhile_cons, List.dropWhile_cons, h0, k1, k2]
theorem putP_perm {l : List Pl} {x : Pl} : (putP l x).Perm (x :: dropU l x.unit) := by
  unfold putP
  have := List.takeWhile_append_dropWhile (p := fun y : Pl => decide (y.unit < x.unit)) (l := dropU l x.unit)
  conv => rhs; rw [← this]
  exact List.perm_middle
theorem asc_pw {l : List Pl} : Asc l ↔ l.Pairwise fun a b => a.unit < b.unit := by
  rw [List.pairwise_iff_getElem]
  constructor
  · intro h i j hi hj hij; exact h i j hij hj
  · intro h i j hij hj; exact h i j (by omega) hj hij
theorem pw_tail {x : Pl} : ∀ {l : List Pl}, l.Pairwise (fun a b => a.unit < b.unit) → ∀ y ∈ l.dropWhile (fun y => decide (y.unit < x.unit)), x.unit ≤ y.unit
  | [], _, y, h => by simp at h
  | a :: l, hp, y, h => by
    rw [List.pairwise_cons] at hp
    rw [List.dropWhile_cons] at h
    by_cases g : a.unit < x.unit
    · rw [if_pos (by simpa using g)] at h; exact pw_tail hp.2 y h
    · rw [if_neg (by simpa using g)] at h
      rcases List.mem_cons.1 h with rfl | h
      · omega
      · have := hp.1 y h; omega
theorem tw_all {x : Pl} : ∀ {l : List Pl}, ∀ y ∈ l.takeWhile (fun y => decide (y.unit < x.unit)), y.unit < x.unit
  | [], y, h => by simp at h
  | a :: l, y, h => by
    rw [List.takeWhile_cons] at h
    by_cases g : a.unit < x.unit
    · rw [if_pos (by simpa using g)] at h
      rcases List.mem_cons.1 h with rfl | h
      · exact g
      · exact tw_all y h
    · rw [if_neg (by simpa using g)] at h; simp at h
theorem putP_asc {l : List Pl} {x : Pl} (h : Asc l) : Asc (putP l x) := by
  have hd : (dropU l x.unit).Pairwise (fun a b => a.unit < b.unit) := asc_pw.1 (h.filter _)
  rw [asc_pw]
  unfold putP
  rw [List.pairwise_append]
  refine ⟨hd.sublist (List.takeWhile_sublist _), ?_, ?_⟩
  · rw [List.pairwise_cons]
    refine ⟨fun y hy => ?_, hd.sublist (List.dropWhile_sublist _)⟩
    have h1 := pw_tail (x := x) hd y hy
    have h2 : y ∈ dropU l x.unit := (List.dropWhile_sublist _).subset hy
    unfold dropU at h2
    rw [List.mem_filter] at h2
    have := of_decide_eq_true h2.2
    omega
  · intro y hy z hz
    have h1 := tw_all (x := x) y hy
    rcases List.mem_cons.1 hz with rfl | hz
    · exact h1
    · have := pw_tail (x := x) hd z hz; omega
theorem sumW_perm {a b : List Wt} (h : a.Perm b) : sumW a = sumW b := by
  induction h with
  | nil => rfl
  | cons x _ ih => rw [sumW_cons, sumW_cons, ih]
  | swap x y l => simp only [sumW_cons]; omega
  | trans _ _ h1 h2 => rw [h1, h2]
theorem cntL_perm {a b : List Pl} (h : a.Perm b) {c t : Int} : cntL a c t = cntL b c t := by
  induction h with
  | nil => rfl
  | cons x _ ih => rw [cntL_cons, cntL_cons, ih]
  | swap x y l => simp only [cntL_cons]; omega
  | trans _ _ h1 h2 => rw [h1, h2]
theorem whL_perm {a b : List Pl} (h : a.Perm b) {c : Int} : sumW (whL a c) = sumW (whL b c) := sumW_perm ((h.filter _).map _)
theorem whL_cons {x : Pl} {l : List Pl} {c : Int} : sumW (whL (x :: l) c) = (if isWh c x = true then x.share else 0) + sumW (whL l c) := by
  unfold whL
  rw [List.filter_cons]
  split
  · rw [List.map_cons, sumW_cons]; rfl
  · omega
theorem load_of {p : PlanD} {c : Nat} (h : ∀ t : Nat, t < 64 → cntL p.places (c : Nat) (t : Nat) ≤ 1) : loadR p c = loadS p c := by
  unfold loadR loadS
  rw [tks_S]
  congr 1
  refine S_congr fun t ht => ?_
  rw [windows_same]
  have h1 := h t ht
  have h2 := cntL_pos (l := p.places) (c := c) ht
  split
  · rename_i e; rw [← h2] at e; omega
  · rename_i e; rw [← h2] at e; omega
theorem gapH_win {p : PlanD} {c k : Nat} (hk : k < 64) (h : (gapH p c).getLsbD k = true) : cntL p.places (c : Nat) (k : Nat) = 0 := by
  have hw : (winW p.places (c : Nat)).getLsbD k = false := by
    unfold gapH at h
    split at h
    · unfold gapP at h
      rw [BitVec.getLsbD_and, Bool.and_eq_true, BitVec.getLsbD_not] at h
      cases e : (winW p.places (c : Nat)).getLsbD k with
      | false => rfl
      | true => rw [e] at h; simp at h
    · simp at h
  have := @cntL_pos p.places c k hk
  rw [hw] at this
  have : ¬ 0 < cntL p.places (c : Nat) (k : Nat) := fun q => by have := this.1 q; cases this
  omega
theorem dropU_no {p : PlanD} {u : Int} (gu : ¬ hasU p.places u) : dropU p.places u = p.places := dropU_not fun k hk e => gu ⟨k, hk, e⟩
set_option maxHeartbeats 4000000 in
theorem fit_right {p : PlanD} {w : Wt} (hL : PlanL p) (hR : RightP p) (hk : isU w.1 ∧ 1 ≤ w.2 ∧ w.2 ≤ p.frame) (hp : w.2 ≤ plL p) (ha : ¬ anyR p w.2) (gu : ¬ hasU p.places w.1) (gs : p.places.countP isSp + 1 < (csP p 16).length) :
    RightP ⟨p.frame, p.cores, putP p.places (plPl p w)⟩ := by
  obtain ⟨hx, h2⟩ := plPl_right hL hR hk hp ha
  obtain ⟨hI, h0⟩ := plI_all (w := w) hL hR hk.2.1 hp
  have f2 := hR.1
  have f64 := hR.2.1
  have perm : (putP p.places (plPl p w)).Perm (plPl p w :: p.places) := by
    have := @putP_perm p.places (plPl p w)
    rwa [show (plPl p w).unit = w.1 from rfl, dropU_no gu] at this
  have hsp : isSp (plPl p w) = true := by unfold isSp; exact decide_eq_true (by omega)
  have pcs : (plPl p w).pieces = pcL (plRun (gapH p) (plS0 p w.2) p.frame.toNat).gv (csP p 16) := rfl
  generalize plRun (gapH p) (plS0 p w.2) p.frame.toNat = E at *
  have cx : ∀ c t : Nat, (plPl p w).pieces.countP (atB (c : Nat) (t : Nat)) = if c ∈ csP p 16 ∧ (E.gv c).getLsbD t = true then 1 else 0 := fun c t => by rw [pcs]; exact pcL_cnt csP_pw
  have cnt : ∀ c t : Nat, cntL (putP p.places (plPl p w)) (c : Nat) (t : Nat) = (if c ∈ csP p 16 ∧ (E.gv c).getLsbD t = true then 1 else 0) + cntL p.places (c : Nat) (t : Nat) := fun c t => by rw [cntL_perm perm, cntL_cons, cx]
  have one : ∀ c, c < 16 → ∀ t, t < 64 → cntL (putP p.places (plPl p w)) (c : Nat) (t : Nat) ≤ 1 := fun c hc t ht => by
    rw [cnt]
    have h1 := hR.2.2.2.2.2.1 c hc t ht
    by_cases q : c ∈ csP p 16 ∧ (E.gv c).getLsbD t = true
    · have := gapH_win ht (hI.bit c t ht q.2).2
      rw [if_pos q]; omega
    · rw [if_neg q]; omega
  refine ⟨f2, f64, hR.2.2.1, hR.2.2.2.1, fun i hi => ⟨hi, ?_, fun h0 => (putP_asc hR.asc) (i - 1) i (by omega) hi⟩, one, ?_, fun c hc => ?_⟩
  · rcases List.mem_cons.1 (perm.mem_iff.1 (List.getElem_mem hi)) with q | q
    · show refPlaceP _ ((putP p.places (plPl p w))[i])
      rw [q]; exact hx
    · exact hR.place q
  · show (putP p.places (plPl p w)).countP isSp < (csP p 16).length
    rw [perm.countP_eq, List.countP_cons, if_pos hsp]; omega
  · have hc' : c ∈ csP p 16 := hc
    have m := csP_mem.1 hc'
    rw [load_of (p := ⟨p.frame, p.cores, putP p.places (plPl p w)⟩) fun t ht => one c m.1 t ht]
    unfold loadS
    show S (fun t => ((cntL (putP p.places (plPl p w)) (c : Nat) (t : Nat) : Nat) : Int)) 64 + sumW (whL (putP p.places (plPl p w)) (c : Nat)) ≤ p.frame
    have hS : S (fun t => ((cntL (putP p.places (plPl p w)) (c : Nat) (t : Nat) : Nat) : Int)) 64 = S (fun t => (if (E.gv c).getLsbD t = true then (1 : Int) else 0) + ((cntL p.places (c : Nat) (t : Nat) : Nat) : Int)) 64 := S_congr fun t _ => by
      rw [cnt]
      by_cases q : (E.gv c).getLsbD t = true
      · rw [if_pos ⟨hc', q⟩, if_pos q]; omega
      · rw [if_neg fun z => q z.2, if_neg q]; omega
    have hwh : ¬ isWh ((c : Nat) : Int) (plPl p w) = true := by unfold isWh; rw [hsp]; simp
    have hld := hR.load m.1
    have hrm : roomP p (c : Nat) = p.frame - loadR p (c : Nat) := by rw [hR.room]; unfold roomR; rw [if_pos m.2]
    have hc2 := hI.cnt c
    have hr0 := hI.r0 c
    have e3 : (plS0 p w.2).rm c = roomP p (c : Nat) := rfl
    unfold loadS at hld
    rw [hS, S_add, whL_perm perm, whL_cons, if_neg hwh]
    omega
end Go.Am


/- WeaveFits. -/
set_option linter.unusedVariables false
set_option linter.unusedSimpArgs false
namespace Go.Am
open Classical
variable {m : Mem}

theorem putE_map {l : List PE} {x : PE} {k : Nat} (h : cutE (dropE l x.pl.unit) x.pl.unit k) : ((dropE l x.pl.unit).take k ++ x :: (dropE l x.pl.unit).drop k).map PE.pl = putP (l.map PE.pl) x.pl := by
  obtain ⟨h1, h2, h3⟩ := h
  have hm : (dropE l x.pl.unit).map PE.pl = dropU (l.map PE.pl) x.pl.unit := dropE_map
  have hl : (dropU (l.map PE.pl) x.pl.unit).length = (dropE l x.pl.unit).length := by rw [← hm, List.length_map]
  obtain ⟨k1, k2⟩ := tkw (p := fun y : Pl => decide (y.unit < x.pl.unit)) (L := dropU (l.map PE.pl) x.pl.unit) (j := k) (by omega) (fun i hi hik => by
    have := h2 i (by omega) hik
    simp only [← hm, List.getElem_map]
    simpa using this) (fun hk => by
    have := h3 (by omega)
    simp only [← hm, List.getElem_map]
    simpa using this)
  unfold putP
  rw [k1, k2, List.map_append, List.map_cons, List.map_take, List.map_drop, hm]
theorem fit_free {p : PlanD} {w : Wt} (hR : RightP p) (gu : ¬ hasU p.places w.1) (hq : RightP ⟨p.frame, p.cores, putP p.places (plPl p w)⟩) : freeR ⟨p.frame, p.cores, putP p.places (plPl p w)⟩ = freeR p - w.2 := by
  have perm : (putP p.places (plPl p w)).Perm (plPl p w :: p.places) := by
    have := @putP_perm p.places (plPl p w)
    rwa [show (plPl p w).unit = w.1 from rfl, dropU_no gu] at this
  have a1 := hR.all
  have a2 := hq.all
  rw [hR.free] at a1
  rw [hq.free] at a2
  have e : sumW (wtsL (putP p.places (plPl p w))) = w.2 + sumW (wtsL p.places) := by
    have e0 : sumW (wtsL (putP p.places (plPl p w))) = sumW (wtsL (plPl p w :: p.places)) := sumW_perm (perm.map wtOf)
    rw [e0]
    show sumW (wtOf (plPl p w) :: wtsL p.places) = _
    rw [sumW_cons]; rfl
  have e2 : (csP ⟨p.frame, p.cores, putP p.places (plPl p w)⟩ 16).length = (csP p 16).length := rfl
  have e3 : freeR ⟨p.frame, p.cores, putP p.places (plPl p w)⟩ + sumW (wtsL (putP p.places (plPl p w))) = p.frame * ((csP p 16).length : Int) := a2
  omega
theorem refPutP {p : PlanD} {x : Pl} {pv xv : Value} (hp : PlsV m p.places pv) (hx : PcV m x.pieces xv) (hl : p.places.length < 100000) :
    WC R F.ref16_Put [.agg #[.int .i64 p.frame, u32 p.cores, pv], .agg #[.int .i64 x.unit, .int .i64 x.share, .int .i64 x.core, xv]] m fun r m' => (∃ lv, r = .agg #[.int .i64 p.frame, u32 p.cores, lv] ∧ PlsV m' (putP p.places x) lv) ∧ Ext m m' := by
  obtain ⟨le, hle, hrow, hpcs⟩ := rowE_of hp
  have lel : le.length = p.places.length := by rw [← hle, List.length_map]
  have key := refPut_spec (l := le) (x := ⟨x, xv, hx.one⟩) (f := p.frame) (c := p.cores) hrow (by omega)
  refine WC.mono key ?_
  rintro _ m' ⟨lv, k, rfl, hcut, ho, hx'⟩
  have hlen : ((dropE le x.unit).take k ++ (⟨x, xv, hx.one⟩ : PE) :: (dropE le x.unit).drop k).length = (dropE le x.unit).length + 1 := by
    have := hcut.1
    simp at this ⊢; omega
  have ho' : Own m m' 4 ((dropE le x.unit).take k ++ (⟨x, xv, hx.one⟩ : PE) :: (dropE le x.unit).drop k).length (((dropE le x.unit).take k ++ (⟨x, xv, hx.one⟩ : PE) :: (dropE le x.unit).drop k).flatMap peV) lv := by rw [hlen]; exact ho
  have pl := (ho'.rowE).pls fun e he => by
    rcases List.mem_append.1 he with he | he
    · exact (hpcs e (List.mem_filter.1 (List.mem_of_mem_take he)).1).keep hx'
    · rcases List.mem_cons.1 he with rfl | he
      · exact hx.keep hx'
      · exact (hpcs e (List.mem_filter.1 (List.mem_of_mem_drop he)).1).keep hx'
  have em := putE_map (l := le) (x := ⟨x, xv, hx.one⟩) hcut
  rw [hle] at em
  simp only at em
  rw [em] at pl
  exact ⟨⟨lv, rfl, pl⟩, hx'⟩
theorem freeR_b {p : PlanD} (h : PlanR p) : -2000000000 ≤ freeR p ∧ freeR p ≤ 2000000000 := by
  have e : freeR p = S (fun c => roomR p (c : Nat)) 16 := sumI_range (f := fun c => roomR p (c : Nat))
  have h1 : S (fun c => roomR p (c : Nat)) 16 ≤ S (fun _ => 64000064) 16 := S_le fun c _ => (roomR_le h).2
  have h2 : S (fun _ => -64000064) 16 ≤ S (fun c => roomR p (c : Nat)) 16 := S_le fun c _ => (roomR_le h).1
  have a : S (fun _ => (64000064 : Int)) 16 = 1024001024 := by decide
  have b : S (fun _ => (-64000064 : Int)) 16 = -1024001024 := by decide
  omega
set_option maxHeartbeats 8000000 in
theorem WeaveFits_spec {p : PlanD} {v : Value} {w : Wt} (hv : PlanV m p v) : WC R F.law21_WeaveFits [v, .agg #[.int .i64 w.1, .int .i64 w.2]] m fun r m' => r = .bool true := by
  refine WC.of R.law21_WeaveFits rfl ?_
  obtain ⟨pv, rfl, hp⟩ := hv
  simp only [RC.law21_WeaveFits, planV, go_sem, hp.one]
  have hx1 : Ext m (m.new (.cells [.int .i64 p.frame, u32 p.cores, pv] (some 3))) := Ext.new
  have hb1 : Bk (m.new (.cells [.int .i64 p.frame, u32 p.cores, pv] (some 3))) m.next [.int .i64 p.frame, u32 p.cores, pv] 3 := Bk.new
  have hn1 : (m.new (.cells [.int .i64 p.frame, u32 p.cores, pv] (some 3))).next = m.next + 1 := rfl
  generalize m.new (.cells [.int .i64 p.frame, u32 p.cores, pv] (some 3)) = m1 at hx1 hb1 hn1 ⊢
  have hx2 : Ext m1 (m1.new (.cells [.int .i64 w.1, .int .i64 w.2] (some 2))) := Ext.new
  have hc2 : Bk (m1.new (.cells [.int .i64 w.1, .int .i64 w.2] (some 2))) m1.next [.int .i64 w.1, .int .i64 w.2] 2 := Bk.new
  have hn2 : (m1.new (.cells [.int .i64 w.1, .int .i64 w.2] (some 2))).next = m1.next + 1 := rfl
  generalize m1.new (.cells [.int .i64 w.1, .int .i64 w.2] (some 2)) = m2 at hx2 hc2 hn2 ⊢
  have hb2 := hb1.keep hx2
  have hp2 := hp.keep (hx1.trans hx2)
  try simp only [go_sem, ruB, hb2.at_, hp2.one]
  refine gC.of (Light_spec (p := p) ⟨pv, rfl, hp2⟩) ?_
  rintro _ m3 ⟨rfl, hx3⟩
  by_cases hL : lightP p = true
  rotate_left
  · have e : lightP p = false := by simpa using hL
    try simp only [go_sem, ruB, e]
    refine gC.of (ok_spec R.law21_awake) ?_
    rintro _ m_ ⟨rfl, hm_⟩
    replace hm_ := hm_.symm
    subst hm_
    simp only [go_sem]
    try simp only [go_sem, ruB]
  have hLL := light_l hL
  have hb3 := hb2.keep hx3
  have hc3 := hc2.keep hx3
  have hp3 := hp2.keep hx3
  try simp only [go_sem, ruB, hL, hb3.at_, hp3.one]
  refine gC.of (refRight_spec (p := p) ⟨pv, rfl, hp3⟩ hLL.len hLL.pcs) ?_
  rintro _ m4 ⟨rfl, hx4⟩
  have hb4 := hb3.keep hx4
  have hc4 := hc3.keep hx4
  have hp4 := hp3.keep hx4
  by_cases hR : RightP p
  rotate_left
  · have d1 : decide (RightP p) = false := decide_eq_false hR
    try simp only [go_sem, ruB, d1]
    refine gC.of (ok_spec R.law21_awake) ?_
    rintro _ m_ ⟨rfl, hm_⟩
    replace hm_ := hm_.symm
    subst hm_
    simp only [go_sem]
    try simp only [go_sem, ruB]
  have d1 : decide (RightP p) = true := decide_eq_true hR
  try simp only [go_sem, ruB, d1, hb4.at_, hc4.at_, hp4.one]
  refine gC.of (wPlace_spec (p := p) (w := w) ⟨pv, rfl, hp4⟩ hLL) ?_
  rintro _ m5 ⟨hx5, ⟨gw, rfl⟩ | ⟨gw, xv, rfl, hX⟩⟩
  · have e2 : (whyW p w != 0) = true := by rw [bne_iff_ne]; exact gw
    try simp only [go_sem, ruB, aExt0, aExt1]
    have hx6 : Ext m5 (m5.new (.cells [.int .i64 0, .int .i64 0, .int .i64 0, .slice none 0 0] (some 4))) := Ext.new
    have hd6 : Bk (m5.new (.cells [.int .i64 0, .int .i64 0, .int .i64 0, .slice none 0 0] (some 4))) m5.next [.int .i64 0, .int .i64 0, .int .i64 0, .slice none 0 0] 4 := Bk.new
    have hn6 : (m5.new (.cells [.int .i64 0, .int .i64 0, .int .i64 0, .slice none 0 0] (some 4))).next = m5.next + 1 := rfl
    generalize m5.new (.cells [.int .i64 0, .int .i64 0, .int .i64 0, .slice none 0 0] (some 4)) = m6 at hx6 hd6 hn6 ⊢
    try simp only [go_sem, ruB, e2, hd6.at_]
    refine gC.of (refSamePlace_spec (x := x0) (y := x0) x0_v x0_v (by simp [x0]) (by simp [x0])) ?_
    rintro _ m7 ⟨rfl, hx7⟩
    try simp only [go_sem, ruB, decide_true]
    refine gC.of (ok_spec R.law21_awake) ?_
    rintro _ m_ ⟨rfl, hm_⟩
    replace hm_ := hm_.symm
    subst hm_
    simp only [go_sem]
    try simp only [go_sem, ruB]
  have gf : whyF p w = 0 := by
    by_cases q : whyF p w = 0
    · exact q
    · unfold whyW at gw; rw [if_pos q] at gw; exact gw
  have gp : w.2 ≤ plL p := by
    unfold whyW at gw
    rw [if_neg (by simpa using gf)] at gw
    by_cases q : plL p < w.2
    · rw [if_pos q] at gw; omega
    · omega
  obtain ⟨-, gc, gu, ga, gs⟩ := whyF_0 gf
  have hk := (chkA_ok gc).w w (by simp)
  have f64 := hR.2.1
  have hq := fit_right hLL hR hk gp ga gu gs
  have fr := fit_free hR gu hq
  have two := (plPl_right hLL hR hk gp ga).2
  have hPR := hR.pr hLL
  obtain ⟨qp, rfl, hqp⟩ := hX
  have pl60 : p.places.length ≤ 60 := by
    unfold lightP at hL
    rw [Bool.and_eq_true, decide_eq_true_eq] at hL; exact hL.2
  have hqL : PlanL ⟨p.frame, p.cores, putP p.places (plPl p w)⟩ := by
    have perm : (putP p.places (plPl p w)).Perm (plPl p w :: p.places) := by
      have := @putP_perm p.places (plPl p w)
      rwa [show (plPl p w).unit = w.1 from rfl, dropU_no gu] at this
    refine ⟨?_, fun x hx => ?_⟩
    · show (putP p.places (plPl p w)).length < _
      rw [perm.length_eq, List.length_cons]; omega
    · rcases List.mem_cons.1 (perm.mem_iff.1 hx) with rfl | hx
      · exact plPl_len
      · exact hLL.pcs x hx
  have hb5 := hb4.keep hx5
  have hc5 := hc4.keep hx5
  have hp5 := hp4.keep hx5
  have oq := hqp.one
  have e00 : ((0 : Int) != 0) = false := rfl
  simp only [plV]
  try simp only [go_sem, ruB, aExt0, aExt1, oq]
  have hx6 : Ext m5 (m5.new (.cells [.int .i64 (plPl p w).unit, .int .i64 (plPl p w).share, .int .i64 (plPl p w).core, qp] (some 4))) := Ext.new
  have hd6 : Bk (m5.new (.cells [.int .i64 (plPl p w).unit, .int .i64 (plPl p w).share, .int .i64 (plPl p w).core, qp] (some 4))) m5.next [.int .i64 (plPl p w).unit, .int .i64 (plPl p w).share, .int .i64 (plPl p w).core, qp] 4 := Bk.new
  have hn6 : (m5.new (.cells [.int .i64 (plPl p w).unit, .int .i64 (plPl p w).share, .int .i64 (plPl p w).core, qp] (some 4))).next = m5.next + 1 := rfl
  generalize m5.new (.cells [.int .i64 (plPl p w).unit, .int .i64 (plPl p w).share, .int .i64 (plPl p w).core, qp] (some 4)) = m6 at hx6 hd6 hn6 ⊢
  have hb6 := hb5.keep hx6
  have hc6 := hc5.keep hx6
  have hp6 := hp5.keep hx6
  have hq6 := hqp.keep hx6
  have ne6 : (m5.next = m.next) = False := eq_false (by have := hb5.lt; omega)
  have ne6' : (m.next = m5.next) = False := eq_false (by have := hb5.lt; omega)
  try simp only [go_sem, ruB, e00, hb5.at_, hb6.at_, hd6.at_, hp6.one, oq, ne6, ne6']
  refine gC.of (refPutP (p := p) (x := plPl p w) hp6 hq6 (by omega)) ?_
  rintro _ m7 ⟨⟨lv, rfl, hlv⟩, hx7⟩
  have ol := hlv.one
  have hb7 := hb6.keep hx7
  have hc7 := hc6.keep hx7
  have hd7 := hd6.keep hx7
  try simp only [go_sem, ruB, ol]
  have hx8 : Ext m7 (m7.new (.cells [.int .i64 p.frame, u32 p.cores, lv] (some 3))) := Ext.new
  have he8 : Bk (m7.new (.cells [.int .i64 p.frame, u32 p.cores, lv] (some 3))) m7.next [.int .i64 p.frame, u32 p.cores, lv] 3 := Bk.new
  have hn8 : (m7.new (.cells [.int .i64 p.frame, u32 p.cores, lv] (some 3))).next = m7.next + 1 := rfl
  generalize m7.new (.cells [.int .i64 p.frame, u32 p.cores, lv] (some 3)) = m8 at hx8 he8 hn8 ⊢
  have hb8 := hb7.keep hx8
  have hc8 := hc7.keep hx8
  have hd8 := hd7.keep hx8
  have hp8 := (hp6.keep hx7).keep hx8
  have hl8 := hlv.keep hx8
  have hq8 := (hq6.keep hx7).keep hx8
  have e5 : ((plPl p w).unit == w.1) = true := by rw [beq_iff_eq]; rfl
  have e6 : ((plPl p w).share == w.2) = true := by rw [beq_iff_eq]; rfl
  have e7 : decide ((2 : Int) ≤ (((plPl p w).pieces.length : Nat) : Int)) = true := decide_eq_true (by omega)
  have q1 : (m5.next = m7.next) = False := eq_false (by have := hd7.lt; omega)
  have q2 : (m1.next = m7.next) = False := eq_false (by have := hc7.lt; omega)
  have q3 : (m.next = m7.next) = False := eq_false (by have := hb7.lt; omega)
  try simp only [go_sem, ruB, hd8.at_, hc8.at_, hd7.at_, hc7.at_, hb7.at_, q1, q2, q3, e5, e6, hq8.len, e7, he8.at_, ol]
  refine gC.of (refRight_spec (p := ⟨p.frame, p.cores, putP p.places (plPl p w)⟩) ⟨lv, rfl, hl8⟩ hqL.len hqL.pcs) ?_
  rintro _ m9 ⟨rfl, hx9⟩
  have dq := decide_eq_true hq
  have w9 := hx9.same _ he8.lt
  have w9b := hx9.same _ hb8.lt
  have w9c := hx9.same _ hc8.lt
  have he9 := he8.keep hx9
  have hb9 := hb8.keep hx9
  have hc9 := hc8.keep hx9
  have hp9 := hp8.keep hx9
  try simp only [go_sem, ruB, watch_one, watch_nil, blk_ptr, w9, w9b, w9c, dq, he8.at_, hb8.at_, hc8.at_, he9.at_, hb9.at_, hc9.at_, ol, hp9.one]
  refine gC.of (refFree_spec (p := ⟨p.frame, p.cores, putP p.places (plPl p w)⟩) ⟨lv, rfl, hl8.keep hx9⟩ (hq.pr hqL)) ?_
  rintro _ m10 ⟨rfl, hx10⟩
  have w10 := hx10.same _ he9.lt
  have w10b := hx10.same _ hb9.lt
  have w10c := hx10.same _ hc9.lt
  try simp only [go_sem, ruB, watch_one, watch_nil, blk_ptr, w10, w10b, w10c, w9, w9b, w9c]
  refine gC.of (refFree_spec (p := p) ⟨pv, rfl, hp9.keep hx10⟩ hPR) ?_
  rintro _ m11 ⟨rfl, hx11⟩
  have fb := freeR_b hPR
  have wr : IntKind.wrap .i64 (freeR p - w.2) = freeR p - w.2 := wrap_i64 (by omega) (by omega)
  have ef : (freeR ⟨p.frame, p.cores, putP p.places (plPl p w)⟩ == freeR p - w.2) = true := by rw [beq_iff_eq]; exact fr
  have hc10 := hc9.keep hx10
  have w11 := hx11.same _ hc10.lt
  try simp only [go_sem, ruB, watch_one, watch_nil, blk_ptr, w11, w10, w10b, w10c, w9, w9b, w9c, wr, ef]
  refine gC.of (ok_spec R.law21_awake) ?_
  rintro _ m_ ⟨rfl, hm_⟩
  replace hm_ := hm_.symm
  subst hm_
  simp only [go_sem]
  try simp only [go_sem, ruB]
end Go.Am


/- WeavePlaces, of arguments as they are read. -/
set_option linter.unusedVariables false
namespace Go.Am
theorem want_read {m : Mem} {v : Value} (h : RdA m (true, [.int .i64, .int .i64]) v) : ∃ w : Wt, v = .agg #[.int .i64 w.1, .int .i64 w.2] := by
  obtain ⟨cs, rfl, g⟩ := h.agg
  obtain ⟨a, r, rfl, h1, k1⟩ := g.one
  obtain ⟨b, r, rfl, h2, k2⟩ := k1.one
  cases k2.none
  obtain ⟨a, rfl, -⟩ := h1.i64
  obtain ⟨b, rfl, -⟩ := h2.i64
  exact ⟨(a, b), rfl⟩
end Go.Am


/- WeaveFits, of arguments as they are read. -/
set_option linter.unusedVariables false
namespace Go.Am
theorem law21_WeaveFits_walk (m : Mem) (us : List Value) (h : RdAs m [(true, planSh), (true, [.int .i64, .int .i64])] us) : WC R F.law21_WeaveFits us m fun v _ => v = .bool true := by
  obtain ⟨_, _, rfl, h1, h⟩ := h.one; obtain ⟨_, _, rfl, h2, h⟩ := h.one; cases h.none
  obtain ⟨p, hp, -⟩ := plan_read h1
  obtain ⟨w, rfl⟩ := want_read h2
  exact WeaveFits_spec hp
end Go.Am
