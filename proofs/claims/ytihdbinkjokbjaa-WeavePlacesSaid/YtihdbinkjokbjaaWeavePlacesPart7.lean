/- Parts of the proofs of the statements of this seat: WeaveW8, WeaveP3, WeaveW9, WeaveWA, SpansD, WeaveOrderD, WeaveOrderW, AmMap, WeaveOrderW2, WeavePlanY1, WeavePlanY2, WeavePlanL3, WeaveWB, WeaveWC, WeaveWD, WeaveWE, WeaveWF, WeaveWG, WeaveX2, WWeavePlaces. No conditions. -/
import Derived.Test.YtihdbinkjokbjaaWeavePlacesPart6
import Derived.Test.YtihdbinkjokbjaaWeavePlacesPart4
import Derived.Test.YtihdbinkjokbjaaWeavePlacesPart5
set_option linter.unusedVariables false
set_option linter.unusedSimpArgs false

/- Weave: give, walked. -/
set_option linter.unusedVariables false
set_option linter.unusedSimpArgs false
namespace Go.Am
open Classical
variable {m : Mem}

theorem csF_inj {p : PlanD} {j k : Nat} (hj : j < (csP p 16).length) (hk : k < (csP p 16).length) (h : csF p j = csF p k) : j = k := by
  rw [csF_get hj, csF_get hk] at h
  have pw : (csP p 16).Pairwise (· < ·) := by
    unfold csP
    exact List.pairwise_lt_range.sublist List.filter_sublist
  rcases Nat.lt_trichotomy j k with g | g | g
  · have := (List.pairwise_iff_getElem.1 pw) j k hj hk g; omega
  · exact g
  · have := (List.pairwise_iff_getElem.1 pw) k j hk hj g; omega
theorem rgC_core {p : PlanD} {rm : Nat → Int} {j : Nat} {x : Int} (hj : j < (csP p 16).length) : (rgC (csP p 16).length fun k => intV (fup (fun k => rm (csF p k)) j x k)) = rgC (csP p 16).length fun k => intV (fup rm (csF p j) x (csF p k)) := by
  unfold rgC
  refine List.map_congr_left fun k hk => ?_
  rw [List.mem_range] at hk
  by_cases e : k = j
  · subst e; rw [fup_at, fup_at]
  · rw [fup_ne e, fup_ne fun q => e (csF_inj hk hj q)]
/-- A loom whose rooms change. -/
structure LgV (mE m : Mem) (p : PlanD) (bl : Nat) (csV gV rV : Value) (rm : Nat → Int) : Prop where
  lo : Bk m bl [intV (p.frame.toNat : Nat), csV, gV, rV] 4
  cl : aLen csV = some (intV ((csP p 16).length : Nat))
  g : Sl m 1 (csP p 16).length (rgC (csP p 16).length fun j => u64 (gapH p (csF p j))) gV
  gl : SlLt m gV
  ro : Own mE m 1 (csP p 16).length (rgC (csP p 16).length fun j => intV (rm (csF p j))) rV
  d1 : bl ∉ vb rV
  d2 : ∀ x ∈ vb gV, x ∉ vb rV
  ok : (∀ c, 0 ≤ rm c ∧ rm c ≤ 64) ∧ ∀ c, ¬ hasC p (c : Nat) = true → rm c = 0
theorem LgV.lm {mE m : Mem} {p : PlanD} {bl : Nat} {csV gV rV : Value} {rm : Nat → Int} (h : LgV mE m p bl csV gV rV rm) : LmV m bl p.frame.toNat (csP p 16).length csV gV rV (fun j => gapH p (csF p j)) (fun j => rm (csF p j)) := ⟨h.lo, h.cl, h.g, h.gl, h.ro.sl, h.ro.lt⟩
theorem LgV.keep {mE m m' : Mem} {p : PlanD} {bl : Nat} {csV gV rV : Value} {rm : Nat → Int} (h : LgV mE m p bl csV gV rV rm) (hx : Ext m m') : LgV mE m' p bl csV gV rV rm := ⟨h.lo.keep hx, h.cl, h.g.keep h.gl hx, h.gl.keep hx, h.ro.keep hx, h.d1, h.d2, h.ok⟩
theorem LgV.upd {mE m m' : Mem} {p : PlanD} {bl : Nat} {csV gV rV : Value} {rm : Nat → Int} {fp : List Nat} (h : LgV mE m p bl csV gV rV rm) (hU : Upd m m' fp) (h1 : bl ∉ fp) (h2 : ∀ x ∈ vb gV, x ∉ fp) (h3 : ∀ x ∈ vb rV, x ∉ fp) : LgV mE m' p bl csV gV rV rm :=
  ⟨h.lo.upd hU h1, h.cl, h.g.upd h.gl (SlOff.vb_iff.2 fun x hx hm => h2 x hx hm) hU, h.gl.upd hU, h.ro.updq hU h3, h.d1, h.d2, h.ok⟩
theorem LgV.put {mE m : Mem} {p : PlanD} {bl : Nat} {csV gV rV : Value} {rm : Nat → Int} (h : LgV mE m p bl csV gV rV rm) {j : Nat} (hj : j < (csP p 16).length) {x : Int} (hx : 0 ≤ x ∧ x ≤ 64) : ∃ q m', aIdxS 1 rV (.int .i64 (j : Nat)) = some q ∧ aLoad false 1 m q = some (.int .i64 (rm (csF p j))) ∧ aStore 1 m q (.int .i64 x) = some m' ∧ LgV mE m' p bl csV gV rV (fup rm (csF p j) x) ∧ Upd m m' (vb rV) := by
  obtain ⟨q, a1, a2⟩ := h.ro.sl.get (k := .i64) hj
  rw [rgC_get hj] at a2
  obtain ⟨b, m', e1, e2, e3, e4, e5⟩ := h.ro.putB (w := .int .i64 x) (k := .i64) (i := j) (o := 0) hj (by omega) rfl rfl
  simp only [Nat.mul_one, Nat.add_zero] at e1 e2 e3
  rw [a1] at e1
  cases e1
  rw [show (Value.int .i64 x) = intV x from rfl, rgC_set, fup_int, rgC_core hj] at e3
  refine ⟨_, m', a1, a2, e2, ⟨h.lo.upd e4 h.d1, h.cl, h.g.upd h.gl (SlOff.vb_iff.2 fun x hx hm => h.d2 x hx hm) e4, h.gl.upd e4, e3, h.d1, h.d2, fun c => ?_, fun c hh => ?_⟩, e4⟩
  · by_cases e : c = csF p j
    · rw [e, fup_at]; exact hx
    · rw [fup_ne e]; exact h.ok.1 c
  · by_cases e : c = csF p j
    · exact absurd (e ▸ (csF_has hj).2) hh
    · rw [fup_ne e]; exact h.ok.2 c hh
/-- A core that may have a tick. -/
def okG (G : Nat → BitVec 64) (rm : Nat → Int) (t : Nat) (lack : Int) (c : Nat) : Prop :=
  rm c ≠ 0 ∧ (G c).getLsbD t = true ∧ lack - 1 ≤ lstN (fun c => frW (G c) (t + 1)) (fup rm c (rm c - 1)) 16 0 0#64 0
def GiveO (mE : Mem) (p : PlanD) (bl : Nat) (csV gV rV : Value) (rm : Nat → Int) (t : Nat) (lack : Int) (m : Mem) (v : Value) (m' : Mem) : Prop :=
  Upd m m' (vb rV) ∧ ((v = .int .i64 (-1) ∧ (∀ c, c < 16 → ¬ okG (gapH p) rm t lack c) ∧ LgV mE m' p bl csV gV rV rm) ∨
    ∃ j, j < (csP p 16).length ∧ v = .int .i64 (j : Nat) ∧ okG (gapH p) rm t lack (csF p j) ∧ (∀ c, c < csF p j → ¬ okG (gapH p) rm t lack c) ∧ LgV mE m' p bl csV gV rV (fup rm (csF p j) (rm (csF p j) - 1)))
theorem fup_back {rm : Nat → Int} {c : Nat} : fup (fup rm c (rm c - 1)) c (rm c) = rm := by
  funext k; unfold fup; split
  · rename_i e; rw [e]
  · rfl
theorem Upd.ofExt {a b : Mem} {fp : List Nat} (h : Ext a b) : Upd a b fp := ⟨h.next, fun x hx _ => h.same x hx⟩
set_option maxHeartbeats 8000000 in
theorem give_spec {mE : Mem} {p : PlanD} {bl t : Nat} {csV gV rV : Value} {rm : Nat → Int} {lack : Int} (h : LgV mE m p bl csV gV rV rm) (f2 : 2 ≤ p.frame) (f64 : p.frame ≤ 64) (ht : t < p.frame.toNat) (hl : 1 ≤ lack ∧ lack ≤ 64) :
    WC R F.weave_loom_give [pt bl, .int .i64 (t : Nat), .int .i64 lack] m fun v m' => GiveO mE p bl csV gV rV rm t lack m v m' := by
  refine WC.of R.weave_loom_give rfl ?_
  have hcl := csP_len (p := p) (n := 16)
  have lo := h.lo.at_
  have cl := h.cl
  simp only [intV] at lo cl
  simp only [RC.weave_loom_give, pt, go_sem, ruB, lo, cl]
  refine WL.of (fun z e m' => ∃ j : Nat, j ≤ (csP p 16).length ∧ z = (csP p 16).length - j ∧ e = [(0, pt bl), (1, .int .i64 (t : Nat)), (2, .int .i64 lack), (12, .int .i64 ((csP p 16).length : Nat)), (13, .int .i64 (j : Nat))] ∧ Upd m m' (vb rV) ∧ LgV mE m' p bl csV gV rV rm ∧ ∀ k, k < j → ¬ okG (gapH p) rm t lack (csF p k)) (csP p 16).length
    ⟨0, by omega, by omega, by simp only [pt, go_sem] <;> rfl, Upd.refl _ _, h, fun k hk => by omega⟩ ?_
  rintro _ _ m1 ⟨j, hj, rfl, rfl, hU1, h1, hno⟩
  simp only [RB.weave_loom_give_1, pt, go_sem]
  have s1 := step1 (show j < 1000000 by omega)
  have pw : (csP p 16).Pairwise (· < ·) := by
    unfold csP
    exact List.pairwise_lt_range.sublist List.filter_sublist
  by_cases g : j < (csP p 16).length
  rotate_left
  · have e1 : decide (((j : Nat) : Int) < (((csP p 16).length : Nat) : Int)) = false := decide_eq_false (by omega)
    try simp only [go_sem, ruB, e1]
    refine ⟨hU1, .inl ⟨rfl, fun c hc hok => ?_, h1⟩⟩
    by_cases hh : hasC p (c : Nat) = true
    · obtain ⟨k, hk, e⟩ := List.getElem_of_mem (csP_mem.2 ⟨hc, hh⟩)
      refine hno k (by omega) ?_
      rw [csF_get hk, e]; exact hok
    · exact hok.1 (h1.ok.2 c hh)
  have e1 : decide (((j : Nat) : Int) < (((csP p 16).length : Nat) : Int)) = true := decide_eq_true (by omega)
  have lo1 := h1.lo.at_
  simp only [intV] at lo1
  have next : ¬ okG (gapH p) rm t lack (csF p j) → ∀ k, k < j + 1 → ¬ okG (gapH p) rm t lack (csF p k) := fun q k hk => by
    by_cases e : k = j
    · rw [e]; exact q
    · exact hno k (by omega)
  by_cases r0 : rm (csF p j) = 0
  · obtain ⟨q, -, a1, a2, -, -, -⟩ := h1.put g (x := 0) (by omega)
    have e2 : (rm (csF p j) == 0) = true := by rw [beq_iff_eq]; exact r0
    try simp only [go_sem, ruB, e1, lo1, a1, a2, e2, s1]
    exact ⟨(csP p 16).length - (j + 1), by omega, j + 1, by omega, rfl, rfl, hU1, h1, next fun q => q.1 r0⟩
  have e2 : (rm (csF p j) == 0) = false := by rw [beq_eq_false_iff_ne]; exact r0
  have rb := h1.ok.1 (csF p j)
  obtain ⟨q, m2, a1, a2, a3, h2, hU2⟩ := h1.put g (x := rm (csF p j) - 1) (by omega)
  obtain ⟨pg, g1, g2⟩ := h1.g.get (k := .i64) g
  rw [rgC_get g] at g2
  try simp only [go_sem, ruB, e1, lo1, a1, a2, e2, g1, g2]
  refine gC.of mask_Has_spec ?_
  rintro _ mx ⟨rfl, hmx⟩
  replace hmx := hmx.symm
  subst hmx
  rw [inB_nat']
  by_cases gb : (gapH p (csF p j)).getLsbD t = true
  rotate_left
  · have gb' : (gapH p (csF p j)).getLsbD t = false := by simpa using gb
    try simp only [go_sem, ruB, gb', s1]
    exact ⟨(csP p 16).length - (j + 1), by omega, j + 1, by omega, rfl, rfl, hU1, h1, next fun q => gb q.2.1⟩
  have w1 : IntKind.wrap .i64 (rm (csF p j) - 1) = rm (csF p j) - 1 := wrap_i64 (by omega) (by omega)
  have w2 : IntKind.wrap .i64 (lack - 1) = lack - 1 := wrap_i64 (by omega) (by omega)
  have s2 := step1 (show t < 1000000 by omega)
  try simp only [go_sem, ruB, gb, lo1, a1, a2, a3, w1, w2, s2]
  refine gC.of (most_spec (fr := t + 1) (lim := lack - 1) h2.lm hcl (by omega) (fun i hi => h2.ok.1 _) (by omega)) ?_
  rintro _ m3 ⟨hx3, N, rfl, hM⟩
  obtain ⟨k1, k2, -⟩ := most_lst (p := p) (gs := gapH p) (gm := fun c => frW (gapH p c) (t + 1)) (rs := fup rm (csF p j) (rm (csF p j) - 1)) (f := p.frame.toNat) (by omega) (fun c s hs => frW_bit hs) (fun c s q => gapH_lt f2 f64 q) (fun c _ hh => gapH_0 hh) (fun c _ hh => h2.ok.2 c hh) hM
  have h3 := h2.keep hx3
  have hU3 : Upd m1 m3 (vb rV) := hU2.sameF (Upd.ofExt hx3)
  by_cases gN : lack - 1 ≤ N
  · have e3 : decide (lack - 1 ≤ N) = true := decide_eq_true gN
    try simp only [go_sem, ruB, w2, e3]
    refine ⟨hU1.sameF hU3, .inr ⟨j, g, rfl, ⟨r0, gb, by omega⟩, fun c hc hok => ?_, h3⟩⟩
    have hh : hasC p (c : Nat) = true := by
      by_cases hh : hasC p (c : Nat) = true
      · exact hh
      · exact absurd (h1.ok.2 c hh) hok.1
    have hj16 := (csF_has g).1
    obtain ⟨k, hk, e⟩ := List.getElem_of_mem (csP_mem.2 ⟨show c < 16 by omega, hh⟩)
    have hkj : k < j := by
      rcases Nat.lt_trichotomy k j with q | q | q
      · exact q
      · subst q; rw [csF_get hk, e] at hc; omega
      · have := (List.pairwise_iff_getElem.1 pw) j k g hk q
        rw [e] at this; rw [csF_get g] at hc; omega
    refine hno k hkj ?_
    rw [csF_get hk, e]; exact hok
  · have e3 : decide (lack - 1 ≤ N) = false := decide_eq_false gN
    have lo3 := h3.lo.at_
    simp only [intV] at lo3
    obtain ⟨q', m4, b1, b2, b3, h4, hU4⟩ := h3.put g (x := rm (csF p j)) rb
    rw [fup_back] at h4
    rw [fup_at] at b2
    have w3 : IntKind.wrap .i64 (rm (csF p j) - 1 + 1) = rm (csF p j) := by rw [wrap_i64 (by omega) (by omega)]; omega
    try simp only [go_sem, ruB, w2, e3, lo3, b1, b2, b3, w3, s1]
    exact ⟨(csP p 16).length - (j + 1), by omega, j + 1, by omega, rfl, rfl, (hU1.sameF hU3).sameF hU4, h4, next fun q => gN (by have := q.2.2; omega)⟩
end Go.Am


/- Weave, in plain Lean: where a want goes, tick by tick. -/
set_option linter.unusedVariables false
set_option linter.unusedSimpArgs false
namespace Go.Am
open Classical

noncomputable def fstN (P : Nat → Prop) : Option Nat := if h : ∃ c, P c ∧ ∀ c', c' < c → ¬ P c' then some h.choose else none
theorem fstN_some {P : Nat → Prop} {c : Nat} (h : P c) (h2 : ∀ c', c' < c → ¬ P c') : fstN P = some c := by
  have hex : ∃ c, P c ∧ ∀ c', c' < c → ¬ P c' := ⟨c, h, h2⟩
  unfold fstN
  rw [dif_pos hex]
  obtain ⟨a, b⟩ := hex.choose_spec
  rcases Nat.lt_trichotomy hex.choose c with g | g | g
  · exact absurd a (h2 _ g)
  · rw [g]
  · exact absurd h (b c g)
theorem fstN_none {P : Nat → Prop} (h : ∀ c, ¬ P c) : fstN P = none := by
  unfold fstN
  rw [dif_neg]
  rintro ⟨c, a, -⟩
  exact h c a
structure PlS where
  rm : Nat → Int
  gv : Nat → BitVec 64
  lack : Int
noncomputable def plStep (G : Nat → BitVec 64) (t : Nat) (s : PlS) : PlS :=
  if 0 < s.lack then
    match fstN (okG G s.rm t s.lack) with
    | some c => ⟨fup s.rm c (s.rm c - 1), fup s.gv c (withB (s.gv c) (t : Nat)), s.lack - 1⟩
    | none => s
  else s
noncomputable def plRun (G : Nat → BitVec 64) (s : PlS) : Nat → PlS
  | 0 => s
  | t + 1 => plStep G t (plRun G s t)
theorem plStep_some {G : Nat → BitVec 64} {t : Nat} {s : PlS} {c : Nat} (hl : 0 < s.lack) (h : okG G s.rm t s.lack c) (h2 : ∀ c', c' < c → ¬ okG G s.rm t s.lack c') : plStep G t s = ⟨fup s.rm c (s.rm c - 1), fup s.gv c (withB (s.gv c) (t : Nat)), s.lack - 1⟩ := by
  unfold plStep; rw [if_pos hl, fstN_some h h2]
theorem plStep_none {G : Nat → BitVec 64} {t : Nat} {s : PlS} (h : ∀ c, ¬ okG G s.rm t s.lack c) : plStep G t s = s := by
  unfold plStep; split
  · rw [fstN_none h]
  · rfl
theorem plStep_done {G : Nat → BitVec 64} {t : Nat} {s : PlS} (h : ¬ 0 < s.lack) : plStep G t s = s := by unfold plStep; rw [if_neg h]
theorem plRun_done {G : Nat → BitVec 64} {s : PlS} {t : Nat} (h : ¬ 0 < (plRun G s t).lack) : ∀ {f : Nat}, t ≤ f → plRun G s f = plRun G s t := by
  intro f
  induction f with
  | zero => intro hf; have : t = 0 := by omega
            rw [this]
  | succ f ih =>
    intro hf
    by_cases e : t = f + 1
    · rw [e]
    · show plStep G f (plRun G s f) = _
      rw [ih (by omega), plStep_done h]
theorem or_shl {x : BitVec 64} {t : Nat} (h : t < 64) : x ||| 1#64 <<< t = withB x (t : Nat) := by
  refine word_ext fun s hs => ?_
  rw [withB_bit hs, BitVec.getLsbD_or]
  congr 1
  rw [BitVec.getLsbD_shiftLeft]
  by_cases e : s = t
  · subst e; simp [h]
  · by_cases q : s < t
    · simp [q]; omega
    · have : (1#64).getLsbD (s - t) = false := by rw [BitVec.getLsbD_one]; simp; omega
      simp [this]; omega
/-- The pieces. -/
def pcL (gv : Nat → BitVec 64) (l : List Nat) : List Pc := (l.filter fun c => decide (gv c ≠ 0#64)).map fun (c : Nat) => (((c : Nat) : Int), gv c)
theorem pcL_snoc {gv : Nat → BitVec 64} {l : List Nat} {c : Nat} : pcL gv (l ++ [c]) = pcL gv l ++ if gv c = 0#64 then [] else [(((c : Nat) : Int), gv c)] := by
  unfold pcL
  rw [List.filter_append, List.map_append]
  congr 1
  by_cases e : gv c = 0#64
  · simp [e]
  · simp [e]
theorem pcL_cs {p : PlanD} {gv : Nat → BitVec 64} (h : ∀ c, ¬ hasC p (c : Nat) = true → gv c = 0#64) : ∀ n : Nat, pcL gv (csP p n) = pcL gv (List.range n) := by
  intro n
  induction n with
  | zero => rfl
  | succ n ih =>
    rw [csP_succ, List.range_succ, pcL_snoc]
    by_cases e : hasC p (n : Nat) = true
    · rw [if_pos e, pcL_snoc, ih]
    · rw [if_neg e, List.append_nil, ih, if_pos (h n e), List.append_nil]
end Go.Am


/- Weave: Place's ticks, walked. -/
set_option linter.unusedVariables false
set_option linter.unusedSimpArgs false
namespace Go.Am
open Classical
variable {m : Mem}

theorem rgC_coreG {p : PlanD} {gv : Nat → BitVec 64} {j : Nat} {x : BitVec 64} (hj : j < (csP p 16).length) : (rgC (csP p 16).length (fup (fun k => u64 (gv (csF p k))) j (u64 x))) = rgC (csP p 16).length fun k => u64 (fup gv (csF p j) x (csF p k)) := by
  unfold rgC
  refine List.map_congr_left fun k hk => ?_
  rw [List.mem_range] at hk
  by_cases e : k = j
  · subst e; rw [fup_at, fup_at]
  · rw [fup_ne e, fup_ne fun q => e (csF_inj hk hj q)]
theorem okG_none {p : PlanD} {rm : Nat → Int} {t : Nat} {lack : Int} (hz : ∀ c, ¬ hasC p (c : Nat) = true → rm c = 0) (h : ∀ c, c < 16 → ¬ okG (gapH p) rm t lack c) : ∀ c, ¬ okG (gapH p) rm t lack c := fun c q => by
  by_cases hc : c < 16
  · exact h c hc q
  · refine q.1 (hz c fun hh => ?_)
    have := (hasC_range hh).2; omega
set_option maxHeartbeats 8000000 in
theorem ticks_loop {mE : Mem} {p : PlanD} {bl : Nat} {csV gV rV gvV a b : Value} {s : PlS} (h : LgV mE m p bl csV gV rV s.rm) (f2 : 2 ≤ p.frame) (f64 : p.frame ≤ 64) (hl : s.lack ≤ 64)
    (hO : Own mE m 1 (csP p 16).length (rgC (csP p 16).length fun j => u64 (s.gv (csF p j))) gvV) (hd : ∀ x ∈ vb gvV, x ≠ bl ∧ x ∉ vb gV ∧ x ∉ vb rV) :
    WL R [3, 4, 7, 8, 9, 10] RB.weave_Place_2 [(3, a), (4, b), (7, pt bl), (8, gvV), (9, .int .i64 s.lack), (10, .int .i64 0)] m fun y e m' => y = .exit 0 ∧ (∃ rs, e = (3, a) :: (4, b) :: (7, pt bl) :: (8, gvV) :: rs) ∧ Upd m m' (vb rV ++ vb gvV) ∧ LgV mE m' p bl csV gV rV (plRun (gapH p) s p.frame.toNat).rm ∧ Own mE m' 1 (csP p 16).length (rgC (csP p 16).length fun j => u64 ((plRun (gapH p) s p.frame.toNat).gv (csF p j))) gvV := by
  have hcl := csP_len (p := p) (n := 16)
  refine WL.of (fun z e m' => ∃ t : Nat, t ≤ p.frame.toNat ∧ z = p.frame.toNat - t ∧ e = [(3, a), (4, b), (7, pt bl), (8, gvV), (9, .int .i64 (plRun (gapH p) s t).lack), (10, .int .i64 (t : Nat))] ∧ Upd m m' (vb rV ++ vb gvV) ∧ LgV mE m' p bl csV gV rV (plRun (gapH p) s t).rm ∧ Own mE m' 1 (csP p 16).length (rgC (csP p 16).length fun j => u64 ((plRun (gapH p) s t).gv (csF p j))) gvV ∧ (plRun (gapH p) s t).lack ≤ 64) p.frame.toNat
    ⟨0, by omega, by omega, by simp only [pt, go_sem] <;> rfl, Upd.refl _ _, h, hO, hl⟩ ?_
  rintro _ _ m1 ⟨t, ht, rfl, rfl, hU1, h1, hO1, hl1⟩
  have hstep : plRun (gapH p) s (t + 1) = plStep (gapH p) t (plRun (gapH p) s t) := rfl
  have hdone := fun q => @plRun_done (gapH p) s t q p.frame.toNat ht
  have hend : t = p.frame.toNat → plRun (gapH p) s p.frame.toNat = plRun (gapH p) s t := fun e => by rw [e]
  have hrun : plRun (gapH p) s p.frame.toNat = plRun (gapH p) s p.frame.toNat := rfl
  generalize plRun (gapH p) s p.frame.toNat = E at *
  generalize plRun (gapH p) s t = S at *
  have lo1 := h1.lo.at_
  simp only [intV] at lo1
  simp only [RB.weave_Place_2, pt, go_sem, ruB, lo1]
  have s1 := step1 (show t < 1000000 by omega)
  by_cases g : t < p.frame.toNat
  rotate_left
  · have e1 : decide (((t : Nat) : Int) < ((p.frame.toNat : Nat) : Int)) = false := decide_eq_false (by omega)
    have := hend (by omega)
    subst this
    try simp only [go_sem, ruB, e1]
    exact ⟨⟨_, rfl⟩, hU1, h1, hO1⟩
  have e1 : decide (((t : Nat) : Int) < ((p.frame.toNat : Nat) : Int)) = true := decide_eq_true (by omega)
  by_cases g2 : 0 < S.lack
  rotate_left
  · have e2 : decide (0 < S.lack) = false := decide_eq_false g2
    have := hdone g2
    subst this
    try simp only [go_sem, ruB, e1, e2]
    exact ⟨⟨_, rfl⟩, hU1, h1, hO1⟩
  have e2 : decide (0 < S.lack) = true := decide_eq_true g2
  try simp only [go_sem, ruB, e1, e2]
  refine gC.of (give_spec h1 f2 f64 g ⟨by omega, hl1⟩) ?_
  rintro v m2 ⟨hU2, ⟨rfl, hno, h2⟩ | ⟨j, hj, rfl, hok, hbef, h2⟩⟩
  · have e3 : decide ((0 : Int) ≤ -1) = false := by decide
    have hs' := plStep_none (okG_none h1.ok.2 hno)
    rw [hs'] at hstep
    try simp only [go_sem, ruB, e3, s1]
    have hO2 := hO1.updq hU2 fun x hx => (hd x hx).2.2
    exact ⟨p.frame.toNat - (t + 1), by omega, t + 1, by omega, rfl, by rw [hstep], hU1.trans hU2 (fun x hx => hx) (fun x hx => .inl (List.mem_append_left _ hx)), by rw [hstep]; exact h2, by rw [hstep]; exact hO2, by rw [hstep]; exact hl1⟩
  · have e3 : decide ((0 : Int) ≤ ((j : Nat) : Int)) = true := decide_eq_true (by omega)
    have hs' := plStep_some g2 hok hbef
    rw [hs'] at hstep
    have hO2 := hO1.updq hU2 fun x hx => (hd x hx).2.2
    obtain ⟨q, a1, a2⟩ := hO2.sl.get (k := .i64) hj
    rw [rgC_get hj] at a2
    obtain ⟨b', m3, c1, c2, c3, c4, c5⟩ := hO2.putB (w := u64 (withB (S.gv (csF p j)) (t : Nat))) (k := .i64) (i := j) (o := 0) hj (by omega) rfl rfl
    simp only [Nat.mul_one, Nat.add_zero] at c1 c2 c3
    rw [a1] at c1
    cases c1
    rw [rgC_set, rgC_coreG hj] at c3
    have ors := @or_shl (S.gv (csF p j)) t (by omega)
    have i0 : (0 : Int) ≤ ((t : Nat) : Int) := by omega
    have w1 : IntKind.wrap .i64 (S.lack - 1) = S.lack - 1 := wrap_i64 (by omega) (by omega)
    have h3 := h2.upd c4 (fun hm => (hd bl hm).1 rfl) (fun x hx hm => (hd x hm).2.1 hx) (fun x hx hm => (hd x hm).2.2 hx)
    try simp only [go_sem, ruB, e3, a1, a2, i0, Int.toNat_natCast, ors, c2, w1, s1]
    exact ⟨p.frame.toNat - (t + 1), by omega, t + 1, by omega, rfl, by rw [hstep], (hU1.trans hU2 (fun x hx => hx) (fun x hx => .inl (List.mem_append_left _ hx))).trans c4 (fun x hx => hx) (fun x hx => .inl (List.mem_append_right _ hx)), by rw [hstep]; exact h3, by rw [hstep]; exact c3, by rw [hstep]; show S.lack - 1 ≤ 64; omega⟩
end Go.Am


/- Weave: Place's pieces, walked. -/
set_option linter.unusedVariables false
set_option linter.unusedSimpArgs false
namespace Go.Am
open Classical
variable {m : Mem}

theorem Own.appWp {mE m2 : Mem} {i M q1 q2 : Nat} {cs : List Value} {v : Value} {a : Int} {x : BitVec 64} (h : Own mE m2 2 i cs v) (hi : i < 1000) (hlt : ∀ b ∈ vb v, b < M) (hM : mE.next ≤ M) (h1 : M ≤ q1) (h2 : q1 < q2) (h3 : q2 < m2.next) :
    ∃ v' m4, aApp (some q2) 2 16 (m2.set q1 (some (.cells [.int .i64 a, u64 x] (some 2)))) v (.slice (some ⟨q1, 0, none⟩) 1 1) = some (v', m4) ∧ Own mE m4 2 (i + 1) (cs ++ [.int .i64 a, u64 x]) v' ∧ m2.next ≤ m4.next ∧ (∀ b, b < M → b ∉ vb v → m4.blk b = m2.blk b) ∧ (∀ b ∈ vb v', b ∈ vb v ∨ M ≤ b) := by
  have hU : Upd m2 (m2.set q1 (some (.cells [.int .i64 a, u64 x] (some 2)))) [q1] := Upd.set (by simp)
  have s4 : Sl (m2.set q1 (some (.cells [.int .i64 a, u64 x] (some 2)))) 2 1 [.int .i64 a, u64 x] (.slice (some ⟨q1, 0, none⟩) 1 1) := by
    refine .at (Nat.le_refl _) ?_
    unfold aCells
    simp [Mem.set]
  have o4 := h.updq hU (fun b hb => by have := hlt b hb; simp; omega)
  obtain ⟨v', m4, r1, r2, r3, r4, r5⟩ := o4.appB (n := i) (q := q2) (M := M) (by_ := 16) s4 rfl (by omega) (by omega) (by omega) hM (by simpa [Mem.set] using h3) (SlOff.vb_iff.2 fun b hb => by have := hlt b hb; simp; omega)
  exact ⟨v', m4, r1, r2, r3, fun b hb hn => by rw [r4 b hb hn, hU.same b (by omega) (by simp; omega)], r5⟩
theorem wfill_p {a : Int} {x : BitVec 64} : fillL [.int .i64 0, u64 0#64] [(0, 1, .int .i64 a), (1, 1, u64 x)] = some [.int .i64 a, u64 x] := rfl
theorem wfill_pp {a : Int} {x : BitVec 64} : fillL [.int .i64 0, u64 0#64] [(0, 2, .agg #[.int .i64 a, u64 x])] = some [.int .i64 a, u64 x] := rfl
theorem pcL_len {gv : Nat → BitVec 64} {l : List Nat} : (pcL gv l).length ≤ l.length := by
  unfold pcL; rw [List.length_map]; exact List.length_filter_le _ _
/-- A place that grows. -/
structure PbV (m0 m : Mem) (bt : Nat) (w : Wt) (ps : List Pc) (pv : Value) : Prop where
  bk : Bk m bt [.int .i64 w.1, .int .i64 w.2, .int .i64 0, pv] 4
  b0 : m0.next ≤ bt
  o : Own m0 m 2 ps.length (ps.flatMap pcV) pv
  d : bt ∉ vb pv
  x : Ext m0 m
theorem PbV.app {m0 m1 : Mem} {bt q1 q2 : Nat} {w : Wt} {ps : List Pc} {pv : Value} {m2 : Mem} {a : Int} {x : BitVec 64} (h : PbV m0 m1 bt w ps pv) (hl : ps.length ≤ 100) (hx : Ext m1 m2) (h1 : m1.next ≤ q1) (h2 : q1 < q2) (h3 : q2 < m2.next) :
    ∃ pv' m4, aApp (some q2) 2 16 (m2.set q1 (some (.cells [.int .i64 a, u64 x] (some 2)))) pv (.slice (some ⟨q1, 0, none⟩) 1 1) = some (pv', m4) ∧ Bk m4 bt [.int .i64 w.1, .int .i64 w.2, .int .i64 0, pv] 4 ∧ (∃ a n c, pv' = .slice a n c) ∧ PbV m0 (m4.set bt (some (.cells [.int .i64 w.1, .int .i64 w.2, .int .i64 0, pv'] (some 4)))) bt w (ps ++ [(a, x)]) pv' := by
  have lP := SlLt.vb_iff.1 h.o.lt
  have gP := h.o.ge
  have n1 := h.x.next
  have n2 := hx.next
  have lb := h.bk.lt
  obtain ⟨v', m4, r1, r2, r3, r4, r5⟩ := (h.o.keep hx).appWp (a := a) (x := x) (by omega) lP n1 h1 h2 h3
  have hU : Upd m4 (m4.set bt (some (.cells [.int .i64 w.1, .int .i64 w.2, .int .i64 0, v'] (some 4)))) [bt] := Upd.set (by simp)
  have nv : bt ∉ vb v' := fun hm => (r5 bt hm).elim h.d fun q => by omega
  refine ⟨v', m4, r1, ⟨by rw [r4 bt lb h.d, hx.same bt lb]; exact h.bk.at_, by omega⟩, slice_own r2, ⟨by simp [Mem.set], by show bt < m4.next; omega⟩, h.b0, ?_, nv, Ext.set ⟨by omega, fun b hb => ?_⟩ h.b0⟩
  · rw [List.length_append, List.length_singleton, List.flatMap_append]
    refine r2.updq hU fun y hy hm => ?_
    rw [List.mem_singleton] at hm; exact nv (hm ▸ hy)
  · rw [r4 b (by omega) (fun q => by have := gP b q; omega), (h.x.trans hx).same b hb]
set_option maxHeartbeats 8000000 in
theorem pieces_loop {m0 : Mem} {p : PlanD} {bt : Nat} {csV gvV b : Value} {gv : Nat → BitVec 64} {w : Wt} (hc : Sl m0 1 (csP p 16).length (ints (csP p 16)) csV) (hcl : SlLt m0 csV) (hg : Sl m0 1 (csP p 16).length (rgC (csP p 16).length fun j => u64 (gv (csF p j))) gvV) (hgl : SlLt m0 gvV) (h : PbV m0 m bt w [] (.slice none 0 0)) :
    WL R [4, 8, 12, 76, 77, 78] RB.weave_Place_1 [(4, b), (8, gvV), (12, pt bt), (76, csV), (77, .int .i64 ((csP p 16).length : Nat)), (78, .int .i64 0)] m fun y e m' => y = .exit 2 ∧ (∃ c rs, e = (4, b) :: (8, c) :: (12, pt bt) :: rs) ∧ ∃ pv, PbV m0 m' bt w (pcL gv (csP p 16)) pv := by
  have h16 := csP_len (p := p) (n := 16)
  refine WL.of (fun z e m' => ∃ (j : Nat) (pv : Value), j ≤ (csP p 16).length ∧ z = (csP p 16).length - j ∧ e = [(4, b), (8, gvV), (12, pt bt), (76, csV), (77, .int .i64 ((csP p 16).length : Nat)), (78, .int .i64 (j : Nat))] ∧ PbV m0 m' bt w (pcL gv ((csP p 16).take j)) pv) (csP p 16).length
    ⟨0, _, by omega, by omega, by simp only [pt, go_sem] <;> rfl, h⟩ ?_
  rintro _ _ m1 ⟨j, pv, hj, rfl, rfl, hP⟩
  simp only [RB.weave_Place_1, pt, go_sem]
  have s1 := step1 (show j < 1000000 by omega)
  by_cases g : j < (csP p 16).length
  rotate_left
  · have e1 : decide (((j : Nat) : Int) < (((csP p 16).length : Nat) : Int)) = false := decide_eq_false (by omega)
    rw [List.take_of_length_le (by omega)] at hP
    try simp only [go_sem, ruB, e1]
    exact ⟨⟨_, _, rfl⟩, pv, hP⟩
  have e1 : decide (((j : Nat) : Int) < (((csP p 16).length : Nat) : Int)) = true := decide_eq_true (by omega)
  obtain ⟨q, c1, c2⟩ := (hc.keep hcl hP.x).get (k := .i64) g
  have c2' : aLoad false 1 m1 q = some (.int .i64 (csF p j : Nat)) := by
    rw [c2, csF_get g]; unfold ints; rw [List.getElem?_map, List.getElem?_eq_getElem g]; rfl
  obtain ⟨q2, g1, g2⟩ := (hg.keep hgl hP.x).get (k := .i64) g
  rw [rgC_get g] at g2
  have htk : (csP p 16).take (j + 1) = (csP p 16).take j ++ [csF p j] := by rw [csF_get g]; exact List.take_succ_eq_append_getElem g
  have hpn : (pcL gv ((csP p 16).take j)).length ≤ 100 := by
    have := @pcL_len gv ((csP p 16).take j)
    rw [List.length_take] at this; omega
  have bk := hP.bk.at_
  by_cases e : gv (csF p j) = 0#64
  · have e2 : (decide ¬gv (csF p j) = 0#64) = false := by simp [e]
    try simp only [go_sem, ruB, e1, c1, c2', g1, g2, e2, s1]
    refine ⟨(csP p 16).length - (j + 1), by omega, j + 1, pv, by omega, rfl, rfl, ?_⟩
    rw [htk, pcL_snoc, if_pos e, List.append_nil]; exact hP
  · have e2 : (decide ¬gv (csF p j) = 0#64) = true := by simp [e]
    try simp only [go_sem, ruB, e1, c1, c2', g1, g2, e2, s1, bk, ↓wfill_p, ↓wfill_pp]
    obtain ⟨pv', m4, q1, q2', ⟨xa, xn, xc, rfl⟩, hP4⟩ := hP.app (m2 := m1.bump 12) (q1 := m1.next + 8) (q2 := m1.next + 9) (a := (csF p j : Nat)) (x := gv (csF p j)) hpn Ext.bump (by omega) (by omega) (by simp only [Mem.bump_next]; omega)
    try simp only [go_sem, ruB, q1, q2'.at_, s1]
    refine ⟨(csP p 16).length - (j + 1), by omega, j + 1, .slice xa xn xc, by omega, rfl, rfl, ?_⟩
    rw [htk, pcL_snoc, if_neg e]; exact hP4
end Go.Am


/- Rows of spans, with no program in sight: what is in one; that a right row is told by what is in it; how many numbers there are. -/
set_option linter.unusedVariables false
set_option linter.unusedSimpArgs false
namespace Go.Am

abbrev Sp := Int × Int
instance : Inhabited Sp := ⟨(0, 0)⟩
def spV (s : Sp) : List Value := [.int .i64 s.1, .int .i64 s.2]
theorem spV_len (s : Sp) : (spV s).length = 2 := rfl
def InS (l : List Sp) (x : Int) : Prop := ∃ s ∈ l, s.1 ≤ x ∧ x < s.2
def hasS (l : List Sp) (x : Int) : Bool := l.any fun s => decide (s.1 ≤ x) && decide (x < s.2)
theorem hasS_iff {l : List Sp} {x : Int} : hasS l x = true ↔ InS l x := by
  simp only [hasS, InS, List.any_eq_true, Bool.and_eq_true, decide_eq_true_eq]
theorem InS.nil {x : Int} : ¬ InS [] x := by rintro ⟨s, h, _⟩; simp at h
theorem InS.cons {s : Sp} {l : List Sp} {x : Int} : InS (s :: l) x ↔ (s.1 ≤ x ∧ x < s.2) ∨ InS l x := by
  unfold InS; simp
theorem InS.append {a b : List Sp} {x : Int} : InS (a ++ b) x ↔ InS a x ∨ InS b x := by
  unfold InS
  constructor
  · rintro ⟨s, h, h1⟩
    rcases List.mem_append.1 h with h | h
    · exact .inl ⟨s, h, h1⟩
    · exact .inr ⟨s, h, h1⟩
  · rintro (⟨s, h, h1⟩ | ⟨s, h, h1⟩)
    · exact ⟨s, List.mem_append.2 (.inl h), h1⟩
    · exact ⟨s, List.mem_append.2 (.inr h), h1⟩
theorem InS.single {s : Sp} {x : Int} : InS [s] x ↔ s.1 ≤ x ∧ x < s.2 := by
  unfold InS; simp
theorem InS.snoc {a : List Sp} {s : Sp} {x : Int} : InS (a ++ [s]) x ↔ InS a x ∨ (s.1 ≤ x ∧ x < s.2) := by
  rw [InS.append, InS.single]

/-- A row that is right: none is empty, and there is a number between any two. -/
def Rt (l : List Sp) : Prop := (∀ s ∈ l, s.1 < s.2) ∧ l.Pairwise fun s t => s.2 < t.1
theorem Rt.nil : Rt [] := ⟨by simp, .nil⟩
theorem Rt.cons {s : Sp} {l : List Sp} : Rt (s :: l) ↔ s.1 < s.2 ∧ (∀ t ∈ l, s.2 < t.1) ∧ Rt l := by
  unfold Rt
  rw [List.pairwise_cons]
  constructor
  · rintro ⟨h1, h2, h3⟩
    exact ⟨h1 s (by simp), h2, fun t ht => h1 t (by simp [ht]), h3⟩
  · rintro ⟨h1, h2, h3, h4⟩
    refine ⟨fun t ht => ?_, h2, h4⟩
    rcases List.mem_cons.1 ht with rfl | h
    · exact h1
    · exact h3 t h
theorem Rt.snoc {s : Sp} {l : List Sp} : Rt (l ++ [s]) ↔ Rt l ∧ s.1 < s.2 ∧ ∀ t ∈ l, t.2 < s.1 := by
  unfold Rt
  rw [List.pairwise_append]
  constructor
  · rintro ⟨h1, h2, -, h3⟩
    exact ⟨⟨fun t ht => h1 t (by simp [ht]), h2⟩, h1 s (by simp), fun t ht => h3 t ht s (by simp)⟩
  · rintro ⟨⟨h1, h2⟩, h3, h4⟩
    refine ⟨fun t ht => ?_, h2, List.pairwise_singleton _ _, fun t ht u hu => ?_⟩
    · rcases List.mem_append.1 ht with h | h
      · exact h1 t h
      · rw [List.mem_singleton.1 h]; exact h3
    · rw [List.mem_singleton.1 hu]; exact h4 t ht

/-- A right row is told by what is in it. -/
theorem Rt.eq : ∀ {a b : List Sp}, Rt a → Rt b → (∀ x, InS a x ↔ InS b x) → a = b
  | [], [], _, _, _ => rfl
  | [], t :: b, _, hb, h => by
    have := (h t.1).2 (InS.cons.2 (.inl ⟨Int.le_refl _, (Rt.cons.1 hb).1⟩))
    exact absurd this InS.nil
  | s :: a, [], ha, _, h => by
    have := (h s.1).1 (InS.cons.2 (.inl ⟨Int.le_refl _, (Rt.cons.1 ha).1⟩))
    exact absurd this InS.nil
  | s :: a, t :: b, ha, hb, h => by
    obtain ⟨a1, a2, a3⟩ := Rt.cons.1 ha
    obtain ⟨b1, b2, b3⟩ := Rt.cons.1 hb
    have ga : ∀ x, InS a x → s.2 < x := by rintro x ⟨u, hu, h1, _⟩; have := a2 u hu; omega
    have gb : ∀ x, InS b x → t.2 < x := by rintro x ⟨u, hu, h1, _⟩; have := b2 u hu; omega
    have k : ∀ x, ((s.1 ≤ x ∧ x < s.2) ∨ InS a x) ↔ ((t.1 ≤ x ∧ x < t.2) ∨ InS b x) := fun x => by rw [← InS.cons, ← InS.cons]; exact h x
    have e1 : s.1 = t.1 := by
      have h1 : t.1 ≤ s.1 := by
        rcases (k s.1).1 (.inl ⟨Int.le_refl _, a1⟩) with h | h
        · exact h.1
        · have := gb _ h; omega
      have h2 : s.1 ≤ t.1 := by
        rcases (k t.1).2 (.inl ⟨Int.le_refl _, b1⟩) with h | h
        · exact h.1
        · have := ga _ h; omega
      omega
    have e2 : s.2 = t.2 := by
      have h1 : ¬ s.2 < t.2 := fun hlt => by
        rcases (k s.2).2 (.inl ⟨by omega, hlt⟩) with h | h
        · omega
        · have := ga _ h; omega
      have h2 : ¬ t.2 < s.2 := fun hlt => by
        rcases (k t.2).1 (.inl ⟨by omega, hlt⟩) with h | h
        · omega
        · have := gb _ h; omega
      omega
    have e : s = t := Prod.ext e1 e2
    subst e
    congr 1
    refine Rt.eq a3 b3 fun x => ?_
    have kx := k x
    constructor
    · intro hx
      have := ga x hx
      rcases kx.1 (.inr hx) with h | h
      · omega
      · exact h
    · intro hx
      have := gb x hx
      rcases kx.2 (.inr hx) with h | h
      · omega
      · exact h

theorem Rt.none {a : List Sp} (h : Rt a) (hn : ∀ x, ¬ InS a x) : a = [] :=
  Rt.eq h Rt.nil fun x => ⟨fun hx => absurd hx (hn x), fun hx => absurd hx InS.nil⟩

/-! ### Steps -/
theorem Rt.put {r : List Sp} {s : Sp} (h : Rt r) (h1 : s.1 < s.2) (h2 : ∀ t ∈ r, t.2 < s.1) : Rt (r ++ [s]) := Rt.snoc.2 ⟨h, h1, h2⟩
/-- The last one goes on. -/
theorem Rt.more {r : List Sp} {t : Sp} {e : Int} (h : Rt (r ++ [t])) (h1 : t.2 ≤ e) : Rt (r ++ [(t.1, e)]) := by
  obtain ⟨h2, h3, h4⟩ := Rt.snoc.1 h
  exact Rt.snoc.2 ⟨h2, by show t.1 < e; omega, h4⟩
theorem Rt.last {r : List Sp} {t : Sp} (h : Rt (r ++ [t])) {u : Sp} (hu : u ∈ r ++ [t]) : u.2 ≤ t.2 := by
  obtain ⟨h2, h3, h4⟩ := Rt.snoc.1 h
  rcases List.mem_append.1 hu with h | h
  · have := h4 u h; omega
  · rw [List.mem_singleton.1 h]; omega

/-! ### How many -/
def sumS (l : List Sp) : Int := (l.map fun s => s.2 - s.1).foldr (· + ·) 0
theorem sumS_cons {s : Sp} {l : List Sp} : sumS (s :: l) = (s.2 - s.1) + sumS l := rfl

def cnt (p : Int → Bool) (lo : Int) (n : Nat) : Int := ((List.range n).countP fun (i : Nat) => p (lo + i))
theorem cnt_succ {p : Int → Bool} {lo : Int} {n : Nat} : cnt p lo (n + 1) = cnt p lo n + (if p (lo + n) then 1 else 0) := by
  unfold cnt
  rw [List.range_succ, List.countP_append]
  simp only [List.countP_cons, List.countP_nil]
  split <;> simp
theorem cnt_or {p q : Int → Bool} {lo : Int} (h : ∀ x, ¬ (p x = true ∧ q x = true)) : ∀ {n : Nat}, cnt (fun x => p x || q x) lo n = cnt p lo n + cnt q lo n
  | 0 => rfl
  | n + 1 => by
    rw [cnt_succ, cnt_succ, cnt_succ, cnt_or h]
    have := h (lo + n)
    cases hp : p (lo + n) <;> cases hq : q (lo + n) <;> simp [hp, hq] at this ⊢ <;> omega
theorem cnt_congr {p q : Int → Bool} {lo : Int} {n : Nat} (h : ∀ x, p x = q x) : cnt p lo n = cnt q lo n := by
  have : p = q := funext h
  rw [this]
theorem cnt_none {lo : Int} : ∀ {n : Nat}, cnt (fun _ => false) lo n = 0
  | 0 => rfl
  | n + 1 => by rw [cnt_succ, cnt_none]; rfl
theorem cnt_span {a b lo : Int} (h1 : lo ≤ a) (h2 : a ≤ b) : ∀ {n : Nat}, b ≤ lo + n → cnt (fun x => decide (a ≤ x) && decide (x < b)) lo n = b - a := by
  have key : ∀ n : Nat, cnt (fun x => decide (a ≤ x) && decide (x < b)) lo n = (if lo + n ≤ a then 0 else if lo + n ≤ b then lo + n - a else b - a) := by
    intro n
    induction n with
    | zero =>
      show (0 : Int) = _
      rw [if_pos (by omega)]
    | succ n ih =>
      rw [cnt_succ, ih]
      by_cases c1 : a ≤ lo + n
      · by_cases c2 : lo + n < b
        · simp only [c1, c2, decide_true, Bool.and_self, if_true]
          rw [if_neg (show ¬ lo + ((n + 1 : Nat) : Int) ≤ a by omega), if_pos (show lo + ((n + 1 : Nat) : Int) ≤ b by omega)]
          by_cases c3 : lo + (n : Int) ≤ a
          · rw [if_pos c3]; omega
          · rw [if_neg c3, if_pos (by omega)]; omega
        · simp only [c1, c2, decide_true, decide_false, Bool.and_false, Bool.false_eq_true, if_false]
          rw [if_neg (show ¬ lo + ((n + 1 : Nat) : Int) ≤ a by omega), if_neg (show ¬ lo + ((n + 1 : Nat) : Int) ≤ b by omega)]
          by_cases c3 : lo + (n : Int) ≤ a
          · rw [if_pos c3]; omega
          · rw [if_neg c3]
            by_cases c4 : lo + (n : Int) ≤ b
            · rw [if_pos c4]; omega
            · rw [if_neg c4]; omega
      · simp only [c1, decide_false, Bool.false_and, Bool.false_eq_true, if_false]
        rw [if_pos (show lo + (n : Int) ≤ a by omega), if_pos (show lo + ((n + 1 : Nat) : Int) ≤ a by omega)]
        omega
  intro n h
  rw [key]
  by_cases c : lo + (n : Int) ≤ a
  · rw [if_pos c]; omega
  · rw [if_neg c]
    by_cases c2 : lo + (n : Int) ≤ b
    · rw [if_pos c2]; omega
    · rw [if_neg c2]

theorem Rt.cnt {lo : Int} {n : Nat} : ∀ {l : List Sp}, Rt l → (∀ s ∈ l, lo ≤ s.1 ∧ s.2 ≤ lo + n) → cnt (hasS l) lo n = sumS l
  | [], _, _ => by
    rw [show sumS [] = 0 from rfl, ← cnt_none (lo := lo) (n := n)]
    exact cnt_congr fun x => rfl
  | s :: l, h, hb => by
    obtain ⟨h1, h2, h3⟩ := Rt.cons.1 h
    have hs := hb s (by simp)
    rw [sumS_cons, ← Rt.cnt h3 (fun t ht => hb t (by simp [ht])), ← cnt_span hs.1 (by omega) hs.2, ← cnt_or]
    · exact cnt_congr fun x => by unfold hasS; rw [List.any_cons]
    · rintro x ⟨h4, h5⟩
      simp only [Bool.and_eq_true, decide_eq_true_eq] at h4
      obtain ⟨t, ht, h6, h7⟩ := hasS_iff.1 h5
      have := h2 t ht
      omega

theorem bounds : ∀ (l : List Sp), ∃ lo : Int, ∃ n : Nat, ∀ s ∈ l, lo ≤ s.1 ∧ s.2 ≤ lo + n
  | [] => ⟨0, 0, by simp⟩
  | s :: l => by
    obtain ⟨lo, n, h⟩ := bounds l
    refine ⟨min lo s.1, (max (lo + n) s.2 - min lo s.1).toNat, fun t ht => ?_⟩
    rcases List.mem_cons.1 ht with rfl | ht
    · omega
    · have := h t ht; omega

/-- Two rows with nothing in common: as many as both. -/
theorem Rt.sum {a b c : List Sp} (ha : Rt a) (hb : Rt b) (hc : Rt c) (h : ∀ x, InS c x ↔ InS a x ∨ InS b x) (hd : ∀ x, ¬ (InS a x ∧ InS b x)) : sumS a + sumS b = sumS c := by
  obtain ⟨lo, n, hx⟩ := bounds (a ++ (b ++ c))
  rw [← ha.cnt (lo := lo) (n := n) (fun s hs => hx s (by simp [hs])), ← hb.cnt (lo := lo) (n := n) (fun s hs => hx s (by simp [hs])), ← hc.cnt (lo := lo) (n := n) (fun s hs => hx s (by simp [hs])), ← cnt_or]
  · refine (cnt_congr fun x => ?_).symm
    rw [Bool.eq_iff_iff, Bool.or_eq_true, hasS_iff, hasS_iff, hasS_iff]; exact h x
  · rintro x ⟨h1, h2⟩
    exact hd x ⟨hasS_iff.1 h1, hasS_iff.1 h2⟩

end Go.Am


/- OrderD over the table of weave (relayset.py). -/
set_option linter.unusedVariables false
set_option linter.unusedSimpArgs false
namespace Go.Am
/-- What is wrong with the first one that is not right. -/
noncomputable def chkF (f : Int) (pre : List Sp) : List Sp → Int
  | [] => 0
  | w :: r => open Classical in if ¬ isU w.1 then 20 else if w.2 < 1 ∨ f < w.2 then 21 else if ∃ p ∈ pre, p.1 = w.1 then 11 else chkF f (pre ++ [w]) r
end Go.Am


/- OrderW over the table of weave (relayset.py). -/
set_option linter.unusedVariables false
set_option linter.unusedSimpArgs false
namespace Go.Am
variable {m : Mem}

end Go.Am


/- Maps whose keys are whole numbers. -/
set_option linter.unusedVariables false
namespace Go.Am
variable {α : Type}

def mpL (e : α → Value) (L : List (Int × α)) : List (Value × Value) := L.map fun p => (.int .i64 p.1, e p.2)
def lkp : List (Int × α) → Int → Option α
  | [], _ => none
  | (k, a) :: r, x => if k = x then some a else lkp r x
def updL : List (Int × α) → Int → α → List (Int × α)
  | [], x, a => [(x, a)]
  | (k, b) :: r, x, a => if k = x then (x, a) :: r else (k, b) :: updL r x a
def delL : List (Int × α) → Int → List (Int × α)
  | [], _ => []
  | (k, b) :: r, x => if k = x then r else (k, b) :: delL r x

theorem lkp_upd {L : List (Int × α)} {x y : Int} {a : α} : lkp (updL L x a) y = if y = x then some a else lkp L y := by
  induction L with
  | nil => simp only [updL, lkp]; by_cases h : x = y <;> simp [h]; intro e; exact absurd e.symm h
  | cons p r ih =>
    obtain ⟨k, b⟩ := p
    simp only [updL]
    by_cases h : k = x
    · subst h
      simp only [if_true, lkp]
      by_cases g : k = y
      · subst g; simp
      · rw [if_neg g, if_neg (fun e => g e.symm), if_neg g]
    · simp only [h, if_false, lkp]
      by_cases g : k = y
      · subst g; rw [if_pos rfl, if_neg h, if_pos rfl]
      · rw [if_neg g, ih, if_neg g]

theorem findK_mp {e : α → Value} {x : Int} : ∀ (L : List (Int × α)) (i : Nat), (lkp L x = none → findK .int (.int .i64 x) (mpL e L) i = some none ∧ ∀ a, mpL e L ++ [(.int .i64 x, e a)] = mpL e (updL L x a)) ∧
    ∀ a, lkp L x = some a → ∃ j, findK .int (.int .i64 x) (mpL e L) i = some (some (i + j, e a)) ∧ (∀ b, (mpL e L).set j (.int .i64 x, e b) = mpL e (updL L x b)) ∧ (mpL e L).eraseIdx j = mpL e (delL L x)
  | [], i => ⟨fun _ => ⟨rfl, fun a => rfl⟩, fun a h => by simp [lkp] at h⟩
  | (k, b) :: r, i => by
    by_cases h : k = x
    · subst h
      refine ⟨fun h => by simp [lkp] at h, fun a ha => ?_⟩
      simp only [lkp, if_true, Option.some.injEq] at ha
      subst ha
      refine ⟨0, ?_, fun b => ?_, ?_⟩
      · simp [mpL, findK, keyEq]
      · simp [mpL, updL]
      · simp [mpL, delL]
    · have hk : keyEq .int (.int .i64 x) (.int .i64 k) = some false := by simp [keyEq]; exact fun e => h e.symm
      have hf : findK .int (.int .i64 x) (mpL e ((k, b) :: r)) i = findK .int (.int .i64 x) (mpL e r) (i + 1) := by
        show (match keyEq .int (.int .i64 x) (.int .i64 k) with | some true => _ | some false => _ | none => _) = _
        rw [hk]; rfl
      obtain ⟨h1, h2⟩ := findK_mp (e := e) r (i + 1)
      refine ⟨fun hn => ?_, fun a ha => ?_⟩
      · simp only [lkp, h, if_false] at hn
        obtain ⟨g1, g2⟩ := h1 hn
        refine ⟨by rw [hf, g1], fun a => ?_⟩
        simp only [updL, h, if_false]
        show (.int .i64 k, e b) :: (mpL e r ++ _) = _
        rw [g2]; rfl
      · simp only [lkp, h, if_false] at ha
        obtain ⟨j, g1, g2, g3⟩ := h2 a ha
        refine ⟨j + 1, by rw [hf, g1]; congr 3; omega, fun c => ?_, ?_⟩
        · simp only [updL, h, if_false]
          show (.int .i64 k, e b) :: ((mpL e r).set j _) = _
          rw [g2]; rfl
        · simp only [delL, h, if_false]
          show (.int .i64 k, e b) :: ((mpL e r).eraseIdx j) = _
          rw [g3]; rfl

/-- A map that is there. -/
structure Mp (m : Mem) (r : Nat) (e : α → Value) (L : List (Int × α)) : Prop where
  at_ : m.blk r = some (.map (mpL e L))
  lt : r < m.next
theorem Mp.new {m : Mem} {e : α → Value} : Mp (m.new (.map [])) m.next e [] := ⟨by simp [Mem.new, mpL], by simp [Mem.new]⟩
theorem Mp.keep {m m' : Mem} {r : Nat} {e : α → Value} {L : List (Int × α)} (h : Mp m r e L) (hx : Ext m m') : Mp m' r e L := ⟨by rw [hx.same _ h.lt]; exact h.at_, Nat.lt_of_lt_of_le h.lt hx.next⟩
theorem Mp.upd {m m' : Mem} {r : Nat} {e : α → Value} {L : List (Int × α)} {fp : List Nat} (h : Mp m r e L) (hx : Upd m m' fp) (hn : r ∉ fp) : Mp m' r e L := ⟨by rw [hx.same _ h.lt hn]; exact h.at_, Nat.lt_of_lt_of_le h.lt hx.next⟩
theorem Mp.other {m : Mem} {r b : Nat} {e : α → Value} {L : List (Int × α)} {o : Option AObj} (h : Mp m r e L) (hn : r ≠ b) : Mp (m.set b o) r e L := ⟨by simp [Mem.set, hn]; exact h.at_, h.lt⟩
theorem Mp.self {m : Mem} {r : Nat} {e : α → Value} {L L' : List (Int × α)} (h : Mp m r e L) : Mp (m.set r (some (.map (mpL e L')))) r e L' := ⟨by simp [Mem.set], h.lt⟩

theorem Mp.look {m : Mem} {r : Nat} {e : α → Value} {L : List (Int × α)} (h : Mp m r e L) {x : Int} {z : α} : aLook .int (e z) false m (.map (some r)) (.int .i64 x) = some (e ((lkp L x).getD z)) := by
  simp only [aLook, h.at_, Option.bind_some]
  obtain ⟨h1, h2⟩ := findK_mp (e := e) (x := x) L 0
  cases hl : lkp L x with
  | none => rw [(h1 hl).1]; rfl
  | some a =>
    obtain ⟨j, g, -⟩ := h2 a hl
    rw [g]; rfl
theorem Mp.look_ok {m : Mem} {r : Nat} {e : α → Value} {L : List (Int × α)} (h : Mp m r e L) {x : Int} {z : α} : aLook .int (e z) true m (.map (some r)) (.int .i64 x) = some (.tuple #[e ((lkp L x).getD z), .bool (lkp L x).isSome]) := by
  simp only [aLook, h.at_, Option.bind_some]
  obtain ⟨h1, h2⟩ := findK_mp (e := e) (x := x) L 0
  cases hl : lkp L x with
  | none => rw [(h1 hl).1]; rfl
  | some a =>
    obtain ⟨j, g, -⟩ := h2 a hl
    rw [g]; rfl
theorem Mp.put {m : Mem} {r : Nat} {e : α → Value} {L : List (Int × α)} (h : Mp m r e L) {x : Int} {a : α} : aUpd .int m (.map (some r)) (.int .i64 x) (e a) = some (m.set r (some (.map (mpL e (updL L x a))))) := by
  simp only [aUpd, h.at_]
  obtain ⟨h1, h2⟩ := findK_mp (e := e) (x := x) L 0
  cases hl : lkp L x with
  | none => rw [(h1 hl).1]; simp only [Option.map_some]; rw [(h1 hl).2]
  | some b =>
    obtain ⟨j, g, g2, -⟩ := h2 b hl
    rw [g]; simp only [Option.map_some, Nat.zero_add]; rw [g2]
theorem Mp.del {m : Mem} {r : Nat} {e : α → Value} {L : List (Int × α)} (h : Mp m r e L) {x : Int} : ∃ L', L' = (if (lkp L x).isSome then delL L x else L) ∧ ∃ m', aDel .int m (.map (some r)) (.int .i64 x) = some m' ∧ Mp m' r e L' ∧ Upd m m' [r] := by
  refine ⟨_, rfl, ?_⟩
  simp only [aDel, h.at_]
  obtain ⟨h1, h2⟩ := findK_mp (e := e) (x := x) L 0
  cases hl : lkp L x with
  | none => rw [(h1 hl).1]; exact ⟨m, rfl, h, Upd.refl _ _⟩
  | some b =>
    obtain ⟨j, g, -, g3⟩ := h2 b hl
    rw [g]; simp only [Option.map_some, Nat.zero_add]
    rw [g3]
    exact ⟨_, rfl, h.self, Upd.set (by simp)⟩

end Go.Am


/- OrderW2 over the table of weave (relayset.py). -/
set_option linter.unusedVariables false
set_option linter.unusedSimpArgs false
namespace Go.Am
open Classical
variable {m : Mem}

theorem chkF_drop {f : Int} {l : List Sp} {i : Nat} (hi : i < l.length) : chkF f (l.take i) (l.drop i) = if ¬ isU l[i].1 then 20 else if l[i].2 < 1 ∨ f < l[i].2 then 21 else if ∃ p ∈ l.take i, p.1 = l[i].1 then 11 else chkF f (l.take (i + 1)) (l.drop (i + 1)) := by
  rw [List.drop_eq_getElem_cons hi, List.take_succ_eq_append_getElem hi]
  rfl

noncomputable def chkA (f : Int) (l : List Sp) : Int := if f < 2 ∨ 64 < f then 1 else chkF f [] l

theorem refCheck1_loop {l : List Sp} {v : Value} {f : Int} {i : Nat} (hs : Sl m 2 l.length (l.flatMap spV) v) (hl : l.length < 100000) (hil : i < l.length) :
    WL R [0, 1, 5, 6] RB.ref08_Check_1 [(0, .int .i64 f), (1, v), (5, .int .i64 i), (6, .int .i64 0)] m fun x e' m' =>
      m' = m ∧ ((x = .exit 2 ∧ (∃ rest, e' = (0, .int .i64 f) :: (1, v) :: (5, .int .i64 i) :: rest) ∧ ¬ ∃ p ∈ l.take i, p.1 = l[i].1) ∨ (x = .ret ∧ Env.get e' 4 = some (.int .i64 11) ∧ ∃ p ∈ l.take i, p.1 = l[i].1)) := by
  refine WL.of (fun n e m' => ∃ k : Nat, k ≤ i ∧ n = i - k ∧ m' = m ∧ e = [(0, .int .i64 f), (1, v), (5, .int .i64 i), (6, .int .i64 k)] ∧ ¬ ∃ p ∈ l.take k, p.1 = l[i].1) i
    ⟨0, by omega, by omega, rfl, by simp only [go_sem] <;> rfl, by simp⟩ ?_
  rintro _ _ _ ⟨k, hk, rfl, rfl, rfl, hno⟩
  simp only [RB.ref08_Check_1, go_sem]
  refine gT.of (fun g1' => ?_) (fun g1' => ?_) <;> (have g1 := g1'; try simp only [decide_eq_true_eq, decide_eq_false_iff_not, beq_iff_eq, bne_iff_ne, beq_eq_false_iff_ne, ne_eq, Bool.not_eq_true', Bool.not_eq_false', bne_eq_false_iff_eq, Int.not_lt, Int.not_le] at g1)
  · have hki : k < i := by omega
    have hkl : k < l.length := by omega
    have s1 := step1 (show k < 1000000 by omega)
    obtain ⟨p, o, a1, -, a3, -⟩ := hs.elem spV_len (k := .i64) hil
    have c1 : aLoad false 1 _ (.pointer (some ⟨p, o + 0, none⟩)) = some (.int .i64 l[i].1) := a3 0 (by omega)
    obtain ⟨p', o', b1, -, b3, -⟩ := hs.elem spV_len (k := .i64) hkl
    have d1 : aLoad false 1 _ (.pointer (some ⟨p', o' + 0, none⟩)) = some (.int .i64 l[k].1) := b3 0 (by omega)
    simp only [go_sem, g1', a1, b1, c1, d1]
    refine gT.of (fun g2' => ?_) (fun g2' => ?_) <;> (have g2 := g2'; try simp only [decide_eq_true_eq, decide_eq_false_iff_not, beq_iff_eq, bne_iff_ne, beq_eq_false_iff_ne, ne_eq, Bool.not_eq_true', Bool.not_eq_false', bne_eq_false_iff_eq, Int.not_lt, Int.not_le] at g2)
    · simp only [go_sem, g2']
      refine .inr ?_
      exact ⟨l[k], List.mem_take_iff_getElem.2 ⟨k, by omega, rfl⟩, g2⟩
    · simp only [go_sem, g2', s1]
      refine ⟨i - (k + 1), by omega, k + 1, by omega, rfl, rfl, ?_⟩
      rw [List.take_succ_eq_append_getElem hkl]
      rintro ⟨p, hp, e⟩
      rcases List.mem_append.1 hp with h | h
      · exact hno ⟨p, h, e⟩
      · rw [List.mem_singleton.1 h] at e; exact g2 e
  · have : k = i := by omega
    subst this
    simp only [go_sem, g1']
    exact .inl ⟨⟨_, rfl⟩, hno⟩

theorem refCheck {l : List Sp} {v : Value} {f : Int} (hs : Sl m 2 l.length (l.flatMap spV) v) (hl : l.length < 100000) :
    WC R F.ref08_Check [.int .i64 f, v] m fun r m' => r = .int .i64 (chkA f l) ∧ m' = m := by
  refine WC.of R.ref08_Check rfl ?_
  simp only [RC.ref08_Check, go_sem]
  by_cases h1 : f < 2
  · have e1 : decide (f < 2) = true := decide_eq_true h1
    simp only [go_sem, e1]
    rw [chkA, if_pos (.inl h1)]
  · have e1 : decide (f < 2) = false := decide_eq_false h1
    simp only [go_sem, e1]
    by_cases h2 : 64 < f
    · have e2 : decide (64 < f) = true := decide_eq_true h2
      simp only [go_sem, e2]
      rw [chkA, if_pos (.inr h2)]
    · have e2 : decide (64 < f) = false := decide_eq_false h2
      have hA : chkA f l = chkF f [] l := by rw [chkA, if_neg (by omega)]
      simp only [go_sem, e2]
      rw [hA]
      refine WL.of (fun n e m' => ∃ i : Nat, i ≤ l.length ∧ n = l.length - i ∧ m' = m ∧ e = [(0, .int .i64 f), (1, v), (5, .int .i64 i)] ∧ chkF f [] l = chkF f (l.take i) (l.drop i)) l.length
        ⟨0, by omega, by omega, rfl, by simp only [go_sem] <;> rfl, rfl⟩ ?_
      rintro _ _ _ ⟨i, hi, rfl, rfl, rfl, hc⟩
      simp only [RB.ref08_Check_2, go_sem, hs.len]
      refine gT.of (fun g1' => ?_) (fun g1' => ?_) <;> (have g1 := g1'; try simp only [decide_eq_true_eq, decide_eq_false_iff_not, beq_iff_eq, bne_iff_ne, beq_eq_false_iff_ne, ne_eq, Bool.not_eq_true', Bool.not_eq_false', bne_eq_false_iff_eq, Int.not_lt, Int.not_le] at g1)
      · have hil : i < l.length := by omega
        have s1 := step1 (show i < 1000000 by omega)
        obtain ⟨p, o, a1, -, a3, -⟩ := hs.elem spV_len (k := .i64) hil
        have c1 : aLoad false 1 _ (.pointer (some ⟨p, o + 0, none⟩)) = some (.int .i64 l[i].1) := a3 0 (by omega)
        have c2 : aLoad false 1 _ (.pointer (some ⟨p, o + 1, none⟩)) = some (.int .i64 l[i].2) := a3 1 (by omega)
        rw [chkF_drop hil] at hc
        simp only [go_sem, g1', a1, c1]
        refine gC.of Is_spec ?_
        rintro _ _ ⟨⟨rfl, hu⟩ | ⟨rfl, hu⟩, hm⟩ <;> subst hm
        · rw [if_neg (by simpa using hu)] at hc
          simp only [go_sem, a1, c2]
          by_cases h3 : l[i].2 < 1
          · have e3 : decide (l[i].2 < 1) = true := decide_eq_true h3
            rw [if_pos (.inl h3)] at hc
            simp only [go_sem, e3]
            rw [hc]
          · have e3 : decide (l[i].2 < 1) = false := decide_eq_false h3
            simp only [go_sem, e3, a1, c2]
            by_cases h4 : f < l[i].2
            · have e4 : decide (f < l[i].2) = true := decide_eq_true h4
              rw [if_pos (.inr h4)] at hc
              simp only [go_sem, e4]
              rw [hc]
            · have e4 : decide (f < l[i].2) = false := decide_eq_false h4
              rw [if_neg (by omega)] at hc
              simp only [go_sem, e4]
              refine WL.mono (refCheck1_loop (f := f) hs hl hil) ?_
              rintro x e' m' ⟨rfl, ⟨rfl, ⟨rest, rfl⟩, hno⟩ | ⟨rfl, h4, hyes⟩⟩
              · rw [if_neg hno] at hc
                simp only [go_sem, s1]
                exact ⟨l.length - (i + 1), by omega, i + 1, by omega, rfl, rfl, hc⟩
              · rw [if_pos hyes] at hc
                simp only [go_sem, h4]
                rw [hc]
        · rw [if_pos hu] at hc
          simp only [go_sem]
          rw [hc]
      · have : i = l.length := by omega
        subst this
        rw [List.drop_length] at hc
        simp only [go_sem, g1']
        rw [hc]; rfl

theorem st0 {M : Mem} : aStore 0 (M.new (.cells [] (some 0))) (.pointer (some ⟨M.next, 0, none⟩)) (.agg #[]) = some (M.new (.cells [] (some 0))) := by
  have e : (#[] : Array Value) = [].toArray := rfl
  rw [e]
  simp only [go_sem, ruB]
def vU (_ : Unit) : Value := .agg #[]

set_option maxHeartbeats 2000000 in
theorem orCheck {l : List Sp} {v : Value} {f : Int} (hs : Sl m 2 l.length (l.flatMap spV) v) (hb : SlLt m v) (hl : l.length < 100000) :
    WC R F.order_Check [.int .i64 f, v] m fun r m' => r = .int .i64 (chkA f l) ∧ Ext m m' := by
  refine WC.of R.order_Check rfl ?_
  simp only [RC.order_Check, go_sem]
  by_cases h1 : f < 2
  · have e1 : decide (f < 2) = true := decide_eq_true h1
    simp only [go_sem, e1]
    rw [chkA, if_pos (.inl h1)]
    exact ⟨rfl, Ext.refl _⟩
  · have e1 : decide (f < 2) = false := decide_eq_false h1
    simp only [go_sem, e1]
    by_cases h2 : 64 < f
    · have e2 : decide (64 < f) = true := decide_eq_true h2
      simp only [go_sem, e2]
      rw [chkA, if_pos (.inr h2)]
      exact ⟨rfl, Ext.refl _⟩
    · have e2 : decide (64 < f) = false := decide_eq_false h2
      have hA : chkA f l = chkF f [] l := by rw [chkA, if_neg (by omega)]
      simp only [go_sem, e2, hs.len]
      rw [hA]
      have hx1 : Ext m (m.new (.map [])) := Ext.new
      have hM1 : Mp (m.new (.map [])) m.next vU [] := Mp.new
      have hn1 : (m.new (.map [])).next = m.next + 1 := rfl
      generalize m.new (.map []) = m1 at hx1 hM1 hn1 ⊢
      refine WL.of (fun n e m' => ∃ (i : Nat) (L : List (Int × Unit)), i ≤ l.length ∧ n = l.length - i ∧ e = [(0, .int .i64 f), (5, .map (some m.next)), (20, v), (21, .int .i64 l.length), (22, .int .i64 i)] ∧ chkF f [] l = chkF f (l.take i) (l.drop i) ∧
          Mp m' m.next vU L ∧ (∀ u, (lkp L u).isSome = decide (∃ p ∈ l.take i, p.1 = u)) ∧ Ext m m') l.length
        ⟨0, [], by omega, by omega, by simp only [go_sem] <;> rfl, rfl, hM1, fun u => by simp [lkp], hx1⟩ ?_
      rintro _ _ m2 ⟨i, L, hi, rfl, rfl, hc, hM, hL, hx⟩
      simp only [RB.order_Check_1, go_sem]
      refine gT.of (fun g1' => ?_) (fun g1' => ?_) <;> (have g1 := g1'; try simp only [decide_eq_true_eq, decide_eq_false_iff_not, beq_iff_eq, bne_iff_ne, beq_eq_false_iff_ne, ne_eq, Bool.not_eq_true', Bool.not_eq_false', bne_eq_false_iff_eq, Int.not_lt, Int.not_le] at g1)
      · have hil : i < l.length := by omega
        have s1 := step1 (show i < 1000000 by omega)
        obtain ⟨p, o, a1, a2, -, -⟩ := (hs.keep hb hx).elem spV_len (k := .i64) hil
        rw [chkF_drop hil] at hc
        have htk : l.take (i + 1) = l.take i ++ [l[i]] := List.take_succ_eq_append_getElem hil
        simp only [go_sem, g1', a1, a2]
        generalize l[i] = w at hc htk ⊢
        have hst : aStore 2 (m2.new (.cells [(.int .i64 0), (.int .i64 0)] (some 2))) (.pointer (some ⟨m2.next, 0, none⟩)) (.agg (spV w).toArray) = some (m2.new (.cells [.int .i64 w.1, .int .i64 w.2] (some 2))) := by
          simp only [spV]
          simp only [go_sem, ruB]
        simp only [go_sem, hst]
        have hxx : Ext m2 (m2.new (.cells [.int .i64 w.1, .int .i64 w.2] (some 2))) := Ext.new
        have hbx : Bk (m2.new (.cells [.int .i64 w.1, .int .i64 w.2] (some 2))) m2.next [.int .i64 w.1, .int .i64 w.2] 2 := Bk.new
        have hqm : m2.next ≠ m.next := by have := hM.lt; omega
        have hM3 := hM.keep hxx
        generalize m2.new (.cells [.int .i64 w.1, .int .i64 w.2] (some 2)) = m3 at hbx hxx hM3 ⊢
        have c1 : aLoad false 1 m3 (.pointer (some ⟨m2.next, 0, none⟩)) = some (.int .i64 w.1) := by simp only [go_sem, ruB, hbx.at_]
        have c2 : aLoad false 1 m3 (.pointer (some ⟨m2.next, 1, none⟩)) = some (.int .i64 w.2) := by simp only [go_sem, ruB, hbx.at_]
        have hx3 := hx.trans hxx
        simp only [go_sem, c1]
        refine gC.of Kind_spec ?_
        rintro _ _ ⟨⟨hu, rfl⟩ | ⟨hu, rfl⟩, hm⟩ <;> subst hm
        · rw [if_neg (by simpa using hu)] at hc
          simp only [go_sem, aExt0, aExt1, aExt2, c2]
          by_cases h3 : w.2 < 1
          · have e3 : decide (w.2 < 1) = true := decide_eq_true h3
            rw [if_pos (.inl h3)] at hc
            simp only [go_sem, e3]
            rw [hc]; exact ⟨rfl, hx3⟩
          · have e3 : decide (w.2 < 1) = false := decide_eq_false h3
            simp only [go_sem, e3, c2]
            by_cases h4 : f < w.2
            · have e4 : decide (f < w.2) = true := decide_eq_true h4
              rw [if_pos (.inr h4)] at hc
              simp only [go_sem, e4]
              rw [hc]; exact ⟨rfl, hx3⟩
            · have e4 : decide (f < w.2) = false := decide_eq_false h4
              rw [if_neg (by omega)] at hc
              have lk := hM3.look_ok (x := w.1) (z := ())
              simp only [vU] at lk
              simp only [go_sem, e4, c1, lk, aExt0, aExt1, st0]
              have hx4 := hx3.trans (Ext.new (m := _) (o := .cells [] (some 0)))
              have hM4 := hM3.keep (Ext.new (m := _) (o := .cells [] (some 0)))
              have hb4 := hbx.keep (Ext.new (m := _) (o := .cells [] (some 0)))
              generalize Mem.new _ (.cells [] (some 0)) = m4 at hx4 hM4 hb4 ⊢
              have hLu := hL w.1
              cases hlk : lkp L w.1 with
              | some _ =>
                rw [hlk] at hLu
                have hyes : ∃ p ∈ l.take i, p.1 = w.1 := of_decide_eq_true hLu.symm
                rw [if_pos hyes] at hc
                simp only [go_sem, Option.isSome_some]
                rw [hc]; exact ⟨rfl, hx4⟩
              | none =>
                rw [hlk] at hLu
                have hno : ¬ ∃ p ∈ l.take i, p.1 = w.1 := of_decide_eq_false hLu.symm
                rw [if_neg hno] at hc
                have c1' : aLoad false 1 m4 (.pointer (some ⟨m2.next, 0, none⟩)) = some (.int .i64 w.1) := by simp only [go_sem, ruB, hb4.at_]
                have pt := hM4.put (x := w.1) (a := ())
                simp only [vU] at pt
                simp only [go_sem, Option.isSome_none, c1', pt, s1]
                refine ⟨l.length - (i + 1), by omega, i + 1, updL L w.1 (), by omega, rfl, rfl, hc, hM4.self, fun u => ?_, hx4.set (Nat.le_refl _)⟩
                rw [lkp_upd, htk]
                by_cases e : u = w.1
                · subst e
                  simp
                · rw [if_neg e, hL]
                  rw [decide_eq_decide]
                  constructor
                  · rintro ⟨p, hp, h⟩; exact ⟨p, by simp [hp], h⟩
                  · rintro ⟨p, hp, h⟩
                    rcases List.mem_append.1 hp with h' | h'
                    · exact ⟨p, h', h⟩
                    · rw [List.mem_singleton.1 h'] at h; exact absurd h.symm e
        · rw [if_pos hu] at hc
          simp only [go_sem, aExt0, aExt1, aExt2]
          rw [hc]; exact ⟨rfl, hx3⟩
      · have : i = l.length := by omega
        subst this
        rw [List.drop_length] at hc
        simp only [go_sem, g1']
        rw [hc]; exact ⟨rfl, hx⟩
end Go.Am


/- PlanY1 over the table of weave (relayset.py). -/
set_option linter.unusedVariables false
set_option linter.unusedSimpArgs false
namespace Go.Am
open Classical
variable {m : Mem}

def cmpI (a b : Int) : Int := if a < b then -1 else if b < a then 1 else 0

theorem isNaN_spec {a : Int} : WC R F.cmp_isNaN_int [.int .i64 a] m fun r m' => r = .bool false ∧ m' = m := by
  refine WC.of R.cmp_isNaN_int rfl ?_
  simp only [RC.cmp_isNaN_int, go_sem]

theorem Compare_spec {a b : Int} : WC R F.cmp_Compare_int [.int .i64 a, .int .i64 b] m fun r m' => r = .int .i64 (cmpI a b) ∧ m' = m := by
  refine WC.of R.cmp_Compare_int rfl ?_
  simp only [RC.cmp_Compare_int, go_sem]
  refine gC.of isNaN_spec ?_
  rintro _ m_ ⟨rfl, hm_⟩
  replace hm_ := hm_.symm
  subst hm_
  simp only [go_sem]
  refine gC.of isNaN_spec ?_
  rintro _ m_ ⟨rfl, hm_⟩
  replace hm_ := hm_.symm
  subst hm_
  simp only [go_sem]
  unfold cmpI
  refine gT.of (fun h1' => ?_) (fun h1' => ?_) <;> (have h1 := h1'; try simp only [decide_eq_true_eq, decide_eq_false_iff_not, beq_iff_eq, bne_iff_ne, beq_eq_false_iff_ne, ne_eq, Bool.not_eq_true', Bool.not_eq_false', bne_eq_false_iff_eq, Int.not_lt, Int.not_le] at h1)
  · try simp only [go_sem, ruB, h1']
    rw [if_pos h1]
  · try simp only [go_sem, ruB, h1']
    refine gT.of (fun h2' => ?_) (fun h2' => ?_) <;> (have h2 := h2'; try simp only [decide_eq_true_eq, decide_eq_false_iff_not, beq_iff_eq, bne_iff_ne, beq_eq_false_iff_ne, ne_eq, Bool.not_eq_true', Bool.not_eq_false', bne_eq_false_iff_eq, Int.not_lt, Int.not_le] at h2)
    · try simp only [go_sem, ruB, h2']
      rw [if_neg (by omega), if_pos h2]
    · try simp only [go_sem, ruB, h2']
      rw [if_neg (by omega), if_neg (by omega)]

theorem find1_spec {x : Pl} {v : Value} {u : Int} (hv : PlV m x v) : WC R F.plan_find_1 [v, .int .i64 u] m fun r m' => r = .int .i64 (cmpI x.unit u) ∧ Ext m m' := by
  refine WC.of R.plan_find_1 rfl ?_
  obtain ⟨pv, rfl, hp⟩ := hv
  simp only [RC.plan_find_1, plV, go_sem, hp.one]
  have hx : Ext m (m.new (.cells [.int .i64 x.unit, .int .i64 x.share, .int .i64 x.core, pv] (some 4))) := Ext.new
  have hb : Bk (m.new (.cells [.int .i64 x.unit, .int .i64 x.share, .int .i64 x.core, pv] (some 4))) m.next [.int .i64 x.unit, .int .i64 x.share, .int .i64 x.core, pv] 4 := Bk.new
  generalize m.new (.cells [.int .i64 x.unit, .int .i64 x.share, .int .i64 x.core, pv] (some 4)) = m1 at hx hb ⊢
  try simp only [go_sem, ruB, hb.at_]
  refine gC.of Compare_spec ?_
  rintro _ m_ ⟨rfl, hm_⟩
  replace hm_ := hm_.symm
  subst hm_
  simp only [go_sem]
  exact hx
end Go.Am


/- PlanY2 over the table of weave (relayset.py). -/
set_option linter.unusedVariables false
set_option linter.unusedSimpArgs false
namespace Go.Am
open Classical
variable {m : Mem}

def Asc (l : List Pl) : Prop := ∀ i j (hi : i < j) (hj : j < l.length), (l[i]'(by omega)).unit < l[j].unit
/-- Where a unit is, or would be. -/
def atU (l : List Pl) (u : Int) (k : Nat) : Prop := k ≤ l.length ∧ (∀ t (h : t < l.length), t < k → l[t].unit < u) ∧ ∀ t (h : t < l.length), k ≤ t → u ≤ l[t].unit
def isAt (l : List Pl) (u : Int) (k : Nat) : Prop := ∃ h : k < l.length, l[k].unit = u

theorem half_eq {i j : Nat} (h : i + j < 2000000) : IntKind.wrap .i64 (((BitVec.ofInt 64 (IntKind.wrap .i64 ((i : Int) + j)) >>> (1#64).toNat).toNat : Nat) : Int) = ((i + j) / 2 : Nat) := by
  have e : IntKind.wrap .i64 ((i : Int) + j) = ((i + j : Nat) : Int) := by rw [wrap_i64 (by omega) (by omega)]; omega
  rw [show (1#64).toNat = 1 from rfl, e, BitVec.ofInt_natCast, BitVec.toNat_ushiftRight, BitVec.toNat_ofNat, Nat.mod_eq_of_lt (by omega), Nat.shiftRight_eq_div_pow, wrap_i64 (by omega) (by omega)]

theorem Binary_spec {l : List Pl} {v : Value} {u : Int} (hs : PlsV m l v) (hl : l.length < 1000000) (ha : Asc l) :
    WC R F.slices_BinarySearchFunc_api_Place_api_Place_int [v, .int .i64 u, .func (.func F.plan_find_1) #[] #[]] m fun r m' => ∃ k, atU l u k ∧ r = .tuple #[.int .i64 k, .bool (decide (isAt l u k))] ∧ Ext m m' := by
  refine WC.of R.slices_BinarySearchFunc_api_Place_api_Place_int rfl ?_
  simp only [RC.slices_BinarySearchFunc_api_Place_api_Place_int, go_sem, hs.len]
  refine WL.of (fun n e m' => ∃ i j : Nat, i ≤ j ∧ j ≤ l.length ∧ n = j - i ∧ e = [(0, v), (1, .int .i64 u), (2, .func (.func F.plan_find_1) #[] #[]), (8, .int .i64 l.length), (9, .int .i64 i), (10, .int .i64 j)] ∧ (∀ t (h : t < l.length), t < i → l[t].unit < u) ∧ (∀ t (h : t < l.length), j ≤ t → u ≤ l[t].unit) ∧ Ext m m') l.length
    ⟨0, l.length, by omega, by omega, by omega, by simp only [go_sem] <;> rfl, fun t h h2 => by omega, fun t h h2 => by omega, Ext.refl _⟩ ?_
  rintro _ _ m1 ⟨i, j, hij, hj, rfl, rfl, hlo, hhi, hx⟩
  have hs1 := hs.keep hx
  simp only [RB.slices_BinarySearchFunc_api_Place_api_Place_int_1, go_sem]
  refine gT.of (fun h1' => ?_) (fun h1' => ?_) <;> (have h1 := h1'; try simp only [decide_eq_true_eq, decide_eq_false_iff_not, beq_iff_eq, bne_iff_ne, beq_eq_false_iff_ne, ne_eq, Bool.not_eq_true', Bool.not_eq_false', bne_eq_false_iff_eq, Int.not_lt, Int.not_le] at h1)
  · have hij2 : i < j := by omega
    have hh := half_eq (i := i) (j := j) (by omega)
    have hkl : (i + j) / 2 < l.length := by omega
    obtain ⟨b, o, qv, a1, a2, a3, a4, a5⟩ := hs1.elem hkl
    have hlow : l[(i + j) / 2].unit < u → ∀ t (h : t < l.length), t < (i + j) / 2 + 1 → l[t].unit < u := by
      intro g t h ht
      by_cases e : t = (i + j) / 2
      · subst e; exact g
      · have := ha t ((i + j) / 2) (by omega) hkl; omega
    have hhigh : ¬ l[(i + j) / 2].unit < u → ∀ t (h : t < l.length), (i + j) / 2 ≤ t → u ≤ l[t].unit := by
      intro g t h ht
      by_cases e : t = (i + j) / 2
      · subst e; omega
      · have := ha ((i + j) / 2) t (by omega) h; omega
    have hk1 : i ≤ (i + j) / 2 ∧ (i + j) / 2 < j := by omega
    generalize (i + j) / 2 = k at *
    have s1 := step1 (show k < 1000000 by omega)
    try simp only [go_sem, ruB, h1', hh, a1, a2]
    refine gC.of (find1_spec (x := l[k]) (u := u) ⟨qv, rfl, a4⟩) ?_
    rintro _ m2 ⟨rfl, hx2⟩
    simp only [go_sem]
    refine gT.of (fun h2' => ?_) (fun h2' => ?_) <;> (have h2 := h2'; try simp only [decide_eq_true_eq, decide_eq_false_iff_not, beq_iff_eq, bne_iff_ne, beq_eq_false_iff_ne, ne_eq, Bool.not_eq_true', Bool.not_eq_false', bne_eq_false_iff_eq, Int.not_lt, Int.not_le] at h2)
    · have h3 : l[k].unit < u := by unfold cmpI at h2; split at h2 <;> (try split at h2) <;> omega
      try simp only [go_sem, ruB, h2', s1]
      exact ⟨j - (k + 1), by omega, k + 1, j, by omega, by omega, rfl, rfl, hlow h3, hhi, hx.trans hx2⟩
    · have h3 : ¬ l[k].unit < u := by unfold cmpI at h2; split at h2 <;> (try split at h2) <;> omega
      try simp only [go_sem, ruB, h2']
      exact ⟨k - i, by omega, i, k, by omega, by omega, rfl, rfl, hlo, hhigh h3, hx.trans hx2⟩
  · have hij2 : i = j := by omega
    subst hij2
    have hat : atU l u i := ⟨hj, hlo, hhi⟩
    try simp only [go_sem, ruB, h1']
    refine gT.of (fun h2' => ?_) (fun h2' => ?_) <;> (have h2 := h2'; try simp only [decide_eq_true_eq, decide_eq_false_iff_not, beq_iff_eq, bne_iff_ne, beq_eq_false_iff_ne, ne_eq, Bool.not_eq_true', Bool.not_eq_false', bne_eq_false_iff_eq, Int.not_lt, Int.not_le] at h2)
    · have hil : i < l.length := by omega
      obtain ⟨b, o, qv, a1, a2, a3, a4, a5⟩ := hs1.elem hil
      try simp only [go_sem, ruB, h2', a1, a2]
      refine gC.of (find1_spec (x := l[i]) (u := u) ⟨qv, rfl, a4⟩) ?_
      rintro _ m2 ⟨rfl, hx2⟩
      simp only [go_sem]
      try simp only [go_sem, ruB, h2']
      have hge := hhi i hil (Nat.le_refl _)
      have key : (cmpI l[i].unit u == 0) = decide (isAt l u i) := by
        rw [Bool.eq_iff_iff, beq_iff_eq, decide_eq_true_eq]
        unfold cmpI
        constructor
        · intro h; refine ⟨hil, ?_⟩; split at h <;> (try split at h) <;> omega
        · rintro ⟨_, h⟩; rw [if_neg (by omega), if_neg (by omega)]
      exact ⟨i, hat, by rw [key], hx.trans hx2⟩
    · try simp only [go_sem, ruB, h2']
      have key : decide (isAt l u i) = false := decide_eq_false fun ⟨h, _⟩ => by omega
      exact ⟨i, hat, by rw [key], hx⟩

theorem find_spec {p : PlanD} {v : Value} {u : Int} (hv : PlanV m p v) (hl : p.places.length < 1000000) (ha : Asc p.places) :
    WC R F.plan_find [v, .int .i64 u] m fun r m' => ∃ k, atU p.places u k ∧ r = .tuple #[.int .i64 k, .bool (decide (isAt p.places u k))] ∧ Ext m m' := by
  refine WC.of R.plan_find rfl ?_
  obtain ⟨pv, rfl, hp⟩ := hv
  simp only [RC.plan_find, planV, go_sem, hp.one]
  have hx : Ext m (m.new (.cells [.int .i64 p.frame, u32 p.cores, pv] (some 3))) := Ext.new
  have hb : Bk (m.new (.cells [.int .i64 p.frame, u32 p.cores, pv] (some 3))) m.next [.int .i64 p.frame, u32 p.cores, pv] 3 := Bk.new
  generalize m.new (.cells [.int .i64 p.frame, u32 p.cores, pv] (some 3)) = m1 at hx hb ⊢
  try simp only [go_sem, ruB, hb.at_]
  refine gC.of (Binary_spec (hp.keep hx) hl ha) ?_
  rintro _ m2 ⟨k, hk, rfl, hx2⟩
  try simp only [go_sem, ruB, aExt0, aExt1]
  exact ⟨k, hk, rfl, hx.trans hx2⟩

/-- A copy of pieces. -/
theorem Clone_spec {l : List Pc} {v : Value} (hs : PcV m l v) (hl : l.length < 1000000) : WC R F.slices_Clone_api_Piece_api_Piece [v] m fun r m' => Own m m' 2 l.length (l.flatMap pcV) r ∧ Ext m m' := by
  refine WC.of R.slices_Clone_api_Piece_api_Piece rfl ?_
  have hone : oneCells (l.flatMap pcV) = true := by
    unfold oneCells
    rw [List.all_eq_true]
    intro x hx
    obtain ⟨y, _, hy⟩ := List.mem_flatMap.1 hx
    simp only [pcV, List.mem_cons, List.not_mem_nil, or_false] at hy
    rcases hy with rfl | rfl <;> rfl
  obtain ⟨h1, h2⟩ := hs
  have hs0 : Sl m 2 l.length (l.flatMap pcV) v := h1
  cases h1 with
  | nil h hc =>
    simp only [RC.slices_Clone_api_Piece_api_Piece, go_sem, Option.isNone_none]
    exact ⟨.nil h hc, Ext.refl _⟩
  | @«at» b o c hc h =>
    simp only [RC.slices_Clone_api_Piece_api_Piece, go_sem]
    obtain ⟨v', m', e1, e2, e3⟩ := app_copy (by_ := 16) (hs0.keep h2 Ext.new) hone (by omega) (by omega)
    rw [e1, Got.some]
    try simp only [go_sem, ruB]
    exact ⟨e2, e3⟩

def find0 : Pl := ⟨0, 0, 0, []⟩
noncomputable def findP (l : List Pl) (u : Int) : Pl := if h : ∃ i, ∃ h : i < l.length, l[i].unit = u then l[h.choose]'(h.choose_spec.choose) else find0
def hasU (l : List Pl) (u : Int) : Prop := ∃ i, ∃ h : i < l.length, l[i].unit = u

theorem Asc.inj {l : List Pl} (ha : Asc l) {i j : Nat} (hi : i < l.length) (hj : j < l.length) (h : l[i].unit = l[j].unit) : i = j := by
  rcases Nat.lt_trichotomy i j with g | g | g
  · have := ha i j g hj; omega
  · exact g
  · have := ha j i g hi; omega
theorem findP_at {l : List Pl} {u : Int} (ha : Asc l) {i : Nat} (hi : i < l.length) (h : l[i].unit = u) : findP l u = l[i] := by
  have hex : ∃ i, ∃ h : i < l.length, l[i].unit = u := ⟨i, hi, h⟩
  unfold findP
  rw [dif_pos hex]
  have e : hex.choose = i := ha.inj hex.choose_spec.choose hi (by rw [hex.choose_spec.choose_spec, h])
  simp only [e]
theorem findP_not {l : List Pl} {u : Int} (h : ¬ hasU l u) : findP l u = find0 := by unfold findP; exact dif_neg h

theorem Find_spec {p : PlanD} {v : Value} {u : Int} (hv : PlanV m p v) (hl : PlanL p) (ha : Asc p.places) :
    WC R F.plan_Find [v, .int .i64 u] m fun r m' => ∃ w, r = .tuple #[w, .bool (decide (hasU p.places u))] ∧ PlV m' (findP p.places u) w ∧ Ext m m' := by
  refine WC.of R.plan_Find rfl ?_
  obtain ⟨pv, rfl, hp⟩ := hv
  simp only [RC.plan_Find, planV, go_sem, hp.one]
  have hx : Ext m (m.new (.cells [.int .i64 p.frame, u32 p.cores, pv] (some 3))) := Ext.new
  have hb : Bk (m.new (.cells [.int .i64 p.frame, u32 p.cores, pv] (some 3))) m.next [.int .i64 p.frame, u32 p.cores, pv] 3 := Bk.new
  generalize m.new (.cells [.int .i64 p.frame, u32 p.cores, pv] (some 3)) = m1 at hx hb ⊢
  have hbn := hb.ne
  try simp only [go_sem, ruB, hb.at_, hbn]
  have hx2 : Ext m1 (m1.new (.cells [.int .i64 0, .int .i64 0, .int .i64 0, .slice none 0 0] (some 4))) := Ext.new
  have hb2 : Bk (m1.new (.cells [.int .i64 0, .int .i64 0, .int .i64 0, .slice none 0 0] (some 4))) m1.next [.int .i64 0, .int .i64 0, .int .i64 0, .slice none 0 0] 4 := Bk.new
  have hn2 : (m1.new (.cells [.int .i64 0, .int .i64 0, .int .i64 0, .slice none 0 0] (some 4))).next = m1.next + 1 := rfl
  generalize m1.new (.cells [.int .i64 0, .int .i64 0, .int .i64 0, .slice none 0 0] (some 4)) = m2 at hx2 hb2 hn2 ⊢
  have hp2 := (hp.keep hx).keep hx2
  have hb' := hb.keep hx2
  try simp only [go_sem, ruB, hb'.at_]
  refine gC.of (find_spec (p := p) ⟨pv, rfl, hp2⟩ hl.len ha) ?_
  rintro _ m3 ⟨k, ⟨hk1, hk2, hk3⟩, rfl, hx3⟩
  have hp3 := hp2.keep hx3
  have hb3 := hb'.keep hx3
  have hr3 := hb2.keep hx3
  try simp only [go_sem, ruB, aExt0, aExt1]
  have hiff : isAt p.places u k ↔ hasU p.places u := by
    constructor
    · rintro ⟨h, e⟩; exact ⟨k, h, e⟩
    · rintro ⟨i, h, e⟩
      have : i = k := by
        rcases Nat.lt_trichotomy i k with g | g | g
        · have := hk2 i h g; omega
        · exact g
        · have h1 := hk3 k (by omega) (Nat.le_refl _)
          have := ha k i g h
          omega
      subst this; exact ⟨h, e⟩
  refine gT.of (fun h1' => ?_) (fun h1' => ?_) <;> (have h1 := h1'; try simp only [decide_eq_true_eq, decide_eq_false_iff_not, beq_iff_eq, bne_iff_ne, beq_eq_false_iff_ne, ne_eq, Bool.not_eq_true', Bool.not_eq_false', bne_eq_false_iff_eq, Int.not_lt, Int.not_le] at h1)
  · have hno : ¬ isAt p.places u k := by simpa using h1'
    have hnu : ¬ hasU p.places u := fun h => hno (hiff.2 h)
    have hX : Ext m1 m3 := hx2.trans hx3
    try simp only [go_sem, ruB, h1', hr3.at_]
    refine ⟨_, by rw [decide_eq_false hnu], ?_, hx.trans (hX.set (Nat.le_refl _))⟩
    rw [findP_not hnu]
    exact ⟨.slice none 0 0, rfl, .nil rfl rfl, trivial⟩
  · have hyes : isAt p.places u k := by simpa using h1'
    obtain ⟨hkl, hku⟩ := hyes
    try simp only [go_sem, ruB, h1', hb3.at_]
    obtain ⟨b, o, qv, a1, a2, a3, a4, a5⟩ := hp3.elem hkl
    have hfx : findP p.places u = p.places[k] := findP_at ha hkl hku
    have hhas : hasU p.places u := ⟨k, hkl, hku⟩
    have hpl := hl.pcs _ (List.getElem_mem hkl)
    generalize p.places[k] = x at *
    simp only [plV] at a2
    try simp only [go_sem, ruB, a1, a2, a4.one]
    have hx4 : Ext m3 (m3.new (.cells [.int .i64 x.unit, .int .i64 x.share, .int .i64 x.core, qv] (some 4))) := Ext.new
    have hb4 : Bk (m3.new (.cells [.int .i64 x.unit, .int .i64 x.share, .int .i64 x.core, qv] (some 4))) m3.next [.int .i64 x.unit, .int .i64 x.share, .int .i64 x.core, qv] 4 := Bk.new
    generalize m3.new (.cells [.int .i64 x.unit, .int .i64 x.share, .int .i64 x.core, qv] (some 4)) = m4 at hx4 hb4 ⊢
    try simp only [go_sem, ruB, hb4.at_]
    refine gC.of (Clone_spec (a4.keep hx4) hpl) ?_
    rintro w m5 ⟨ho, hx5⟩
    have hb5 := hb4.keep hx5
    have hr5 := (hr3.keep hx4).keep hx5
    have hne : m1.next ≠ m3.next := by have := hr3.lt; omega
    have hso : ∀ {m'}, Upd m5 m' [m1.next, m3.next] → PcV m' x.pieces w := by
      intro m' h
      have hoff : SlOff [m1.next, m3.next] w := ho.off (by
        intro z hz
        have := hr3.lt; have := hx4.next; have := hb4.lt
        simp at hz; omega)
      exact ⟨ho.sl.upd ho.lt hoff h, ho.lt.upd h⟩
    have hw : ∃ a n c, w = .slice a n c := by cases ho <;> exact ⟨_, _, _, rfl⟩
    have hw1 := ho.sl.one
    obtain ⟨wa, wn, wc, rfl⟩ := hw
    have hne' : (m1.next = m3.next) = False := eq_false hne
    try simp only [go_sem, ruB, hb5.at_, hw1, hne', hr5.at_]
    have hle : m1.next ≤ m3.next := by have := hr3.lt; omega
    refine ⟨_, by rw [decide_eq_true hhas], ?_, hx.trans (((((hx2.trans hx3).trans hx4).trans hx5).set hle).set (Nat.le_refl _))⟩
    rw [hfx]
    exact ⟨.slice wa wn wc, rfl, hso ((Upd.set (fp := [m1.next, m3.next]) (by simp)).trans (Upd.set (fp := [m1.next, m3.next]) (by simp)) (fun _ h => h) (fun _ h => .inl h))⟩

theorem refFind_spec {p : PlanD} {v : Value} {u : Int} (hv : PlanV m p v) (hl : PlanL p) (ha : Asc p.places) :
    WC R F.ref16_Find [v, .int .i64 u] m fun r m' => ∃ w, r = .tuple #[w, .bool (decide (hasU p.places u))] ∧ PlV m' (findP p.places u) w ∧ Ext m m' := by
  refine WC.of R.ref16_Find rfl ?_
  obtain ⟨pv, rfl, hp⟩ := hv
  have hlen := hl.len
  simp only [RC.ref16_Find, planV, go_sem, hp.one]
  have hx : Ext m (m.new (.cells [.int .i64 p.frame, u32 p.cores, pv] (some 3))) := Ext.new
  have hb : Bk (m.new (.cells [.int .i64 p.frame, u32 p.cores, pv] (some 3))) m.next [.int .i64 p.frame, u32 p.cores, pv] 3 := Bk.new
  generalize m.new (.cells [.int .i64 p.frame, u32 p.cores, pv] (some 3)) = m1 at hx hb ⊢
  have hbn := hb.ne
  try simp only [go_sem, hbn]
  have hx2 : Ext m1 (m1.new (.cells [.int .i64 0, .int .i64 0, .int .i64 0, .slice none 0 0] (some 4))) := Ext.new
  have hb2 : Bk (m1.new (.cells [.int .i64 0, .int .i64 0, .int .i64 0, .slice none 0 0] (some 4))) m1.next [.int .i64 0, .int .i64 0, .int .i64 0, .slice none 0 0] 4 := Bk.new
  generalize m1.new (.cells [.int .i64 0, .int .i64 0, .int .i64 0, .slice none 0 0] (some 4)) = m2 at hx2 hb2 ⊢
  have hp2 := (hp.keep hx).keep hx2
  have hb' := hb.keep hx2
  refine WL.of (fun n e m' => ∃ i : Nat, i ≤ p.places.length ∧ n = p.places.length - i ∧ e = [(1, .int .i64 u), (2, pt m.next), (4, pt m1.next), (6, .int .i64 i)] ∧ (∀ t (h : t < p.places.length), t < i → p.places[t].unit ≠ u) ∧ m' = m2) p.places.length
    ⟨0, by omega, by omega, by simp only [go_sem] <;> rfl, fun t h h2 => by omega, rfl⟩ ?_
  rintro _ _ _ ⟨i, hi, rfl, rfl, hno, hm⟩
  replace hm := hm.symm
  subst hm
  simp only [RB.ref16_Find_1, pt, go_sem, ruB, hb'.at_, hp2.len]
  refine gT.of (fun h1' => ?_) (fun h1' => ?_) <;> (have h1 := h1'; try simp only [decide_eq_true_eq, decide_eq_false_iff_not, beq_iff_eq, bne_iff_ne, beq_eq_false_iff_ne, ne_eq, Bool.not_eq_true', Bool.not_eq_false', bne_eq_false_iff_eq, Int.not_lt, Int.not_le] at h1)
  · have hil : i < p.places.length := by omega
    obtain ⟨b, o, qv, a1, a2, a3, a4, a5⟩ := (hp.keep hx).elem hil
    have a30 := a3 0 (by omega)
    rw [← load_ext hx2 a5] at a2 a30
    have hfx : p.places[i].unit = u → findP p.places u = p.places[i] := fun h => findP_at ha hil h
    have hhas : p.places[i].unit = u → hasU p.places u := fun h => ⟨i, hil, h⟩
    have hno2 : p.places[i].unit ≠ u → ∀ t (h : t < p.places.length), t < i + 1 → p.places[t].unit ≠ u := by
      intro g t h ht
      by_cases e : t = i
      · subst e; exact g
      · exact hno t h (by omega)
    generalize p.places[i] = x at *
    simp only [plV, Nat.add_zero, List.getElem?_cons_zero] at a2 a30
    have q1 := a4.one
    try simp only [go_sem, ruB, h1', a1, a30, hb'.at_]
    refine gT.of (fun h2' => ?_) (fun h2' => ?_) <;> (have h2 := h2'; try simp only [decide_eq_true_eq, decide_eq_false_iff_not, beq_iff_eq, bne_iff_ne, beq_eq_false_iff_ne, ne_eq, Bool.not_eq_true', Bool.not_eq_false', bne_eq_false_iff_eq, Int.not_lt, Int.not_le] at h2)
    · have hfx := hfx h2
      try simp only [go_sem, ruB, h2', a1, a2, hb'.at_, hb2.at_, q1]
      refine ⟨_, by rw [decide_eq_true (hhas h2)], ?_, hx.trans (hx2.set (Nat.le_refl _))⟩
      rw [hfx]
      exact ⟨qv, rfl, a4.keep (hx2.set (Nat.le_refl _))⟩
    · try simp only [go_sem, ruB, h2', step1 (show i < 1000000 by omega)]
      exact ⟨p.places.length - (i + 1), by omega, i + 1, by omega, rfl, rfl, hno2 h2⟩
  · have hnu : ¬ hasU p.places u := by
      rintro ⟨t, h, e⟩
      exact hno t h (by omega) e
    try simp only [go_sem, ruB, h1', hb2.at_]
    refine ⟨_, by rw [decide_eq_false hnu], ?_, hx.trans (hx2.set (Nat.le_refl _))⟩
    rw [findP_not hnu]
    exact ⟨.slice none 0 0, rfl, .nil rfl rfl, trivial⟩
end Go.Am


/- PlanL3 over the table of weave (relayset.py). -/
set_option linter.unusedVariables false
set_option linter.unusedSimpArgs false
namespace Go.Am
open Classical
variable {m : Mem}

theorem RightP.asc {p : PlanD} (h : RightP p) : Asc p.places := by
  intro i j hij hj
  induction j with
  | zero => omega
  | succ j ih =>
    obtain ⟨_, _, g⟩ := h.2.2.2.2.1 (j + 1) hj
    have g := g (by omega)
    simp only [Nat.add_sub_cancel] at g
    by_cases e : i = j
    · subst e; exact g
    · have := ih (by omega) (by omega); omega

end Go.Am


/- Weave: why not, walked. -/
set_option linter.unusedVariables false
set_option linter.unusedSimpArgs false
namespace Go.Am
open Classical
variable {m : Mem}

def anyR (p : PlanD) (s : Int) : Prop := ∃ c, c < 16 ∧ hasC p (c : Nat) = true ∧ s ≤ roomP p (c : Nat)
set_option maxHeartbeats 2000000 in
theorem first_spec {p : PlanD} {v : Value} {s : Int} (hv : PlanV m p v) (hR : PlanR p) : WC R F.ffd_first [v, .int .i64 s] m fun r m' => (∃ c, r = .tuple #[.int .i64 c, .bool (decide (anyR p s))]) ∧ Ext m m' := by
  refine WC.of R.ffd_first rfl ?_
  obtain ⟨pv, rfl, hp⟩ := hv
  have hcl := csP_len (p := p) (n := 16)
  simp only [RC.ffd_first, planV, go_sem, hp.one]
  have hx1 : Ext m (m.new (.cells [.int .i64 p.frame, u32 p.cores, pv] (some 3))) := Ext.new
  have hb1 : Bk (m.new (.cells [.int .i64 p.frame, u32 p.cores, pv] (some 3))) m.next [.int .i64 p.frame, u32 p.cores, pv] 3 := Bk.new
  have hn1 : (m.new (.cells [.int .i64 p.frame, u32 p.cores, pv] (some 3))).next = m.next + 1 := rfl
  generalize m.new (.cells [.int .i64 p.frame, u32 p.cores, pv] (some 3)) = m1 at hx1 hb1 hn1 ⊢
  have hp1 := hp.keep hx1
  try simp only [go_sem, ruB, hb1.at_, hp1.one]
  refine gC.of (Cores_spec (p := p) ⟨pv, rfl, hp1⟩) ?_
  rintro cV m2 ⟨hO, hx2⟩
  have hb2 := hb1.keep hx2
  try simp only [go_sem, ruB, hO.sl.len]
  refine WL.of (fun z e m' => ∃ j : Nat, j ≤ (csP p 16).length ∧ z = (csP p 16).length - j ∧ e = [(1, .int .i64 s), (2, pt m.next), (9, cV), (10, .int .i64 ((csP p 16).length : Nat)), (11, .int .i64 (j : Nat))] ∧ Ext m2 m' ∧ ∀ k, k < j → roomP p (csF p k : Nat) < s) (csP p 16).length
    ⟨0, by omega, by omega, by simp only [pt, go_sem] <;> rfl, Ext.refl _, fun k hk => by omega⟩ ?_
  rintro _ _ m3 ⟨j, hj, rfl, rfl, hx3, hno⟩
  simp only [RB.ffd_first_1, pt, go_sem]
  have s1 := step1 (show j < 1000000 by omega)
  by_cases g : j < (csP p 16).length
  rotate_left
  · have e1 : decide (((j : Nat) : Int) < (((csP p 16).length : Nat) : Int)) = false := decide_eq_false (by omega)
    have nn : ¬ anyR p s := by
      rintro ⟨c, c1, c2, c3⟩
      obtain ⟨k, hk, e⟩ := List.getElem_of_mem (csP_mem.2 ⟨c1, c2⟩)
      have := hno k (by omega)
      rw [csF_get hk, e] at this; omega
    have d : decide (anyR p s) = false := decide_eq_false nn
    try simp only [go_sem, ruB, e1, d]
    exact ⟨⟨_, rfl⟩, hx1.trans (hx2.trans hx3)⟩
  have e1 : decide (((j : Nat) : Int) < (((csP p 16).length : Nat) : Int)) = true := decide_eq_true (by omega)
  obtain ⟨q, c1, c2⟩ := (hO.keep hx3).sl.get (k := .i64) g
  have c2' : aLoad false 1 m3 q = some (.int .i64 (csF p j : Nat)) := by
    rw [c2, csF_get g]; unfold ints; rw [List.getElem?_map, List.getElem?_eq_getElem g]; rfl
  have hb3 := hb2.keep hx3
  have hp3 := (hp1.keep hx2).keep hx3
  try simp only [go_sem, ruB, e1, c1, c2', hb3.at_, hp1.one]
  refine gC.of (Room_spec (p := p) (c := (csF p j : Nat)) ⟨pv, rfl, hp3⟩ hR) ?_
  rintro _ m4 ⟨rfl, hx4⟩
  by_cases q : s ≤ roomP p (csF p j : Nat)
  · have e3 : decide (s ≤ roomP p (csF p j : Nat)) = true := decide_eq_true q
    have d : decide (anyR p s) = true := decide_eq_true ⟨csF p j, (csF_has g).1, (csF_has g).2, q⟩
    try simp only [go_sem, ruB, e3, d]
    exact ⟨⟨_, rfl⟩, hx1.trans (hx2.trans (hx3.trans hx4))⟩
  · have e3 : decide (s ≤ roomP p (csF p j : Nat)) = false := decide_eq_false q
    try simp only [go_sem, ruB, e3, s1]
    exact ⟨(csP p 16).length - (j + 1), by omega, j + 1, by omega, rfl, rfl, hx3.trans hx4, fun k hk => by
      by_cases e : k = j
      · subst e; omega
      · exact hno k (by omega)⟩
theorem First_spec {p : PlanD} {v : Value} {s : Int} (hv : PlanV m p v) (hL : PlanL p) (hR : RightP p) (hs : 1 ≤ s) : WC R F.ffd_First [v, .int .i64 s] m fun r m' => (∃ c, r = .tuple #[.int .i64 c, .bool (decide (anyR p s))]) ∧ Ext m m' := by
  refine WC.of R.ffd_First rfl ?_
  obtain ⟨pv, rfl, hp⟩ := hv
  simp only [RC.ffd_First, planV, go_sem, hp.one]
  have hx1 : Ext m (m.new (.cells [.int .i64 p.frame, u32 p.cores, pv] (some 3))) := Ext.new
  have hb1 : Bk (m.new (.cells [.int .i64 p.frame, u32 p.cores, pv] (some 3))) m.next [.int .i64 p.frame, u32 p.cores, pv] 3 := Bk.new
  have hn1 : (m.new (.cells [.int .i64 p.frame, u32 p.cores, pv] (some 3))).next = m.next + 1 := rfl
  generalize m.new (.cells [.int .i64 p.frame, u32 p.cores, pv] (some 3)) = m1 at hx1 hb1 hn1 ⊢
  have hp1 := hp.keep hx1
  try simp only [go_sem, ruB, hb1.at_, hp1.one]
  refine gC.of (Check_spec (p := p) ⟨pv, rfl, hp1⟩ hL) ?_
  rintro _ m2 ⟨rfl, hx2⟩
  have e : chk p = .int .i64 0 := by unfold chk; rw [if_pos (check_iff.2 hR)]
  have e0 : ((0 : Int) != 0) = false := rfl
  have e1 : decide (s < 1) = false := decide_eq_false (by omega)
  have hb2 := hb1.keep hx2
  rw [e]
  try simp only [go_sem, ruB, e0, e1, hb2.at_, hp1.one]
  refine gC.of (first_spec (p := p) ⟨pv, rfl, hp1.keep hx2⟩ (hR.pr hL)) ?_
  rintro _ m3 ⟨⟨c, rfl⟩, hx3⟩
  try simp only [go_sem, ruB, aExt0, aExt1]
  exact ⟨⟨c, rfl⟩, hx1.trans (hx2.trans hx3)⟩
/-- Why a want is not woven, but for room. -/
noncomputable def whyF (p : PlanD) (w : Wt) : Int := if ¬ RightP p then 30 else if chkA p.frame [w] ≠ 0 then chkA p.frame [w] else if hasU p.places w.1 then 11 else if anyR p w.2 ∨ (csP p 16).length ≤ p.places.countP isSp + 1 then 15 else 0
theorem chkF_ok {f : Int} : ∀ {l pre : List Sp}, chkF f pre l = 0 → (∀ w ∈ l, isU w.1 ∧ 1 ≤ w.2 ∧ w.2 ≤ f ∧ ∀ p ∈ pre, p.1 ≠ w.1) ∧ l.Pairwise fun a b => a.1 ≠ b.1
  | [], pre, _ => ⟨fun w hw => by simp at hw, List.Pairwise.nil⟩
  | w :: r, pre, h => by
    unfold chkF at h
    by_cases g1 : isU w.1
    · rw [if_neg (by simpa using g1)] at h
      by_cases g2 : w.2 < 1 ∨ f < w.2
      · rw [if_pos g2] at h; omega
      · rw [if_neg g2] at h
        by_cases g3 : ∃ p ∈ pre, p.1 = w.1
        · rw [if_pos g3] at h; omega
        · rw [if_neg g3] at h
          obtain ⟨h1, h2⟩ := chkF_ok h
          refine ⟨fun x hx => ?_, List.pairwise_cons.2 ⟨fun x hx e => ?_, h2⟩⟩
          · rcases List.mem_cons.1 hx with rfl | hx
            · exact ⟨g1, by omega, by omega, fun p hp e => g3 ⟨p, hp, e⟩⟩
            · obtain ⟨a, b, c, d⟩ := h1 x hx
              exact ⟨a, b, c, fun p hp => d p (List.mem_append_left _ hp)⟩
          · exact (h1 x hx).2.2.2 w (by simp) e
    · rw [if_pos (by simpa using g1)] at h; omega
structure LOk (f : Int) (l : List Wt) : Prop where
  fr : 2 ≤ f ∧ f ≤ 64
  w : ∀ w ∈ l, isU w.1 ∧ 1 ≤ w.2 ∧ w.2 ≤ f
  u : l.Pairwise fun a b => a.1 ≠ b.1
theorem chkA_ok {f : Int} {l : List Wt} (g : chkA f l = 0) : LOk f l := by
  unfold chkA at g
  by_cases g3 : f < 2 ∨ 64 < f
  · rw [if_pos g3] at g; omega
  · rw [if_neg g3] at g
    obtain ⟨h1, h2⟩ := chkF_ok g
    exact ⟨by omega, fun w hw => ⟨(h1 w hw).1, (h1 w hw).2.1, (h1 w hw).2.2.1⟩, h2⟩
theorem wfill_w {a b : Int} : fillL [.int .i64 0, .int .i64 0] [(0, 2, .agg #[.int .i64 a, .int .i64 b])] = some [.int .i64 a, .int .i64 b] := rfl
theorem one_sl {m : Mem} {w : Wt} : Sl (m.new (.cells [.int .i64 w.1, .int .i64 w.2] (some 2))) 2 1 ([w].flatMap spV) (.slice (some ⟨m.next, 0, none⟩) 1 1) ∧ SlLt (m.new (.cells [.int .i64 w.1, .int .i64 w.2] (some 2))) (.slice (some ⟨m.next, 0, none⟩) 1 1) := by
  refine ⟨.at (Nat.le_refl _) ?_, SlLt.vb_iff.2 fun x hx => by simp [vb] at hx; simp [Mem.new]; omega⟩
  unfold aCells
  simp [Mem.new, spV]
set_option maxHeartbeats 4000000 in
theorem wWhy_spec {p : PlanD} {v : Value} {w : Wt} (hv : PlanV m p v) (hL : PlanL p) : WC R F.weave_why [v, .agg #[.int .i64 w.1, .int .i64 w.2]] m fun r m' => r = .int .i64 (whyF p w) ∧ Ext m m' := by
  refine WC.of R.weave_why rfl ?_
  obtain ⟨pv, rfl, hp⟩ := hv
  have hcl := csP_len (p := p) (n := 16)
  simp only [RC.weave_why, planV, go_sem, hp.one]
  have hx1 : Ext m (m.new (.cells [.int .i64 p.frame, u32 p.cores, pv] (some 3))) := Ext.new
  have hb1 : Bk (m.new (.cells [.int .i64 p.frame, u32 p.cores, pv] (some 3))) m.next [.int .i64 p.frame, u32 p.cores, pv] 3 := Bk.new
  have hn1 : (m.new (.cells [.int .i64 p.frame, u32 p.cores, pv] (some 3))).next = m.next + 1 := rfl
  generalize m.new (.cells [.int .i64 p.frame, u32 p.cores, pv] (some 3)) = m1 at hx1 hb1 hn1 ⊢
  have hx2 : Ext m1 (m1.new (.cells [.int .i64 w.1, .int .i64 w.2] (some 2))) := Ext.new
  have hc2 : Bk (m1.new (.cells [.int .i64 w.1, .int .i64 w.2] (some 2))) m1.next [.int .i64 w.1, .int .i64 w.2] 2 := Bk.new
  have hn2 : (m1.new (.cells [.int .i64 w.1, .int .i64 w.2] (some 2))).next = m1.next + 1 := rfl
  generalize m1.new (.cells [.int .i64 w.1, .int .i64 w.2] (some 2)) = m2 at hx2 hc2 hn2 ⊢
  have hb2 := hb1.keep hx2
  have hx02 := hx1.trans hx2
  have hp2 := hp.keep hx02
  try simp only [go_sem, ruB, hb2.at_, hp2.one]
  refine gC.of (Check_spec (p := p) ⟨pv, rfl, hp2⟩ hL) ?_
  rintro _ m3 ⟨rfl, hx3⟩
  have hb3 := hb2.keep hx3
  have hc3 := hc2.keep hx3
  have hp3 := hp2.keep hx3
  have e0 : ((0 : Int) != 0) = false := rfl
  by_cases hR : RightP p
  rotate_left
  · have e : chk p = .int .i64 30 := by unfold chk; rw [if_neg fun g => hR (check_iff.1 g)]
    have hw : whyF p w = 30 := by unfold whyF; rw [if_pos hR]
    have e2 : ((30 : Int) != 0) = true := rfl
    rw [e, hw]
    try simp only [go_sem, ruB, e2]
    exact hx02.trans hx3
  have e : chk p = .int .i64 0 := by unfold chk; rw [if_pos (check_iff.2 hR)]
  rw [e]
  obtain ⟨sl, sb⟩ := @one_sl m3 w
  have hx4 : Ext m3 (m3.new (.cells [.int .i64 w.1, .int .i64 w.2] (some 2))) := Ext.new
  try simp only [go_sem, ruB, e0, hb3.at_, hc3.at_, ↓wfill_w]
  generalize m3.new (.cells [.int .i64 w.1, .int .i64 w.2] (some 2)) = m4 at hx4 sl sb ⊢
  refine gC.of (orCheck (l := [w]) sl sb (by simp)) ?_
  rintro _ m5 ⟨rfl, hx5⟩
  have hx35 := hx4.trans hx5
  have hb5 := hb3.keep hx35
  have hc5 := hc3.keep hx35
  have hp5 := hp3.keep hx35
  have hx05 := (hx02.trans hx3).trans hx35
  by_cases gc : chkA p.frame [w] = 0
  rotate_left
  · have e2 : (chkA p.frame [w] != 0) = true := by rw [bne_iff_ne]; exact gc
    have hw : whyF p w = chkA p.frame [w] := by unfold whyF; rw [if_neg (by simpa using hR), if_pos gc]
    try simp only [go_sem, ruB, e2, hw]
    exact hx05
  have e2 : (chkA p.frame [w] != 0) = false := by rw [bne_eq_false_iff_eq]; exact gc
  try simp only [go_sem, ruB, e2, hb5.at_, hc5.at_, hp5.one]
  refine gC.of (Find_spec (p := p) (u := w.1) ⟨pv, rfl, hp5⟩ hL hR.asc) ?_
  rintro _ m6 ⟨_, rfl, ⟨fv, rfl, hfv⟩, hx6⟩
  have fo := hfv.one
  simp only [plV]
  try simp only [go_sem, ruB, aExt0, aExt1, fo]
  have hx7 : Ext m6 (m6.new (.cells [.int .i64 (findP p.places w.1).unit, .int .i64 (findP p.places w.1).share, .int .i64 (findP p.places w.1).core, fv] (some 4))) := Ext.new
  have hf7 : Bk (m6.new (.cells [.int .i64 (findP p.places w.1).unit, .int .i64 (findP p.places w.1).share, .int .i64 (findP p.places w.1).core, fv] (some 4))) m6.next [.int .i64 (findP p.places w.1).unit, .int .i64 (findP p.places w.1).share, .int .i64 (findP p.places w.1).core, fv] 4 := Bk.new
  generalize m6.new (.cells [.int .i64 (findP p.places w.1).unit, .int .i64 (findP p.places w.1).share, .int .i64 (findP p.places w.1).core, fv] (some 4)) = m7 at hx7 hf7 ⊢
  have hx57 := hx6.trans hx7
  have hb7 := hb5.keep hx57
  have hc7 := hc5.keep hx57
  have hp7 := hp5.keep hx57
  have hx07 := hx05.trans hx57
  by_cases gu : hasU p.places w.1
  · have d : decide (hasU p.places w.1) = true := decide_eq_true gu
    have hw : whyF p w = 11 := by unfold whyF; rw [if_neg (by simpa using hR), if_neg (by simpa using gc), if_pos gu]
    try simp only [go_sem, ruB, d, hw]
    exact hx07
  have d : decide (hasU p.places w.1) = false := decide_eq_false gu
  have hk := (chkA_ok gc).w w (by simp)
  have e6 : whyF p w = if anyR p w.2 ∨ (csP p 16).length ≤ p.places.countP isSp + 1 then 15 else 0 := by unfold whyF; rw [if_neg (by simpa using hR), if_neg (by simpa using gc), if_neg gu]
  try simp only [go_sem, ruB, d, hb7.at_, hc7.at_, hp7.one]
  refine gC.of (First_spec (p := p) (s := w.2) ⟨pv, rfl, hp7⟩ hL hR hk.2.1) ?_
  rintro _ m8 ⟨⟨c, rfl⟩, hx8⟩
  have hb8 := hb7.keep hx8
  have hp8 := hp7.keep hx8
  have hx08 := hx07.trans hx8
  by_cases ga : anyR p w.2
  · have d2 : decide (anyR p w.2) = true := decide_eq_true ga
    try simp only [go_sem, ruB, aExt0, aExt1, d2]
    rw [e6, if_pos (.inl ga)]
    exact ⟨rfl, hx08⟩
  have d2 : decide (anyR p w.2) = false := decide_eq_false ga
  try simp only [go_sem, ruB, aExt0, aExt1, d2, hb8.at_, hp8.one]
  refine gC.of (Splits_spec (p := p) ⟨pv, rfl, hp8⟩ hL.len) ?_
  rintro _ m9 ⟨rfl, hx9⟩
  have w9 := hx9.same _ hb8.lt
  try simp only [go_sem, ruB, watch_one, watch_nil, blk_ptr, w9]
  refine gC.of (Cores_spec (p := p) ⟨pv, rfl, hp8.keep hx9⟩) ?_
  rintro cV m10 ⟨hO, hx10⟩
  have w1 : IntKind.wrap .i64 (((csP p 16).length : Nat) - 1) = ((csP p 16).length : Nat) - 1 := wrap_i64 (by omega) (by omega)
  have hx0a := hx08.trans (hx9.trans hx10)
  by_cases gs : (csP p 16).length ≤ p.places.countP isSp + 1
  · have d3 : decide ((((csP p 16).length : Nat) : Int) - 1 ≤ ((p.places.countP isSp : Nat) : Int)) = true := decide_eq_true (by omega)
    try simp only [go_sem, ruB, hO.sl.len, w1, d3]
    rw [e6, if_pos (.inr gs)]
    exact ⟨rfl, hx0a⟩
  · have d3 : decide ((((csP p 16).length : Nat) : Int) - 1 ≤ ((p.places.countP isSp : Nat) : Int)) = false := decide_eq_false (by omega)
    try simp only [go_sem, ruB, hO.sl.len, w1, d3]
    rw [e6, if_neg (fun q => q.elim ga gs)]
    exact ⟨rfl, hx0a⟩
end Go.Am


/- Weave: Place, walked. -/
set_option linter.unusedVariables false
set_option linter.unusedSimpArgs false
namespace Go.Am
open Classical
variable {m : Mem}

theorem BgV.lg {mE m : Mem} {p : PlanD} {bl : Nat} {csV gV rV : Value} (h : BgV mE m p bl (csP p 16).length (csP p 16).length csV gV rV) (hf : 0 ≤ p.frame) (hR : PlanR p) : LgV mE m p bl csV gV rV (fun c => roomP p (c : Nat)) := by
  have l := h.lm hf
  exact ⟨l.lo, l.cl, l.g, l.gl, h.ro, h.d1.2.2, fun x hx => (h.d2.1 x hx).1, fun c => roomP_le hR, fun c hh => roomP_0 hh⟩
/-- The start. -/
noncomputable def plS0 (p : PlanD) (s : Int) : PlS := ⟨fun c => roomP p (c : Nat), fun _ => 0#64, s⟩
noncomputable def plL (p : PlanD) : Int := lstN (gapH p) (fun c => roomP p (c : Nat)) 16 0 0#64 0
noncomputable def plPl (p : PlanD) (w : Wt) : Pl := ⟨w.1, w.2, 0, pcL (plRun (gapH p) (plS0 p w.2) p.frame.toNat).gv (csP p 16)⟩
noncomputable def whyW (p : PlanD) (w : Wt) : Int := if whyF p w ≠ 0 then whyF p w else if plL p < w.2 then 12 else 0
def PlaceO (p : PlanD) (w : Wt) (m : Mem) (v : Value) (m' : Mem) : Prop :=
  Ext m m' ∧ ((whyW p w ≠ 0 ∧ v = .tuple #[.agg #[.int .i64 0, .int .i64 0, .int .i64 0, .slice none 0 0], .int .i64 (whyW p w)]) ∨ (whyW p w = 0 ∧ ∃ xv, v = .tuple #[xv, .int .i64 0] ∧ PlV m' (plPl p w) xv))
theorem zerosW {n : Nat} : zeros [u64 0#64] n = rgC n fun _ => u64 0#64 := by
  induction n with
  | zero => rfl
  | succ n ih =>
    rw [rgC_succ, ← ih]
    have : ∀ n : Nat, zeros [u64 0#64] n = List.replicate n (u64 0#64) := fun n => by
      induction n with
      | zero => rfl
      | succ n ih => simp [zeros, List.replicate_succ] at *; try exact ih
    rw [this, this, List.replicate_succ']
theorem rgC_oneW {n : Nat} {g : Nat → BitVec 64} : oneCells (rgC n fun i => u64 (g i)) = true := by
  unfold oneCells rgC
  rw [List.all_eq_true]
  intro x hx
  obtain ⟨i, -, rfl⟩ := List.mem_map.1 hx
  rfl
theorem whyF_0 {p : PlanD} {w : Wt} (h : whyF p w = 0) : RightP p ∧ chkA p.frame [w] = 0 ∧ ¬ hasU p.places w.1 ∧ ¬ anyR p w.2 ∧ p.places.countP isSp + 1 < (csP p 16).length := by
  unfold whyF at h
  by_cases hR : RightP p
  · rw [if_neg (by simpa using hR)] at h
    by_cases gc : chkA p.frame [w] = 0
    · rw [if_neg (by simpa using gc)] at h
      by_cases gu : hasU p.places w.1
      · rw [if_pos gu] at h; omega
      · rw [if_neg gu] at h
        by_cases ga : anyR p w.2 ∨ (csP p 16).length ≤ p.places.countP isSp + 1
        · rw [if_pos ga] at h; omega
        · exact ⟨hR, gc, gu, fun q => ga (.inl q), by
            have : ¬ (csP p 16).length ≤ p.places.countP isSp + 1 := fun q => ga (.inr q)
            omega⟩
    · rw [if_pos gc] at h; exact absurd h gc
  · rw [if_pos hR] at h; omega
set_option maxHeartbeats 8000000 in
theorem wPlace_spec {p : PlanD} {v : Value} {w : Wt} (hv : PlanV m p v) (hL : PlanL p) : WC R F.weave_Place [v, .agg #[.int .i64 w.1, .int .i64 w.2]] m fun r m' => PlaceO p w m r m' := by
  refine WC.of R.weave_Place rfl ?_
  obtain ⟨pv, rfl, hp⟩ := hv
  have hcl := csP_len (p := p) (n := 16)
  simp only [RC.weave_Place, planV, go_sem, hp.one]
  have hx1 : Ext m (m.new (.cells [.int .i64 p.frame, u32 p.cores, pv] (some 3))) := Ext.new
  have hb1 : Bk (m.new (.cells [.int .i64 p.frame, u32 p.cores, pv] (some 3))) m.next [.int .i64 p.frame, u32 p.cores, pv] 3 := Bk.new
  have hn1 : (m.new (.cells [.int .i64 p.frame, u32 p.cores, pv] (some 3))).next = m.next + 1 := rfl
  generalize m.new (.cells [.int .i64 p.frame, u32 p.cores, pv] (some 3)) = m1 at hx1 hb1 hn1 ⊢
  have hx2 : Ext m1 (m1.new (.cells [.int .i64 w.1, .int .i64 w.2] (some 2))) := Ext.new
  have hc2 : Bk (m1.new (.cells [.int .i64 w.1, .int .i64 w.2] (some 2))) m1.next [.int .i64 w.1, .int .i64 w.2] 2 := Bk.new
  have hn2 : (m1.new (.cells [.int .i64 w.1, .int .i64 w.2] (some 2))).next = m1.next + 1 := rfl
  generalize m1.new (.cells [.int .i64 w.1, .int .i64 w.2] (some 2)) = m2 at hx2 hc2 hn2 ⊢
  have hx3 : Ext m2 (m2.new (.cells [.int .i64 0, .int .i64 0, .int .i64 0, .slice none 0 0] (some 4))) := Ext.new
  have hd3 : Bk (m2.new (.cells [.int .i64 0, .int .i64 0, .int .i64 0, .slice none 0 0] (some 4))) m2.next [.int .i64 0, .int .i64 0, .int .i64 0, .slice none 0 0] 4 := Bk.new
  have hn3 : (m2.new (.cells [.int .i64 0, .int .i64 0, .int .i64 0, .slice none 0 0] (some 4))).next = m2.next + 1 := rfl
  generalize m2.new (.cells [.int .i64 0, .int .i64 0, .int .i64 0, .slice none 0 0] (some 4)) = m3 at hx3 hd3 hn3 ⊢
  have hx03 := (hx1.trans hx2).trans hx3
  have hb3 := (hb1.keep hx2).keep hx3
  have hc3 := hc2.keep hx3
  have hp3 := hp.keep hx03
  have e0 : ((0 : Int) != 0) = false := rfl
  try simp only [go_sem, ruB, hb3.at_, hc3.at_, hp3.one]
  refine gC.of (wWhy_spec (p := p) (w := w) ⟨pv, rfl, hp3⟩ hL) ?_
  rintro _ m4 ⟨rfl, hx4⟩
  have hb4 := hb3.keep hx4
  have hc4 := hc3.keep hx4
  have hd4 := hd3.keep hx4
  have hp4 := hp3.keep hx4
  have hx04 := hx03.trans hx4
  have n1 := hx1.next
  have n2 := hx2.next
  have n3 := hx3.next
  by_cases gf : whyF p w = 0
  rotate_left
  · have e2 : (whyF p w != 0) = true := by rw [bne_iff_ne]; exact gf
    have hw : whyW p w = whyF p w := by unfold whyW; rw [if_pos gf]
    try simp only [go_sem, ruB, e2, hd4.at_]
    exact ⟨hx04.set (by omega), .inl ⟨by rw [hw]; exact gf, by rw [hw]⟩⟩
  have e2 : (whyF p w != 0) = false := by rw [bne_eq_false_iff_eq]; exact gf
  obtain ⟨hR, gc, gu, ga, gs⟩ := whyF_0 gf
  have hPR := hR.pr hL
  have f2 := hR.1
  have f64 := hR.2.1
  have hk := (chkA_ok gc).w w (by simp)
  try simp only [go_sem, ruB, e2, hb4.at_, hp4.one]
  refine gC.of (begin_spec (p := p) ⟨pv, rfl, hp4⟩ hL hPR) ?_
  rintro _ m5 ⟨bl, csV, gV, rV, rfl, hB⟩
  have hc5 := hc4.keep hB.x
  have hd5 := hd4.keep hB.x
  have hlg := hB.lg (by omega) hPR
  have ef : ((p.frame.toNat : Nat) : Int) = p.frame := by omega
  try simp only [go_sem, ruB, hc5.at_]
  refine gC.of (most_spec (fr := 0) (lim := w.2) hlg.lm hcl (by omega) (fun i hi => roomP_le hPR) (by omega)) ?_
  rintro _ m6 ⟨hx6, N, rfl, hM⟩
  obtain ⟨k1, k2, k3⟩ := most_lst (p := p) (gs := gapH p) (gm := gapH p) (rs := fun c => roomP p (c : Nat)) (f := p.frame.toNat) (by omega) (fun c s _ => ⟨fun q => ⟨by omega, q⟩, fun q => q.2⟩) (fun c s q => gapH_lt f2 f64 q) (fun c _ hh => gapH_0 hh) (fun c _ hh => roomP_0 hh) hM
  have hc6 := hc5.keep hx6
  have hd6 := hd5.keep hx6
  have hlg6 := hlg.keep hx6
  have w6 := hx6.same _ hc5.lt
  have hx46 := hB.x.trans hx6
  have hx06 := hx04.trans hx46
  by_cases gm : N < w.2
  · have e3 : decide (N < w.2) = true := decide_eq_true gm
    have hw : whyW p w = 12 := by unfold whyW; rw [if_neg (by simpa using gf)]; unfold plL; rw [if_pos (by omega)]
    try simp only [go_sem, ruB, watch_one, watch_nil, blk_ptr, w6, hc6.at_, e3, hd6.at_]
    exact ⟨hx06.set (by omega), .inl ⟨by rw [hw]; decide, by rw [hw]⟩⟩
  have e3 : decide (N < w.2) = false := decide_eq_false gm
  have hw : whyW p w = 0 := by unfold whyW; rw [if_neg (by simpa using gf)]; unfold plL; rw [if_neg (by omega)]
  have lo6 := hlg6.lo.at_
  have cl6 := hlg6.cl
  simp only [intV] at lo6 cl6
  try simp only [go_sem, ruB, watch_one, watch_nil, blk_ptr, w6, hc6.at_, e3, lo6, cl6]
  refine Got.of (make_eq (n := (csP p 16).length) (by omega) (by omega) rfl rfl) ?_
  rw [zerosW]
  have hx7 : Ext m6 (m6.new (.cells (rgC (csP p 16).length fun _ => u64 0#64) (some 1))) := Ext.new
  have hO7 : Own m6 (m6.new (.cells (rgC (csP p 16).length fun _ => u64 0#64) (some 1))) 1 (csP p 16).length (rgC (csP p 16).length fun _ => u64 0#64) (.slice (some ⟨m6.next, 0, none⟩) (csP p 16).length (csP p 16).length) := by
    refine .at (all := rgC (csP p 16).length fun _ => u64 0#64) (Nat.le_refl _) (by simp [Mem.new]) (Nat.le_refl _) (by simp [Mem.new]) (by simp [rgC]) ?_ (rgC_oneW (g := fun _ => 0#64))
    rw [List.take_of_length_le (by simp [rgC])]
  have n7 : m6.next < (m6.new (.cells (rgC (csP p 16).length fun _ => u64 0#64) (some 1))).next := by simp [Mem.new]
  simp only []
  generalize m6.new (.cells (rgC (csP p 16).length fun _ => u64 0#64) (some 1)) = m7 at hx7 hO7 n7 ⊢
  have hgb : ∀ x ∈ vb (.slice (some ⟨m6.next, 0, none⟩) (csP p 16).length (csP p 16).length), x = m6.next := fun x hx => by simpa [vb] using hx
  generalize (Value.slice (some ⟨m6.next, 0, none⟩) (csP p 16).length (csP p 16).length) = gvV at hO7 hgb ⊢
  have hc7 := hc6.keep hx7
  have hd7 := hd6.keep hx7
  have hlg7 := hlg6.keep hx7
  have n46 := hx46.next
  have n56 := hx6.next
  have lbl := hB.lo.lt
  have lG := SlLt.vb_iff.1 hB.go.lt
  have lR := SlLt.vb_iff.1 hB.ro.lt
  have gR := hB.ro.ge
  have lC := SlLt.vb_iff.1 hB.co.lt
  have l3 := hc4.lt
  have l4 := hd4.lt
  have s7 : Sl m7 1 (csP p 16).length (ints (csP p 16)) csV := (hB.co.sl.keep hB.co.lt hx6).keep (hB.co.lt.keep hx6) hx7
  have t7 : SlLt m7 csV := (hB.co.lt.keep hx6).keep hx7
  try simp only [go_sem, ruB, hc7.at_]
  refine WL.mono (ticks_loop (mE := m4) (s := plS0 p w.2) (gvV := gvV) hlg7 f2 f64 (by show w.2 ≤ 64; omega) (hO7.rebase (m1 := m4) (by omega)) (fun x hx => ?_)) ?_
  · rw [hgb x hx]
    exact ⟨by omega, fun hm => by have := lG _ hm; omega, fun hm => by have := lR _ hm; omega⟩
  rintro _ _ m8 ⟨rfl, ⟨rs, rfl⟩, hU8, hlg8, hO8⟩
  have off : ∀ x, x < m4.next → x ∉ vb rV ++ vb gvV := fun x hx hm => by
    rcases List.mem_append.1 hm with hm | hm
    · have := gR x hm; omega
    · have := hgb x hm; omega
  have hc8 := hc7.upd hU8 (off _ l3)
  have hd8 := hd7.upd hU8 (off _ l4)
  have s8 : Sl m8 1 (csP p 16).length (ints (csP p 16)) csV := s7.upd t7 (SlOff.vb_iff.2 fun x hx hm => by
    rcases List.mem_append.1 hm with hm | hm
    · first | exact hB.d2.2 x hm hx | exact hB.d2.2 x hx hm
    · first | (have := hgb x hm; have := lC x hx; omega) | (have := hgb x hx; have := lC x hm; omega)) hU8
  have t8 := t7.upd hU8
  have lo8 := hlg8.lo.at_
  have cl8 := hlg8.cl
  simp only [intV] at lo8 cl8
  have n8 := hU8.next
  have n67 := hx7.next
  have kf : fillL [.int .i64 0, .int .i64 0, .int .i64 0, .slice none 0 0] [(0, 1, .int .i64 w.1), (1, 1, .int .i64 w.2)] = some [.int .i64 w.1, .int .i64 w.2, .int .i64 0, .slice none 0 0] := rfl
  simp only [pt]
  try simp only [go_sem, ruB, hc8.at_, ↓kf]
  have hx9 : Ext m8 (m8.new (.cells [.int .i64 w.1, .int .i64 w.2, .int .i64 0, .slice none 0 0] (some 4))) := Ext.new
  have hb9 : Bk (m8.new (.cells [.int .i64 w.1, .int .i64 w.2, .int .i64 0, .slice none 0 0] (some 4))) m8.next [.int .i64 w.1, .int .i64 w.2, .int .i64 0, .slice none 0 0] 4 := Bk.new
  have hn9 : (m8.new (.cells [.int .i64 w.1, .int .i64 w.2, .int .i64 0, .slice none 0 0] (some 4))).next = m8.next + 1 := rfl
  generalize m8.new (.cells [.int .i64 w.1, .int .i64 w.2, .int .i64 0, .slice none 0 0] (some 4)) = m9 at hx9 hb9 hn9 ⊢
  have hd9 := hd8.keep hx9
  have lo9 := (hlg8.keep hx9).lo.at_
  simp only [intV] at lo9
  have lb9 := hb9.lt
  have bl8 := hlg8.lo.lt
  have ne9 : (m8.next = bl) = False := eq_false (by omega)
  have ne9' : (bl = m8.next) = False := eq_false (by omega)
  try simp only [go_sem, ruB, lo8, lo9, cl8, ne9, ne9']
  refine WL.mono (pieces_loop (m0 := m8) (bt := m8.next) (gv := (plRun (gapH p) (plS0 p w.2) p.frame.toNat).gv) (w := w) s8 t8 hO8.sl hO8.lt ⟨hb9, Nat.le_refl _, .nil rfl rfl, by simp [vb], hx9⟩) ?_
  rintro _ _ m10 ⟨rfl, ⟨c, rs', rfl⟩, pv', hP⟩
  have hd10 := hd8.keep hP.x
  have bk10 := hP.bk
  have oP := hP.o
  have gP := oP.ge
  obtain ⟨xa, xn, xc, rfl⟩ := slice_own oP
  have oneP := oP.sl.one
  have l42 := hd8.lt
  have hd3l := hd3.lt
  have ne10 : (m2.next = m8.next) = False := eq_false (by omega)
  simp only [pt]
  try simp only [go_sem, ruB, bk10.at_, hd10.at_, ne10, oneP]
  have n04 := hx04.next
  have X8 : Ext m m8 := hU8.ext_of (hx06.trans hx7) fun x hx => by
    rcases List.mem_append.1 hx with hx | hx
    · have := gR x hx; omega
    · have := hgb x hx; omega
  have hU11 : Upd m10 (m10.set m2.next (some (.cells [.int .i64 w.1, .int .i64 w.2, .int .i64 0, .slice xa xn xc] (some 4)))) [m2.next] := Upd.set (by simp)
  have nop : ∀ x ∈ vb (.slice xa xn xc), x ∉ [m2.next] := fun x hx hm => by
    rw [List.mem_singleton] at hm
    have := gP x hx; omega
  have o11 := oP.updq hU11 nop
  exact ⟨(X8.trans hP.x).set (by omega), .inr ⟨hw, _, rfl, .slice xa xn xc, rfl, o11.sl, o11.lt⟩⟩
end Go.Am


/- Weave: the document's First and Why, walked. -/
set_option linter.unusedVariables false
set_option linter.unusedSimpArgs false
namespace Go.Am
open Classical
variable {m : Mem}

noncomputable def whyD (p : PlanD) (l : List Wt) : Int := if ¬ RightP p then 30 else if chkA p.frame l ≠ 0 then chkA p.frame l else if ∃ w ∈ l, hasU p.places w.1 then 11 else 0
set_option maxHeartbeats 2000000 in
theorem refWhy18 {p : PlanD} {l : List Wt} {v lv : Value} (hv : PlanV m p v) (hs : Sl m 2 l.length (l.flatMap spV) lv) (hlt : SlLt m lv) (hl : l.length ≤ 60) (hL : PlanL p) : WC R F.ref18_Why [v, lv] m fun r m' => r = .int .i64 (whyD p l) ∧ Ext m m' := by
  refine WC.of R.ref18_Why rfl ?_
  obtain ⟨pv, rfl, hp⟩ := hv
  have hpc := hp.cells
  simp only [RC.ref18_Why, planV, go_sem, hp.one]
  have hx1 : Ext m (m.new (.cells [.int .i64 p.frame, u32 p.cores, pv] (some 3))) := Ext.new
  have hb1 : Bk (m.new (.cells [.int .i64 p.frame, u32 p.cores, pv] (some 3))) m.next [.int .i64 p.frame, u32 p.cores, pv] 3 := Bk.new
  generalize m.new (.cells [.int .i64 p.frame, u32 p.cores, pv] (some 3)) = m1 at hx1 hb1 ⊢
  try simp only [go_sem, ruB, hb1.at_, hp.one]
  refine gC.of (refRight_spec (p := p) ⟨pv, rfl, hp.keep hx1⟩ hL.len hL.pcs) ?_
  rintro _ m2 ⟨rfl, hx2⟩
  have hx12 := hx1.trans hx2
  have hb2 := hb1.keep hx2
  have e00 : ((0 : Int) != 0) = false := rfl
  by_cases hR : RightP p
  rotate_left
  · have hd : whyD p l = 30 := by unfold whyD; rw [if_pos hR]
    rw [decide_eq_false hR]
    try simp only [go_sem, ruB, hd]
    exact hx12
  rw [decide_eq_true hR]
  have hs2 := hs.keep hlt hx12
  try simp only [go_sem, ruB, hb2.at_]
  refine gC.of (refCheck hs2 (by omega)) ?_
  rintro _ m3 ⟨rfl, hm⟩
  replace hm := hm.symm
  subst hm
  by_cases gc : chkA p.frame l = 0
  rotate_left
  · have e2 : (chkA p.frame l != 0) = true := by rw [bne_iff_ne]; exact gc
    have hd : whyD p l = chkA p.frame l := by unfold whyD; rw [if_neg (by simpa using hR), if_pos gc]
    try simp only [go_sem, ruB, e2, hd]
    exact hx12
  have e2 : (chkA p.frame l != 0) = false := by rw [bne_eq_false_iff_eq]; exact gc
  try simp only [go_sem, ruB, e2]
  refine WL.mono (WL.of (Q := fun y e m' => (y = .exit 0 ∧ (¬ ∃ w ∈ l, hasU p.places w.1) ∧ Ext m m') ∨ (y = .ret ∧ e = [(4, .int .i64 11)] ∧ (∃ w ∈ l, hasU p.places w.1) ∧ Ext m m'))
    (fun n e m' => ∃ k : Nat, k ≤ l.length ∧ n = l.length - k ∧ e = [(1, lv), (2, .pointer (some ⟨m.next, 0, none⟩)), (6, .int .i64 (k : Nat))] ∧ (∀ w ∈ l.take k, ¬ hasU p.places w.1) ∧ Ext m m' ∧ Bk m' m.next [.int .i64 p.frame, u32 p.cores, pv] 3) l.length
    ⟨0, by omega, by omega, by simp only [go_sem] <;> rfl, fun w hw => by simp at hw, hx12, hb2⟩ ?_) ?_
  rotate_left
  · rintro _ _ m4 (⟨rfl, hn, hx4⟩ | ⟨rfl, rfl, hn, hx4⟩)
    · have hd : whyD p l = 0 := by unfold whyD; rw [if_neg (by simpa using hR), if_neg (by simpa using gc), if_neg hn]
      try simp only [go_sem, ruB, hd]
      exact hx4
    · have hd : whyD p l = 11 := by unfold whyD; rw [if_neg (by simpa using hR), if_neg (by simpa using gc), if_pos hn]
      try simp only [go_sem, ruB, hd]
      exact hx4
  rintro _ _ m4 ⟨k, hk, rfl, rfl, hn, hx4, hb4⟩
  have hs4 := hs.keep hlt hx4
  have hp4 := hp.keep hx4
  simp only [RB.ref18_Why_1, go_sem, hs4.len]
  have s1 := step1 (show k < 1000000 by omega)
  by_cases g : k < l.length
  rotate_left
  · have e1 : decide (((k : Nat) : Int) < ((l.length : Nat) : Int)) = false := decide_eq_false (by omega)
    rw [List.take_of_length_le (by omega)] at hn
    try simp only [go_sem, ruB, e1]
    exact .inl ⟨fun ⟨w, hw, h⟩ => hn w hw h, hx4⟩
  have e1 : decide (((k : Nat) : Int) < ((l.length : Nat) : Int)) = true := decide_eq_true (by omega)
  obtain ⟨pb, po, a1, -, a3, -⟩ := hs4.elem spV_len (k := .i64) g
  have a30 := a3 0 (by omega)
  simp only [spV, List.getElem?_cons_zero, Nat.add_zero] at a30
  try simp only [go_sem, ruB, e1, a1, a30, hb4.at_, hp.one]
  refine gC.of (refFind_spec (p := p) (u := l[k].1) ⟨pv, rfl, hp4.keep (Ext.bump (n := 13))⟩ hL hR.asc) ?_
  rintro _ m5 ⟨w, rfl, ⟨qv, rfl, hq⟩, hx5⟩
  have n5 := hx5.next
  simp only [Mem.bump_next] at n5
  have hqo := hq.one
  have hqc := hq.cells
  have hx05 := (hx4.trans Ext.bump).trans hx5
  have hb5 := (hb4.keep Ext.bump).keep hx5
  have hm4 := hx4.next
  simp only [plV]
  try simp only [go_sem, ruB, aExt0, aExt1, hqo, ↓hqc]
  by_cases gh : hasU p.places l[k].1
  · have e2 : decide (hasU p.places l[k].1) = true := decide_eq_true gh
    try simp only [go_sem, ruB, e2]
    exact .inr ⟨⟨_, List.getElem_mem g, gh⟩, (hx05.set (by omega)).set (by omega)⟩
  · have e2 : decide (hasU p.places l[k].1) = false := decide_eq_false gh
    have hbl := hb4.lt
    try simp only [go_sem, ruB, e2, s1]
    refine ⟨l.length - (k + 1), by omega, k + 1, by omega, rfl, rfl, fun w hw => ?_, (hx05.set (by omega)).set (by omega), ?_⟩
    · rw [List.take_succ_eq_append_getElem g] at hw
      rcases List.mem_append.1 hw with hw | hw
      · exact hn w hw
      · rw [List.mem_singleton] at hw; rw [hw]; exact gh
    · exact hb5.upd (fp := [m4.next + 10]) ((Upd.set (by simp)).sameF (Upd.set (by simp))) (by simp; omega)
set_option maxHeartbeats 2000000 in
theorem refFirst_spec {p : PlanD} {v : Value} {s : Int} (hv : PlanV m p v) (hL : PlanL p) (hR : RightP p) : WC R F.ref18_First [v, .int .i64 s] m fun r m' => (∃ c : Int, r = .int .i64 c ∧ (0 ≤ c ↔ anyR p s)) ∧ Ext m m' := by
  refine WC.of R.ref18_First rfl ?_
  obtain ⟨pv, rfl, hp⟩ := hv
  simp only [RC.ref18_First, planV, go_sem, hp.one]
  have hx1 : Ext m (m.new (.cells [.int .i64 p.frame, u32 p.cores, pv] (some 3))) := Ext.new
  have hb1 : Bk (m.new (.cells [.int .i64 p.frame, u32 p.cores, pv] (some 3))) m.next [.int .i64 p.frame, u32 p.cores, pv] 3 := Bk.new
  have hn1 : (m.new (.cells [.int .i64 p.frame, u32 p.cores, pv] (some 3))).next = m.next + 1 := rfl
  generalize m.new (.cells [.int .i64 p.frame, u32 p.cores, pv] (some 3)) = m1 at hx1 hb1 hn1 ⊢
  have hp1 := hp.keep hx1
  refine WL.of (fun z e m' => ∃ j : Nat, j ≤ 16 ∧ z = 16 - j ∧ e = [(1, .int .i64 s), (2, pt m.next), (5, .int .i64 (j : Nat))] ∧ Ext m1 m' ∧ ∀ k, k < j → ¬ (hasC p (k : Nat) = true ∧ s ≤ roomP p (k : Nat))) 16
    ⟨0, by omega, by omega, by simp only [pt, go_sem] <;> rfl, Ext.refl _, fun k hk => by omega⟩ ?_
  rintro _ _ m3 ⟨j, hj, rfl, rfl, hx3, hno⟩
  simp only [RB.ref18_First_1, pt, go_sem]
  have s1 := step1 (show j < 1000000 by omega)
  by_cases g : j < 16
  rotate_left
  · have e1 : decide (((j : Nat) : Int) < 16) = false := decide_eq_false (by omega)
    have nn : ¬ anyR p s := fun ⟨c, c1, c2, c3⟩ => hno c (by omega) ⟨c2, c3⟩
    try simp only [go_sem, ruB, e1]
    exact ⟨⟨-1, rfl, fun q => by omega, fun q => absurd q nn⟩, hx1.trans hx3⟩
  have e1 : decide (((j : Nat) : Int) < 16) = true := decide_eq_true (by omega)
  have hb3 := hb1.keep hx3
  have hp3 := hp1.keep hx3
  try simp only [go_sem, ruB, e1, hb3.at_, hp1.one]
  refine gC.of (refHas_spec (p := p) (c := (j : Nat)) ⟨pv, rfl, hp3⟩) ?_
  rintro _ m4 ⟨rfl, hx4⟩
  have next : ¬ (hasC p (j : Nat) = true ∧ s ≤ roomP p (j : Nat)) → ∀ k, k < j + 1 → ¬ (hasC p (k : Nat) = true ∧ s ≤ roomP p (k : Nat)) := fun q k hk => by
    by_cases e : k = j
    · rw [e]; exact q
    · exact hno k (by omega)
  by_cases hh : hasC p (j : Nat) = true
  rotate_left
  · have hh' : hasC p ((j : Nat) : Int) = false := by simpa using hh
    try simp only [go_sem, ruB, hh', s1]
    exact ⟨16 - (j + 1), by omega, j + 1, by omega, rfl, rfl, hx3.trans hx4, next fun q => hh q.1⟩
  have hb4 := hb3.keep hx4
  try simp only [go_sem, ruB, hh, hb4.at_, hp1.one]
  refine gC.of (refRoom_spec (p := p) (c := (j : Nat)) ⟨pv, rfl, hp3.keep hx4⟩ (hR.pr hL)) ?_
  rintro _ m5 ⟨rfl, hx5⟩
  rw [← hR.room]
  by_cases q : s ≤ roomP p (j : Nat)
  · have e3 : decide (s ≤ roomP p (j : Nat)) = true := decide_eq_true q
    try simp only [go_sem, ruB, e3]
    exact ⟨⟨_, rfl, fun _ => ⟨j, g, hh, q⟩, fun _ => by omega⟩, hx1.trans (hx3.trans (hx4.trans hx5))⟩
  · have e3 : decide (s ≤ roomP p (j : Nat)) = false := decide_eq_false q
    try simp only [go_sem, ruB, e3, s1]
    exact ⟨16 - (j + 1), by omega, j + 1, by omega, rfl, rfl, hx3.trans (hx4.trans hx5), next fun k => q k.2⟩
theorem whyD_one {p : PlanD} {w : Wt} (h : RightP p) : whyD p [w] = if chkA p.frame [w] ≠ 0 then chkA p.frame [w] else if hasU p.places w.1 then 11 else 0 := by
  unfold whyD
  rw [if_neg (by simpa using h)]
  by_cases gc : chkA p.frame [w] ≠ 0
  · rw [if_pos gc, if_pos gc]
  · rw [if_neg gc, if_neg gc]
    by_cases gu : hasU p.places w.1
    · rw [if_pos gu, if_pos ⟨w, by simp, gu⟩]
    · rw [if_neg gu, if_neg]
      rintro ⟨x, hx, q⟩
      rw [List.mem_singleton] at hx; rw [hx] at q; exact gu q
theorem frW_0 {p : PlanD} : (fun c => frW (gapH p c) 0) = gapH p := by
  funext c
  refine word_ext fun s hs => ?_
  rw [Bool.eq_iff_iff, frW_bit hs]
  exact ⟨fun q => q.2, fun q => ⟨by omega, q⟩⟩
set_option maxHeartbeats 4000000 in
theorem refWhyW_spec {p : PlanD} {v : Value} {w : Wt} (hv : PlanV m p v) (hL : PlanL p) (hR : RightP p) : WC R F.ref21_Why [v, .agg #[.int .i64 w.1, .int .i64 w.2]] m fun r m' => r = .int .i64 (whyW p w) ∧ Ext m m' := by
  refine WC.of R.ref21_Why rfl ?_
  obtain ⟨pv, rfl, hp⟩ := hv
  have hcl := csP_len (p := p) (n := 16)
  have hPR := hR.pr hL
  simp only [RC.ref21_Why, planV, go_sem, hp.one]
  have hx1 : Ext m (m.new (.cells [.int .i64 p.frame, u32 p.cores, pv] (some 3))) := Ext.new
  have hb1 : Bk (m.new (.cells [.int .i64 p.frame, u32 p.cores, pv] (some 3))) m.next [.int .i64 p.frame, u32 p.cores, pv] 3 := Bk.new
  have hn1 : (m.new (.cells [.int .i64 p.frame, u32 p.cores, pv] (some 3))).next = m.next + 1 := rfl
  generalize m.new (.cells [.int .i64 p.frame, u32 p.cores, pv] (some 3)) = m1 at hx1 hb1 hn1 ⊢
  have hx2 : Ext m1 (m1.new (.cells [.int .i64 w.1, .int .i64 w.2] (some 2))) := Ext.new
  have hc2 : Bk (m1.new (.cells [.int .i64 w.1, .int .i64 w.2] (some 2))) m1.next [.int .i64 w.1, .int .i64 w.2] 2 := Bk.new
  have hn2 : (m1.new (.cells [.int .i64 w.1, .int .i64 w.2] (some 2))).next = m1.next + 1 := rfl
  generalize m1.new (.cells [.int .i64 w.1, .int .i64 w.2] (some 2)) = m2 at hx2 hc2 hn2 ⊢
  have hb2 := hb1.keep hx2
  have hx02 := hx1.trans hx2
  obtain ⟨sl, sb⟩ := @one_sl m2 w
  have hx3 : Ext m2 (m2.new (.cells [.int .i64 w.1, .int .i64 w.2] (some 2))) := Ext.new
  try simp only [go_sem, ruB, hb2.at_, hc2.at_, hp.one, ↓wfill_w]
  generalize m2.new (.cells [.int .i64 w.1, .int .i64 w.2] (some 2)) = m3 at hx3 sl sb ⊢
  have hx03 := hx02.trans hx3
  have hb3 := hb2.keep hx3
  have hc3 := hc2.keep hx3
  refine gC.of (refWhy18 (p := p) (l := [w]) ⟨pv, rfl, hp.keep hx03⟩ sl sb (by simp) hL) ?_
  rintro _ m4 ⟨rfl, hx4⟩
  have hx04 := hx03.trans hx4
  have hb4 := hb3.keep hx4
  have hc4 := hc3.keep hx4
  have hp4 := hp.keep hx04
  have wf : whyF p w = if whyD p [w] ≠ 0 then whyD p [w] else if anyR p w.2 ∨ (csP p 16).length ≤ p.places.countP isSp + 1 then 15 else 0 := by
    rw [whyD_one hR]
    unfold whyF
    rw [if_neg (by simpa using hR)]
    by_cases gc : chkA p.frame [w] = 0
    · rw [if_neg (by simpa using gc)]
      by_cases gu : hasU p.places w.1
      · simp [gc, gu]
      · simp [gc, gu]
    · simp [gc]
  by_cases gd : whyD p [w] = 0
  rotate_left
  · have e2 : (whyD p [w] != 0) = true := by rw [bne_iff_ne]; exact gd
    have hw : whyW p w = whyD p [w] := by unfold whyW; rw [wf, if_pos gd, if_pos gd]
    try simp only [go_sem, ruB, e2, hw]
    exact hx04
  have e2 : (whyD p [w] != 0) = false := by rw [bne_eq_false_iff_eq]; exact gd
  rw [if_neg (by simpa using gd)] at wf
  try simp only [go_sem, ruB, e2, hb4.at_, hc4.at_, hp.one]
  refine gC.of (refFirst_spec (p := p) (s := w.2) ⟨pv, rfl, hp4⟩ hL hR) ?_
  rintro _ m5 ⟨⟨c, rfl, hcc⟩, hx5⟩
  have hx05 := hx04.trans hx5
  have hb5 := hb4.keep hx5
  have hc5 := hc4.keep hx5
  have hp5 := hp4.keep hx5
  by_cases ga : anyR p w.2
  · have e3 : decide (0 ≤ c) = true := decide_eq_true (hcc.2 ga)
    have wf1 : whyF p w = 15 := by rw [wf, if_pos (.inl ga)]
    have hw : whyW p w = 15 := by unfold whyW; rw [wf1, if_pos (by decide)]
    try simp only [go_sem, ruB, e3, hw]
    exact hx05
  have e3 : decide (0 ≤ c) = false := decide_eq_false fun q => ga (hcc.1 q)
  try simp only [go_sem, ruB, e3, hb5.at_, hp.one]
  refine gC.of (refSplits_spec (p := p) ⟨pv, rfl, hp5⟩ hL.len) ?_
  rintro _ m6 ⟨rfl, hx6⟩
  have w6 := hx6.same _ hb5.lt
  have hb6 := hb5.keep hx6
  have hc6 := hc5.keep hx6
  have hp6 := hp5.keep hx6
  have hll := hL.len
  have hct := List.countP_le_length (p := isSp) (l := p.places)
  have w1 : IntKind.wrap .i64 (((p.places.countP isSp : Nat) : Int) + 1) = ((p.places.countP isSp : Nat) : Int) + 1 := wrap_i64 (by omega) (by omega)
  try simp only [go_sem, ruB, watch_one, watch_nil, blk_ptr, w6, w1]
  refine gC.of (refCores_spec (p := p) ⟨pv, rfl, hp6⟩) ?_
  rintro cV m7 ⟨hO7, hx7⟩
  have hb7 := hb6.keep hx7
  have hc7 := hc6.keep hx7
  have hp7 := hp6.keep hx7
  have hx07 := hx05.trans (hx6.trans hx7)
  by_cases gs : (csP p 16).length ≤ p.places.countP isSp + 1
  · have d3 : decide ((((csP p 16).length : Nat) : Int) ≤ ((p.places.countP isSp : Nat) : Int) + 1) = true := decide_eq_true (by omega)
    have wf1 : whyF p w = 15 := by rw [wf, if_pos (.inr gs)]
    have hw : whyW p w = 15 := by unfold whyW; rw [wf1, if_pos (by decide)]
    try simp only [go_sem, ruB, hO7.sl.len, d3, hw]
    exact hx07
  have d3 : decide ((((csP p 16).length : Nat) : Int) ≤ ((p.places.countP isSp : Nat) : Int) + 1) = false := decide_eq_false (by omega)
  have wf0 : whyF p w = 0 := by rw [wf, if_neg fun q => q.elim ga gs]
  try simp only [go_sem, ruB, hO7.sl.len, d3, hb7.at_, hc7.at_, hp.one]
  refine gC.of (refGaps_spec (p := p) ⟨pv, rfl, hp7⟩ hL hR) ?_
  rintro gv m8 ⟨hG8, hx8⟩
  have w8 := hx8.same _ hb7.lt
  have v8 := hx8.same _ hc7.lt
  have hb8 := hb7.keep hx8
  have hc8 := hc7.keep hx8
  have hp8 := hp7.keep hx8
  try simp only [go_sem, ruB, watch_one, watch_nil, blk_ptr, w8, v8]
  refine gC.of (refRooms_spec (p := p) ⟨pv, rfl, hp8⟩ hL hR) ?_
  rintro rv m9 ⟨hO9, hx9⟩
  have v9 := hx9.same _ hc8.lt
  have hG9 := hG8.keep hx9
  have hc9 := hc8.keep hx9
  try simp only [go_sem, ruB, watch_one, watch_nil, blk_ptr, v9]
  refine gC.of (refMost_spec (fr := 0) hG9.sl hO9.sl hG9.lt hO9.lt (fun c _ => roomP_le hPR) (by omega)) ?_
  rintro _ m10 ⟨rfl, hx10⟩
  have v10 := hx10.same _ hc9.lt
  rw [frW_0]
  have hx0a := hx07.trans (hx8.trans (hx9.trans hx10))
  by_cases gm : plL p < w.2
  · have d4 : decide (lstN (gapH p) (fun c => roomP p (c : Nat)) 16 0 0#64 0 < w.2) = true := decide_eq_true gm
    have hw : whyW p w = 12 := by unfold whyW; rw [if_neg (by simpa using wf0), if_pos gm]
    try simp only [go_sem, ruB, watch_one, watch_nil, blk_ptr, v10, d4, hw]
    exact hx0a
  · have d4 : decide (lstN (gapH p) (fun c => roomP p (c : Nat)) 16 0 0#64 0 < w.2) = false := decide_eq_false gm
    have hw : whyW p w = 0 := by unfold whyW; rw [if_neg (by simpa using wf0), if_neg gm]
    try simp only [go_sem, ruB, watch_one, watch_nil, blk_ptr, v10, d4, hw]
    exact hx0a
end Go.Am


/- Weave: the document's Place: its ticks, walked. -/
set_option linter.unusedVariables false
set_option linter.unusedSimpArgs false
namespace Go.Am
open Classical
variable {m : Mem}

structure RgV (mE m : Mem) (p : PlanD) (gV rV gvV : Value) (s : PlS) : Prop where
  g : Sl m 1 16 (rgC 16 fun c => u64 (gapH p c)) gV
  gl : SlLt m gV
  ro : Own mE m 1 16 (rgC 16 fun c => intV (s.rm c)) rV
  go : Own mE m 1 16 (rgC 16 fun c => u64 (s.gv c)) gvV
  d1 : ∀ x ∈ vb gV, x ∉ vb rV ∧ x ∉ vb gvV
  d2 : ∀ x ∈ vb rV, x ∉ vb gvV
  ok : (∀ c, 0 ≤ s.rm c ∧ s.rm c ≤ 64) ∧ ∀ c, ¬ hasC p (c : Nat) = true → s.rm c = 0
theorem RgV.keep {mE m m' : Mem} {p : PlanD} {gV rV gvV : Value} {s : PlS} (h : RgV mE m p gV rV gvV s) (hx : Ext m m') : RgV mE m' p gV rV gvV s := ⟨h.g.keep h.gl hx, h.gl.keep hx, h.ro.keep hx, h.go.keep hx, h.d1, h.d2, h.ok⟩
theorem RgV.putR {mE m : Mem} {p : PlanD} {gV rV gvV : Value} {s : PlS} (h : RgV mE m p gV rV gvV s) {c : Nat} (hc : c < 16) {x : Int} (hx : 0 ≤ x ∧ x ≤ 64) (hh : ¬ hasC p (c : Nat) = true → x = 0) : ∃ q m', aIdxS 1 rV (.int .i64 (c : Nat)) = some q ∧ aLoad false 1 m q = some (.int .i64 (s.rm c)) ∧ aStore 1 m q (.int .i64 x) = some m' ∧ RgV mE m' p gV rV gvV ⟨fup s.rm c x, s.gv, s.lack⟩ ∧ Upd m m' (vb rV) := by
  obtain ⟨q, a1, a2⟩ := h.ro.sl.get (k := .i64) hc
  rw [rgC_get hc] at a2
  obtain ⟨b, m', e1, e2, e3, e4, e5⟩ := h.ro.putB (w := .int .i64 x) (k := .i64) (i := c) (o := 0) hc (by omega) rfl rfl
  simp only [Nat.mul_one, Nat.add_zero] at e1 e2 e3
  rw [a1] at e1
  cases e1
  rw [show (Value.int .i64 x) = intV x from rfl, rgC_set, fup_int] at e3
  refine ⟨_, m', a1, a2, e2, ⟨h.g.upd h.gl (SlOff.vb_iff.2 fun x hx hm => (h.d1 x hx).1 hm) e4, h.gl.upd e4, e3, h.go.updq e4 fun x hx hm => h.d2 x hm hx, h.d1, h.d2, fun c' => ?_, fun c' h' => ?_⟩, e4⟩
  · show 0 ≤ fup s.rm c x c' ∧ fup s.rm c x c' ≤ 64
    by_cases e : c' = c
    · rw [e, fup_at]; exact hx
    · rw [fup_ne e]; exact h.ok.1 c'
  · show fup s.rm c x c' = 0
    by_cases e : c' = c
    · subst e; rw [fup_at]; exact hh h'
    · rw [fup_ne e]; exact h.ok.2 c' h'
theorem RgV.putG {mE m : Mem} {p : PlanD} {gV rV gvV : Value} {s : PlS} (h : RgV mE m p gV rV gvV s) {c : Nat} (hc : c < 16) {x : BitVec 64} {l : Int} : ∃ q m', aIdxS 1 gvV (.int .i64 (c : Nat)) = some q ∧ aLoad false 1 m q = some (u64 (s.gv c)) ∧ aStore 1 m q (u64 x) = some m' ∧ RgV mE m' p gV rV gvV ⟨s.rm, fup s.gv c x, l⟩ ∧ Upd m m' (vb gvV) := by
  obtain ⟨q, a1, a2⟩ := h.go.sl.get (k := .i64) hc
  rw [rgC_get hc] at a2
  obtain ⟨b, m', e1, e2, e3, e4, e5⟩ := h.go.putB (w := u64 x) (k := .i64) (i := c) (o := 0) hc (by omega) rfl rfl
  simp only [Nat.mul_one, Nat.add_zero] at e1 e2 e3
  rw [a1] at e1
  cases e1
  have ef : fup (fun k => u64 (s.gv k)) c (u64 x) = fun k => u64 (fup s.gv c x k) := by
    funext k; unfold fup; split <;> rfl
  rw [rgC_set, ef] at e3
  exact ⟨_, m', a1, a2, e2, ⟨h.g.upd h.gl (SlOff.vb_iff.2 fun x hx hm => (h.d1 x hx).2 hm) e4, h.gl.upd e4, h.ro.updq e4 (fun x hx hm => h.d2 x hx hm), e3, h.d1, h.d2, h.ok⟩, e4⟩
def RpO (mE : Mem) (p : PlanD) (gV rV gvV : Value) (s' : PlS) (a b c d : Value) (m : Mem) (e : Env) (m' : Mem) : Prop :=
  (∃ rs, e = (2, a) :: (3, b) :: (4, c) :: (5, gV) :: (6, rV) :: (7, gvV) :: (8, .int .i64 s'.lack) :: (9, d) :: rs) ∧ Upd m m' (vb rV ++ vb gvV) ∧ RgV mE m' p gV rV gvV s'
set_option maxHeartbeats 8000000 in
theorem cores_loop {mE : Mem} {p : PlanD} {gV rV gvV a b c : Value} {s : PlS} {t : Nat} (h : RgV mE m p gV rV gvV s) (f2 : 2 ≤ p.frame) (f64 : p.frame ≤ 64) (ht : t < p.frame.toNat) (hl : s.lack ≤ 64) :
    WL R [2, 3, 4, 5, 6, 7, 8, 9, 10] RB.ref21_Place_2 [(2, a), (3, b), (4, c), (5, gV), (6, rV), (7, gvV), (8, .int .i64 s.lack), (9, .int .i64 (t : Nat)), (10, .int .i64 0)] m fun y e m' => y = .exit 2 ∧ RpO mE p gV rV gvV (plStep (gapH p) t s) a b c (.int .i64 (t : Nat)) m e m' := by
  refine WL.of (fun z e m' => ∃ j : Nat, j ≤ 16 ∧ z = 16 - j ∧ e = [(2, a), (3, b), (4, c), (5, gV), (6, rV), (7, gvV), (8, .int .i64 s.lack), (9, .int .i64 (t : Nat)), (10, .int .i64 (j : Nat))] ∧ Upd m m' (vb rV ++ vb gvV) ∧ RgV mE m' p gV rV gvV s ∧ ∀ k, k < j → ¬ okG (gapH p) s.rm t s.lack k) 16
    ⟨0, by omega, by omega, by simp only [go_sem] <;> rfl, Upd.refl _ _, h, fun k hk => by omega⟩ ?_
  rintro _ _ m1 ⟨j, hj, rfl, rfl, hU1, h1, hno⟩
  simp only [RB.ref21_Place_2, go_sem]
  have s1 := step1 (show j < 1000000 by omega)
  by_cases g : j < 16
  rotate_left
  · have e1 : decide (((j : Nat) : Int) < 16) = false := decide_eq_false (by omega)
    try simp only [go_sem, ruB, e1]
    have := plStep_none (okG_none h1.ok.2 fun c hc => hno c (by omega))
    rw [this]
    exact ⟨⟨_, rfl⟩, hU1, h1⟩
  have e1 : decide (((j : Nat) : Int) < 16) = true := decide_eq_true (by omega)
  by_cases gl : 0 < s.lack
  rotate_left
  · have e2 : decide (0 < s.lack) = false := decide_eq_false gl
    try simp only [go_sem, ruB, e1, e2]
    rw [plStep_done gl]
    exact ⟨⟨_, rfl⟩, hU1, h1⟩
  have e2 : decide (0 < s.lack) = true := decide_eq_true gl
  have next : ¬ okG (gapH p) s.rm t s.lack j → ∀ k, k < j + 1 → ¬ okG (gapH p) s.rm t s.lack k := fun q k hk => by
    by_cases e : k = j
    · rw [e]; exact q
    · exact hno k (by omega)
  have rb := h1.ok.1 j
  by_cases r0 : s.rm j = 0
  · obtain ⟨q, -, a1, a2, -, -, -⟩ := h1.putR g (x := 0) (by omega) (fun _ => rfl)
    have e3 : (s.rm j == 0) = true := by rw [beq_iff_eq]; exact r0
    try simp only [go_sem, ruB, e1, e2, a1, a2, e3, s1]
    exact ⟨16 - (j + 1), by omega, j + 1, by omega, rfl, rfl, hU1, h1, next fun q => q.1 r0⟩
  have e3 : (s.rm j == 0) = false := by rw [beq_eq_false_iff_ne]; exact r0
  have hh : hasC p (j : Nat) = true := by
    by_cases q : hasC p (j : Nat) = true
    · exact q
    · exact absurd (h1.ok.2 j q) r0
  obtain ⟨q, m2, a1, a2, a3, h2, hU2⟩ := h1.putR g (x := s.rm j - 1) (by omega) (fun q => absurd hh q)
  obtain ⟨pg, g1, g2⟩ := h1.g.get (k := .i64) g
  rw [rgC_get g] at g2
  try simp only [go_sem, ruB, e1, e2, a1, a2, e3, g1, g2]
  refine gC.of ref04_Has_spec ?_
  rintro _ mx ⟨rfl, hmx⟩
  replace hmx := hmx.symm
  subst hmx
  rw [inB_nat']
  by_cases gb : (gapH p j).getLsbD t = true
  rotate_left
  · have gb' : (gapH p j).getLsbD t = false := by simpa using gb
    try simp only [go_sem, ruB, gb', s1]
    exact ⟨16 - (j + 1), by omega, j + 1, by omega, rfl, rfl, hU1, h1, next fun q => gb q.2.1⟩
  have w1 : IntKind.wrap .i64 (s.rm j - 1) = s.rm j - 1 := wrap_i64 (by omega) (by omega)
  have w2 : IntKind.wrap .i64 (s.lack - 1) = s.lack - 1 := wrap_i64 (by omega) (by omega)
  have s2 := step1 (show t < 1000000 by omega)
  try simp only [go_sem, ruB, gb, a1, a2, a3, w1, w2, s2]
  refine gC.of (refMost_spec (fr := t + 1) h2.g h2.ro.sl h2.gl h2.ro.lt (fun c _ => h2.ok.1 c) (by omega)) ?_
  rintro _ m3 ⟨rfl, hx3⟩
  have h3 := h2.keep hx3
  have hU3 : Upd m1 m3 (vb rV) := hU2.sameF (Upd.ofExt hx3)
  have hU13 : Upd m m3 (vb rV ++ vb gvV) := hU1.trans hU3 (fun x hx => hx) (fun x hx => .inl (List.mem_append_left _ hx))
  by_cases gN : s.lack - 1 ≤ lstN (fun c => frW (gapH p c) (t + 1)) (fup s.rm j (s.rm j - 1)) 16 0 0#64 0
  · have e4 : decide (s.lack - 1 ≤ lstN (fun c => frW (gapH p c) (t + 1)) (fup s.rm j (s.rm j - 1)) 16 0 0#64 0) = true := decide_eq_true gN
    obtain ⟨qg, m4, c1, c2, c3, h4, hU4⟩ := h3.putG g (x := withB (s.gv j) (t : Nat)) (l := s.lack - 1)
    simp only at c2
    try simp only [go_sem, ruB, w2, e4, c1, c2]
    refine gC.of ref04_With_spec ?_
    rintro _ mx ⟨rfl, hmx⟩
    replace hmx := hmx.symm
    subst hmx
    try simp only [go_sem, ruB, c1, c3, w2]
    have hs' := plStep_some gl ⟨r0, gb, gN⟩ (fun c' hc' => hno c' hc')
    rw [hs']
    exact ⟨⟨_, rfl⟩, hU13.trans hU4 (fun x hx => hx) (fun x hx => .inl (List.mem_append_right _ hx)), h4⟩
  · have e4 : decide (s.lack - 1 ≤ lstN (fun c => frW (gapH p c) (t + 1)) (fup s.rm j (s.rm j - 1)) 16 0 0#64 0) = false := decide_eq_false gN
    obtain ⟨q', m4, b1, b2, b3, h4, hU4⟩ := h3.putR g (x := s.rm j) rb (fun q => absurd hh q)
    simp only at b2 h4
    rw [fup_back] at h4
    rw [fup_at] at b2
    have w3 : IntKind.wrap .i64 (s.rm j - 1 + 1) = s.rm j := by rw [wrap_i64 (by omega) (by omega)]; omega
    try simp only [go_sem, ruB, w2, e4, b1, b2, b3, w3, s1]
    exact ⟨16 - (j + 1), by omega, j + 1, by omega, rfl, rfl, hU13.trans hU4 (fun x hx => hx) (fun x hx => .inl (List.mem_append_left _ hx)), h4, next fun q => gN q.2.2⟩
end Go.Am


/- Weave: the document's Place, walked. -/
set_option linter.unusedVariables false
set_option linter.unusedSimpArgs false
namespace Go.Am
open Classical
variable {m : Mem}

theorem plStep_lack {G : Nat → BitVec 64} {t : Nat} {s : PlS} : (plStep G t s).lack ≤ s.lack := by
  unfold plStep
  split
  · split
    · show s.lack - 1 ≤ s.lack; omega
    · exact Int.le_refl _
  · exact Int.le_refl _
theorem plRun_lack {G : Nat → BitVec 64} {s : PlS} : ∀ t, (plRun G s t).lack ≤ s.lack
  | 0 => Int.le_refl _
  | t + 1 => Int.le_trans plStep_lack (plRun_lack t)
set_option maxHeartbeats 8000000 in
theorem rticks_loop {mE : Mem} {p : PlanD} {pv gV rV gvV b c : Value} {s : PlS} {b2 : Nat} (h : RgV mE m p gV rV gvV s) (f2 : 2 ≤ p.frame) (f64 : p.frame ≤ 64) (hl : s.lack ≤ 64) (hb : Bk m b2 [.int .i64 p.frame, u32 p.cores, pv] 3) (hlt : b2 < mE.next) :
    WL R [2, 3, 4, 5, 6, 7, 8, 9] RB.ref21_Place_3 [(2, pt b2), (3, b), (4, c), (5, gV), (6, rV), (7, gvV), (8, .int .i64 s.lack), (9, .int .i64 0)] m fun y e m' => y = .exit 0 ∧ (∃ a rs, e = (2, a) :: (3, b) :: (4, c) :: (5, gV) :: (6, rV) :: (7, gvV) :: rs) ∧ Upd m m' (vb rV ++ vb gvV) ∧ RgV mE m' p gV rV gvV (plRun (gapH p) s p.frame.toNat) := by
  have off : b2 ∉ vb rV ++ vb gvV := fun hm => by
    rcases List.mem_append.1 hm with hm | hm
    · have := h.ro.ge _ hm; omega
    · have := h.go.ge _ hm; omega
  refine WL.of (fun z e m' => ∃ t : Nat, t ≤ p.frame.toNat ∧ z = p.frame.toNat - t ∧ e = [(2, pt b2), (3, b), (4, c), (5, gV), (6, rV), (7, gvV), (8, .int .i64 (plRun (gapH p) s t).lack), (9, .int .i64 (t : Nat))] ∧ Upd m m' (vb rV ++ vb gvV) ∧ RgV mE m' p gV rV gvV (plRun (gapH p) s t)) p.frame.toNat
    ⟨0, by omega, by omega, by simp only [pt, go_sem] <;> rfl, Upd.refl _ _, h⟩ ?_
  rintro _ _ m1 ⟨t, ht, rfl, rfl, hU1, h1⟩
  have hstep : plRun (gapH p) s (t + 1) = plStep (gapH p) t (plRun (gapH p) s t) := rfl
  have hl1 := Int.le_trans (@plRun_lack (gapH p) s t) hl
  have hb1 := hb.upd hU1 off
  simp only [RB.ref21_Place_3, pt, go_sem, ruB, hb1.at_]
  have s1 := step1 (show t < 1000000 by omega)
  by_cases g : t < p.frame.toNat
  rotate_left
  · have e1 : decide (((t : Nat) : Int) < p.frame) = false := decide_eq_false (by omega)
    have : t = p.frame.toNat := by omega
    subst this
    try simp only [go_sem, ruB, e1]
    exact ⟨⟨_, _, rfl⟩, hU1, h1⟩
  have e1 : decide (((t : Nat) : Int) < p.frame) = true := decide_eq_true (by omega)
  try simp only [go_sem, ruB, e1]
  refine WL.mono (cores_loop (t := t) h1 f2 f64 g hl1) ?_
  rintro _ _ m2 ⟨rfl, ⟨rs, rfl⟩, hU2, h2⟩
  rw [← hstep] at h2
  rw [← hstep]
  try simp only [go_sem, ruB, s1]
  exact ⟨p.frame.toNat - (t + 1), by omega, t + 1, by omega, rfl, rfl, hU1.sameF hU2, h2⟩
set_option maxHeartbeats 8000000 in
theorem rpieces_loop {m0 : Mem} {bt : Nat} {gvV b : Value} {gv : Nat → BitVec 64} {w : Wt} (hg : Sl m0 1 16 (rgC 16 fun c => u64 (gv c)) gvV) (hgl : SlLt m0 gvV) (h : PbV m0 m bt w [] (.slice none 0 0)) :
    WL R [4, 7, 11, 12] RB.ref21_Place_1 [(4, b), (7, gvV), (11, pt bt), (12, .int .i64 0)] m fun y e m' => y = .exit 4 ∧ (∃ c rs, e = (4, b) :: (7, c) :: (11, pt bt) :: rs) ∧ ∃ pv, PbV m0 m' bt w (pcL gv (List.range 16)) pv := by
  refine WL.of (fun z e m' => ∃ (j : Nat) (pv : Value), j ≤ 16 ∧ z = 16 - j ∧ e = [(4, b), (7, gvV), (11, pt bt), (12, .int .i64 (j : Nat))] ∧ PbV m0 m' bt w (pcL gv (List.range j)) pv) 16
    ⟨0, _, by omega, by omega, by simp only [pt, go_sem] <;> rfl, h⟩ ?_
  rintro _ _ m1 ⟨j, pv, hj, rfl, rfl, hP⟩
  simp only [RB.ref21_Place_1, pt, go_sem]
  have s1 := step1 (show j < 1000000 by omega)
  by_cases g : j < 16
  rotate_left
  · have e1 : decide (((j : Nat) : Int) < 16) = false := decide_eq_false (by omega)
    have : j = 16 := by omega
    subst this
    try simp only [go_sem, ruB, e1]
    exact ⟨⟨_, _, rfl⟩, pv, hP⟩
  have e1 : decide (((j : Nat) : Int) < 16) = true := decide_eq_true (by omega)
  obtain ⟨q2, g1, g2⟩ := (hg.keep hgl hP.x).get (k := .i64) g
  rw [rgC_get g] at g2
  have hpn : (pcL gv (List.range j)).length ≤ 100 := by
    have := @pcL_len gv (List.range j)
    rw [List.length_range] at this; omega
  have bk := hP.bk.at_
  by_cases e : gv j = 0#64
  · have e2 : (decide ¬gv j = 0#64) = false := by simp [e]
    try simp only [go_sem, ruB, e1, g1, g2, e2, s1]
    refine ⟨16 - (j + 1), by omega, j + 1, pv, by omega, rfl, rfl, ?_⟩
    rw [List.range_succ, pcL_snoc, if_pos e, List.append_nil]; exact hP
  · have e2 : (decide ¬gv j = 0#64) = true := by simp [e]
    try simp only [go_sem, ruB, e1, g1, g2, e2, s1, bk, ↓wfill_p, ↓wfill_pp]
    obtain ⟨pv', m4, q1, q2', ⟨xa, xn, xc, rfl⟩, hP4⟩ := hP.app (m2 := m1.bump 12) (q1 := m1.next + 8) (q2 := m1.next + 9) (a := (j : Nat)) (x := gv j) hpn Ext.bump (by omega) (by omega) (by simp only [Mem.bump_next]; omega)
    try simp only [go_sem, ruB, q1, q2'.at_, s1]
    refine ⟨16 - (j + 1), by omega, j + 1, .slice xa xn xc, by omega, rfl, rfl, ?_⟩
    rw [List.range_succ, pcL_snoc, if_neg e]; exact hP4
end Go.Am


/- Weave: the document's Place, whole. -/
set_option linter.unusedVariables false
set_option linter.unusedSimpArgs false
namespace Go.Am
open Classical
variable {m : Mem}

theorem fstN_spec {P : Nat → Prop} {c : Nat} (h : fstN P = some c) : P c ∧ ∀ c', c' < c → ¬ P c' := by
  unfold fstN at h
  split at h
  · rename_i hex
    have := Option.some.inj h
    rw [← this]; exact hex.choose_spec
  · cases h
theorem plStep_cases (G : Nat → BitVec 64) (t : Nat) (s : PlS) : plStep G t s = s ∨ ∃ c, 0 < s.lack ∧ okG G s.rm t s.lack c ∧ plStep G t s = ⟨fup s.rm c (s.rm c - 1), fup s.gv c (withB (s.gv c) (t : Nat)), s.lack - 1⟩ := by
  unfold plStep
  by_cases h : 0 < s.lack
  · rw [if_pos h]
    cases e : fstN (okG G s.rm t s.lack) with
    | none => exact .inl rfl
    | some c => exact .inr ⟨c, h, (fstN_spec e).1, rfl⟩
  · rw [if_neg h]; exact .inl rfl
theorem plRun_ok {p : PlanD} {G : Nat → BitVec 64} {s : PlS} (h1 : ∀ c, ¬ hasC p (c : Nat) = true → s.rm c = 0) (h2 : ∀ c, ¬ hasC p (c : Nat) = true → s.gv c = 0#64) : ∀ t, (∀ c, ¬ hasC p (c : Nat) = true → (plRun G s t).rm c = 0) ∧ ∀ c, ¬ hasC p (c : Nat) = true → (plRun G s t).gv c = 0#64
  | 0 => ⟨h1, h2⟩
  | t + 1 => by
    obtain ⟨i1, i2⟩ := plRun_ok (G := G) h1 h2 t
    rcases plStep_cases G t (plRun G s t) with e | ⟨c, -, c2, e⟩
    · show (∀ c, _ → (plStep G t (plRun G s t)).rm c = 0) ∧ ∀ c, _ → (plStep G t (plRun G s t)).gv c = 0#64
      rw [e]; exact ⟨i1, i2⟩
    · show (∀ c, _ → (plStep G t (plRun G s t)).rm c = 0) ∧ ∀ c, _ → (plStep G t (plRun G s t)).gv c = 0#64
      rw [e]
      have hh : ∀ c', ¬ hasC p (c' : Nat) = true → c' ≠ c := fun c' q e' => c2.1 (by rw [← e']; exact i1 c' q)
      exact ⟨fun c' q => by show fup _ _ _ c' = 0; rw [fup_ne (hh c' q)]; exact i1 c' q, fun c' q => by show fup _ _ _ c' = 0#64; rw [fup_ne (hh c' q)]; exact i2 c' q⟩
set_option maxHeartbeats 8000000 in
theorem refPlaceW_spec {p : PlanD} {v : Value} {w : Wt} (hv : PlanV m p v) (hL : PlanL p) (hR : RightP p) (hw : w.2 ≤ 64) : WC R F.ref21_Place [v, .agg #[.int .i64 w.1, .int .i64 w.2]] m fun r m' => PlV m' (plPl p w) r ∧ Ext m m' := by
  refine WC.of R.ref21_Place rfl ?_
  obtain ⟨pv, rfl, hp⟩ := hv
  have hPR := hR.pr hL
  have f2 := hR.1
  have f64 := hR.2.1
  simp only [RC.ref21_Place, planV, go_sem, hp.one]
  have hx1 : Ext m (m.new (.cells [.int .i64 p.frame, u32 p.cores, pv] (some 3))) := Ext.new
  have hb1 : Bk (m.new (.cells [.int .i64 p.frame, u32 p.cores, pv] (some 3))) m.next [.int .i64 p.frame, u32 p.cores, pv] 3 := Bk.new
  have hn1 : (m.new (.cells [.int .i64 p.frame, u32 p.cores, pv] (some 3))).next = m.next + 1 := rfl
  generalize m.new (.cells [.int .i64 p.frame, u32 p.cores, pv] (some 3)) = m1 at hx1 hb1 hn1 ⊢
  have hx2 : Ext m1 (m1.new (.cells [.int .i64 w.1, .int .i64 w.2] (some 2))) := Ext.new
  have hc2 : Bk (m1.new (.cells [.int .i64 w.1, .int .i64 w.2] (some 2))) m1.next [.int .i64 w.1, .int .i64 w.2] 2 := Bk.new
  have hn2 : (m1.new (.cells [.int .i64 w.1, .int .i64 w.2] (some 2))).next = m1.next + 1 := rfl
  generalize m1.new (.cells [.int .i64 w.1, .int .i64 w.2] (some 2)) = m2 at hx2 hc2 hn2 ⊢
  have hx3 : Ext m2 (m2.new (.cells [.int .i64 0, .int .i64 0, .int .i64 0, .slice none 0 0] (some 4))) := Ext.new
  have hd3 : Bk (m2.new (.cells [.int .i64 0, .int .i64 0, .int .i64 0, .slice none 0 0] (some 4))) m2.next [.int .i64 0, .int .i64 0, .int .i64 0, .slice none 0 0] 4 := Bk.new
  have hn3 : (m2.new (.cells [.int .i64 0, .int .i64 0, .int .i64 0, .slice none 0 0] (some 4))).next = m2.next + 1 := rfl
  generalize m2.new (.cells [.int .i64 0, .int .i64 0, .int .i64 0, .slice none 0 0] (some 4)) = m3 at hx3 hd3 hn3 ⊢
  have hx03 := (hx1.trans hx2).trans hx3
  have hb3 := (hb1.keep hx2).keep hx3
  have hc3 := hc2.keep hx3
  have hp3 := hp.keep hx03
  have n1 := hx1.next
  have n2 := hx2.next
  have n3 := hx3.next
  try simp only [go_sem, ruB, hb3.at_, hp3.one]
  refine gC.of (refGaps_spec (p := p) ⟨pv, rfl, hp3⟩ hL hR) ?_
  rintro gV m4 ⟨hG4, hx4⟩
  have hb4 := hb3.keep hx4
  try simp only [go_sem, ruB, hb4.at_, hp3.one]
  refine gC.of (refRooms_spec (p := p) ⟨pv, rfl, hp3.keep hx4⟩ hL hR) ?_
  rintro rV m5 ⟨hO5, hx5⟩
  have hx35 := hx4.trans hx5
  have hb5 := hb4.keep hx5
  have hc5 := hc3.keep hx35
  have hd5 := hd3.keep hx35
  have e16 : (16 : Int) = ((16 : Nat) : Int) := rfl
  try simp only [go_sem, ruB]
  rw [e16]
  refine Got.of (make_eq (n := 16) (by omega) (by omega) rfl rfl) ?_
  rw [zerosW]
  have hx6 : Ext m5 (m5.new (.cells (rgC 16 fun _ => u64 0#64) (some 1))) := Ext.new
  have hO6 : Own m5 (m5.new (.cells (rgC 16 fun _ => u64 0#64) (some 1))) 1 16 (rgC 16 fun _ => u64 0#64) (.slice (some ⟨m5.next, 0, none⟩) 16 16) := by
    refine .at (all := rgC 16 fun _ => u64 0#64) (Nat.le_refl _) (by simp [Mem.new]) (Nat.le_refl _) (by simp [Mem.new]) (by simp [rgC]) ?_ (rgC_oneW (g := fun _ => 0#64))
    rw [List.take_of_length_le (by simp [rgC])]
  simp only []
  generalize m5.new (.cells (rgC 16 fun _ => u64 0#64) (some 1)) = m6 at hx6 hO6 ⊢
  have hgb : ∀ x ∈ vb (.slice (some ⟨m5.next, 0, none⟩) 16 16), x = m5.next := fun x hx => by simpa [vb] using hx
  generalize (Value.slice (some ⟨m5.next, 0, none⟩) 16 16) = gvV at hO6 hgb ⊢
  have hx36 := hx35.trans hx6
  have hb6 := hb5.keep hx6
  have hc6 := hc5.keep hx6
  have hd6 := hd5.keep hx6
  have n4 := hx4.next
  have n5 := hx5.next
  have n35 := hx35.next
  have gG := hG4.ge
  have lG := SlLt.vb_iff.1 hG4.lt
  have gR := hO5.ge
  have lR := SlLt.vb_iff.1 hO5.lt
  have hG6 := (hG4.keep hx5).keep hx6
  have hRg : RgV m3 m6 p gV rV gvV (plS0 p w.2) := ⟨hG6.sl, hG6.lt, (hO5.keep hx6).rebase (by omega), hO6.rebase (by omega), fun x hx => ⟨fun hm => by have := gR x hm; have := lG x hx; omega, fun hm => by have := hgb x hm; have := lG x hx; omega⟩, fun x hx hm => by have := hgb x hm; have := lR x hx; omega, fun c => roomP_le hPR, fun c hh => roomP_0 hh⟩
  try simp only [go_sem, ruB, hc6.at_]
  refine WL.mono (rticks_loop (mE := m3) (s := plS0 p w.2) hRg f2 f64 hw hb6 hb3.lt) ?_
  rintro _ _ m7 ⟨rfl, ⟨a, rs, rfl⟩, hU7, hR7⟩
  have off : ∀ x, x < m3.next → x ∉ vb rV ++ vb gvV := fun x hx hm => by
    rcases List.mem_append.1 hm with hm | hm
    · have := gR x hm; omega
    · have := hgb x hm; omega
  have hc7 := hc6.upd hU7 (off _ hc3.lt)
  have hd7 := hd6.upd hU7 (off _ hd3.lt)
  have kf : fillL [.int .i64 0, .int .i64 0, .int .i64 0, .slice none 0 0] [(0, 1, .int .i64 w.1), (1, 1, .int .i64 w.2)] = some [.int .i64 w.1, .int .i64 w.2, .int .i64 0, .slice none 0 0] := rfl
  have n7 := hU7.next
  have n36 := hx36.next
  try simp only [go_sem, ruB, hc7.at_, ↓kf]
  have hx8 : Ext m7 (m7.new (.cells [.int .i64 w.1, .int .i64 w.2, .int .i64 0, .slice none 0 0] (some 4))) := Ext.new
  have hb8 : Bk (m7.new (.cells [.int .i64 w.1, .int .i64 w.2, .int .i64 0, .slice none 0 0] (some 4))) m7.next [.int .i64 w.1, .int .i64 w.2, .int .i64 0, .slice none 0 0] 4 := Bk.new
  have hn8 : (m7.new (.cells [.int .i64 w.1, .int .i64 w.2, .int .i64 0, .slice none 0 0] (some 4))).next = m7.next + 1 := rfl
  generalize m7.new (.cells [.int .i64 w.1, .int .i64 w.2, .int .i64 0, .slice none 0 0] (some 4)) = m8 at hx8 hb8 hn8 ⊢
  refine WL.mono (rpieces_loop (m0 := m7) (bt := m7.next) (gv := (plRun (gapH p) (plS0 p w.2) p.frame.toNat).gv) (w := w) hR7.go.sl hR7.go.lt ⟨hb8, Nat.le_refl _, .nil rfl rfl, by simp [vb], hx8⟩) ?_
  rintro _ _ m9 ⟨rfl, ⟨c, rs', rfl⟩, pv', hP⟩
  have hd9 := hd7.keep hP.x
  have bk9 := hP.bk
  have oP := hP.o
  have gP := oP.ge
  obtain ⟨xa, xn, xc, rfl⟩ := slice_own oP
  have oneP := oP.sl.one
  have hd3l := hd3.lt
  have ne9 : (m2.next = m7.next) = False := eq_false (by omega)
  simp only [pt]
  try simp only [go_sem, ruB, bk9.at_, hd9.at_, ne9, oneP]
  have n03 := hx03.next
  have X7 : Ext m m7 := hU7.ext_of (hx03.trans hx36) fun x hx => by
    rcases List.mem_append.1 hx with hx | hx
    · have := gR x hx; omega
    · have := hgb x hx; omega
  have hU10 : Upd m9 (m9.set m2.next (some (.cells [.int .i64 w.1, .int .i64 w.2, .int .i64 0, .slice xa xn xc] (some 4)))) [m2.next] := Upd.set (by simp)
  have nop : ∀ x ∈ vb (.slice xa xn xc), x ∉ [m2.next] := fun x hx hm => by
    rw [List.mem_singleton] at hm
    have := gP x hx; omega
  have o10 := oP.updq hU10 nop
  have ep : pcL (plRun (gapH p) (plS0 p w.2) p.frame.toNat).gv (List.range 16) = pcL (plRun (gapH p) (plS0 p w.2) p.frame.toNat).gv (csP p 16) := (pcL_cs (plRun_ok (p := p) (s := plS0 p w.2) (fun c hh => roomP_0 hh) (fun c hh => rfl) _).2 16).symm
  rw [ep] at o10
  exact ⟨⟨.slice xa xn xc, rfl, o10.sl, o10.lt⟩, (X7.trans hP.x).set (by omega)⟩
end Go.Am


/- WeavePlaces. -/
set_option linter.unusedVariables false
set_option linter.unusedSimpArgs false
namespace Go.Am
open Classical
variable {m : Mem}

def x0 : Pl := ⟨0, 0, 0, []⟩
theorem x0_v : PlV m x0 (.agg #[.int .i64 0, .int .i64 0, .int .i64 0, .slice none 0 0]) := ⟨.slice none 0 0, rfl, .nil rfl rfl, trivial⟩
theorem plPl_len {p : PlanD} {w : Wt} : (plPl p w).pieces.length < 1000000 := by
  have := @pcL_len (plRun (gapH p) (plS0 p w.2) p.frame.toNat).gv (csP p 16)
  have h2 := csP_len (p := p) (n := 16)
  show (pcL _ _).length < _
  omega
set_option maxHeartbeats 2000000 in
theorem small_spec {p : PlanD} {v : Value} (hv : PlanV m p v) (hL : lightP p = true) (hR : RightP p) : WC R F.law21_small [v] m fun r m' => (∃ b, r = .bool b) ∧ Ext m m' := by
  refine WC.of R.law21_small rfl ?_
  obtain ⟨pv, rfl, hp⟩ := hv
  have hLL := light_l hL
  simp only [RC.law21_small, planV, go_sem, hp.one]
  have hx1 : Ext m (m.new (.cells [.int .i64 p.frame, u32 p.cores, pv] (some 3))) := Ext.new
  have hb1 : Bk (m.new (.cells [.int .i64 p.frame, u32 p.cores, pv] (some 3))) m.next [.int .i64 p.frame, u32 p.cores, pv] 3 := Bk.new
  have hn1 : (m.new (.cells [.int .i64 p.frame, u32 p.cores, pv] (some 3))).next = m.next + 1 := rfl
  generalize m.new (.cells [.int .i64 p.frame, u32 p.cores, pv] (some 3)) = m1 at hx1 hb1 hn1 ⊢
  have hp1 := hp.keep hx1
  try simp only [go_sem, ruB, hb1.at_, hp1.one]
  refine gC.of (Light_spec (p := p) ⟨pv, rfl, hp1⟩) ?_
  rintro _ m2 ⟨rfl, hx2⟩
  have hb2 := hb1.keep hx2
  have hp2 := hp1.keep hx2
  try simp only [go_sem, ruB, hL, hb2.at_, hp1.one]
  refine gC.of (refRight_spec (p := p) ⟨pv, rfl, hp2⟩ hLL.len hLL.pcs) ?_
  rintro _ m3 ⟨rfl, hx3⟩
  have hb3 := hb2.keep hx3
  have hp3 := hp2.keep hx3
  have d1 : decide (RightP p) = true := decide_eq_true hR
  try simp only [go_sem, ruB, d1, hb3.at_, hp1.one]
  refine gC.of (refCores_spec (p := p) ⟨pv, rfl, hp3⟩) ?_
  rintro cv m4 ⟨hO4, hx4⟩
  have hb4 := hb3.keep hx4
  have hx04 := hx1.trans (hx2.trans (hx3.trans hx4))
  by_cases g : (csP p 16).length ≤ 5
  · have e2 : decide ((((csP p 16).length : Nat) : Int) ≤ 5) = true := decide_eq_true (by omega)
    try simp only [go_sem, ruB, hO4.sl.len, e2, hb4.at_]
    exact ⟨⟨_, rfl⟩, hx04⟩
  · have e2 : decide ((((csP p 16).length : Nat) : Int) ≤ 5) = false := decide_eq_false (by omega)
    try simp only [go_sem, ruB, hO4.sl.len, e2]
    exact ⟨⟨_, rfl⟩, hx04⟩
set_option maxHeartbeats 8000000 in
theorem WeavePlaces_spec {p : PlanD} {v : Value} {w : Wt} (hv : PlanV m p v) : WC R F.law21_WeavePlaces [v, .agg #[.int .i64 w.1, .int .i64 w.2]] m fun r m' => r = .bool true := by
  refine WC.of R.law21_WeavePlaces rfl ?_
  obtain ⟨pv, rfl, hp⟩ := hv
  simp only [RC.law21_WeavePlaces, planV, go_sem, hp.one]
  have hx1 : Ext m (m.new (.cells [.int .i64 p.frame, u32 p.cores, pv] (some 3))) := Ext.new
  have hb1 : Bk (m.new (.cells [.int .i64 p.frame, u32 p.cores, pv] (some 3))) m.next [.int .i64 p.frame, u32 p.cores, pv] 3 := Bk.new
  have hn1 : (m.new (.cells [.int .i64 p.frame, u32 p.cores, pv] (some 3))).next = m.next + 1 := rfl
  generalize m.new (.cells [.int .i64 p.frame, u32 p.cores, pv] (some 3)) = m1 at hx1 hb1 hn1 ⊢
  have hx2 : Ext m1 (m1.new (.cells [.int .i64 w.1, .int .i64 w.2] (some 2))) := Ext.new
  have hc2 : Bk (m1.new (.cells [.int .i64 w.1, .int .i64 w.2] (some 2))) m1.next [.int .i64 w.1, .int .i64 w.2] 2 := Bk.new
  have hn2 : (m1.new (.cells [.int .i64 w.1, .int .i64 w.2] (some 2))).next = m1.next + 1 := rfl
  generalize m1.new (.cells [.int .i64 w.1, .int .i64 w.2] (some 2)) = m2 at hx2 hc2 hn2 ⊢
  have hb2 := hb1.keep hx2
  have hx02 := hx1.trans hx2
  have hp2 := hp.keep hx02
  try simp only [go_sem, ruB, hb2.at_, hp2.one]
  refine gC.of (Light_spec (p := p) ⟨pv, rfl, hp2⟩) ?_
  rintro _ m3 ⟨rfl, hx3⟩
  by_cases hL : lightP p = true
  rotate_left
  · have e : lightP p = false := by simpa using hL
    try simp only [go_sem, ruB, e]
    refine gC.of (ok_spec R.law21_awake) ?_
    rintro _ m_ ⟨rfl, hm_⟩
    replace hm_ := hm_.symm
    subst hm_
    simp only [go_sem]
    try simp only [go_sem, ruB]
  have hLL := light_l hL
  have hb3 := hb2.keep hx3
  have hc3 := hc2.keep hx3
  have hp3 := hp2.keep hx3
  try simp only [go_sem, ruB, hL, hb3.at_, hc3.at_, hp3.one]
  refine gC.of (wPlace_spec (p := p) (w := w) ⟨pv, rfl, hp3⟩ hLL) ?_
  rintro _ m4 ⟨hx4, ⟨gw, rfl⟩ | ⟨gw, xv, rfl, hX⟩⟩
  · have hb4 := hb3.keep hx4
    have hc4 := hc3.keep hx4
    have hp4 := hp3.keep hx4
    try simp only [go_sem, ruB, aExt0, aExt1]
    have hx5 : Ext m4 (m4.new (.cells [.int .i64 0, .int .i64 0, .int .i64 0, .slice none 0 0] (some 4))) := Ext.new
    have hd5 : Bk (m4.new (.cells [.int .i64 0, .int .i64 0, .int .i64 0, .slice none 0 0] (some 4))) m4.next [.int .i64 0, .int .i64 0, .int .i64 0, .slice none 0 0] 4 := Bk.new
    have hn5 : (m4.new (.cells [.int .i64 0, .int .i64 0, .int .i64 0, .slice none 0 0] (some 4))).next = m4.next + 1 := rfl
    generalize m4.new (.cells [.int .i64 0, .int .i64 0, .int .i64 0, .slice none 0 0] (some 4)) = m5 at hx5 hd5 hn5 ⊢
    have hb5 := hb4.keep hx5
    have hc5 := hc4.keep hx5
    have hp5 := hp4.keep hx5
    have ne5 : (m4.next = m.next) = False := eq_false (by have := hb4.lt; omega)
    have ne5' : (m.next = m4.next) = False := eq_false (by have := hb4.lt; omega)
    try simp only [go_sem, ruB, hb4.at_, hb5.at_, ne5, ne5', hp5.one]
    refine gC.of (refRight_spec (p := p) ⟨pv, rfl, hp5⟩ hLL.len hLL.pcs) ?_
    rintro _ m6 ⟨rfl, hx6⟩
    have hb6 := hb5.keep hx6
    have hc6 := hc5.keep hx6
    have hd6 := hd5.keep hx6
    have hp6 := hp5.keep hx6
    by_cases hR : RightP p
    rotate_left
    · have d1 : decide (RightP p) = false := decide_eq_false hR
      have w30 : whyW p w = 30 := by
        have : whyF p w = 30 := by unfold whyF; rw [if_pos hR]
        unfold whyW; rw [this, if_pos (by decide)]
      rw [w30]
      have e30 : ((30 : Int) == 30) = true := rfl
      try simp only [go_sem, ruB, d1, e30, hd6.at_]
      refine gC.of (refSamePlace_spec (x := x0) (y := x0) x0_v x0_v (by simp [x0]) (by simp [x0])) ?_
      rintro _ m7 ⟨rfl, hx7⟩
      try simp only [go_sem, ruB, decide_true]
      refine gC.of (ok_spec R.law21_awake) ?_
      rintro _ m_ ⟨rfl, hm_⟩
      replace hm_ := hm_.symm
      subst hm_
      simp only [go_sem]
      try simp only [go_sem, ruB]
    have d1 : decide (RightP p) = true := decide_eq_true hR
    try simp only [go_sem, ruB, d1, hb6.at_, hp6.one]
    refine gC.of (small_spec (p := p) ⟨pv, rfl, hp6⟩ hL hR) ?_
    rintro _ m7 ⟨⟨sb, rfl⟩, hx7⟩
    have hb7 := hb6.keep hx7
    have hc7 := hc6.keep hx7
    have hd7 := hd6.keep hx7
    have hp7 := hp6.keep hx7
    cases sb
    · try simp only [go_sem, ruB]
      refine gC.of (ok_spec R.law21_awake) ?_
      rintro _ m_ ⟨rfl, hm_⟩
      replace hm_ := hm_.symm
      subst hm_
      simp only [go_sem]
      try simp only [go_sem, ruB]
    try simp only [go_sem, ruB, hb7.at_, hc7.at_, hp7.one]
    refine gC.of (refWhyW_spec (p := p) (w := w) ⟨pv, rfl, hp7⟩ hLL hR) ?_
    rintro _ m8 ⟨rfl, hx8⟩
    have hd8 := hd7.keep hx8
    have e2 : (whyW p w != 0) = true := by rw [bne_iff_ne]; exact gw
    try simp only [go_sem, ruB, e2, beq_self_eq_true, hd8.at_]
    refine gC.of (refSamePlace_spec (x := x0) (y := x0) x0_v x0_v (by simp [x0]) (by simp [x0])) ?_
    rintro _ m9 ⟨rfl, hx9⟩
    try simp only [go_sem, ruB, decide_true]
    refine gC.of (ok_spec R.law21_awake) ?_
    rintro _ m_ ⟨rfl, hm_⟩
    replace hm_ := hm_.symm
    subst hm_
    simp only [go_sem]
    try simp only [go_sem, ruB]
  · have gf : whyF p w = 0 := by
      by_cases q : whyF p w = 0
      · exact q
      · unfold whyW at gw; rw [if_pos q] at gw; exact gw
    obtain ⟨hR, gc, -, -, -⟩ := whyF_0 gf
    have hk := (chkA_ok gc).w w (by simp)
    have f64 := hR.2.1
    obtain ⟨qp, rfl, hqp⟩ := hX
    have hb4 := hb3.keep hx4
    have hc4 := hc3.keep hx4
    have hp4 := hp3.keep hx4
    have oq := hqp.one
    simp only [plV]
    try simp only [go_sem, ruB, aExt0, aExt1, oq]
    have hx5 : Ext m4 (m4.new (.cells [.int .i64 (plPl p w).unit, .int .i64 (plPl p w).share, .int .i64 (plPl p w).core, qp] (some 4))) := Ext.new
    have hd5 : Bk (m4.new (.cells [.int .i64 (plPl p w).unit, .int .i64 (plPl p w).share, .int .i64 (plPl p w).core, qp] (some 4))) m4.next [.int .i64 (plPl p w).unit, .int .i64 (plPl p w).share, .int .i64 (plPl p w).core, qp] 4 := Bk.new
    have hn5 : (m4.new (.cells [.int .i64 (plPl p w).unit, .int .i64 (plPl p w).share, .int .i64 (plPl p w).core, qp] (some 4))).next = m4.next + 1 := rfl
    generalize m4.new (.cells [.int .i64 (plPl p w).unit, .int .i64 (plPl p w).share, .int .i64 (plPl p w).core, qp] (some 4)) = m5 at hx5 hd5 hn5 ⊢
    have hb5 := hb4.keep hx5
    have hc5 := hc4.keep hx5
    have hp5 := hp4.keep hx5
    have hq5 := hqp.keep hx5
    have ne5 : (m4.next = m.next) = False := eq_false (by have := hb4.lt; omega)
    have ne5' : (m.next = m4.next) = False := eq_false (by have := hb4.lt; omega)
    try simp only [go_sem, ruB, hb4.at_, hb5.at_, ne5, ne5', hp5.one]
    refine gC.of (refRight_spec (p := p) ⟨pv, rfl, hp5⟩ hLL.len hLL.pcs) ?_
    rintro _ m6 ⟨rfl, hx6⟩
    have hb6 := hb5.keep hx6
    have hc6 := hc5.keep hx6
    have hd6 := hd5.keep hx6
    have hp6 := hp5.keep hx6
    have hq6 := hq5.keep hx6
    have d1 : decide (RightP p) = true := decide_eq_true hR
    try simp only [go_sem, ruB, d1, hb6.at_, hp6.one]
    refine gC.of (small_spec (p := p) ⟨pv, rfl, hp6⟩ hL hR) ?_
    rintro _ m7 ⟨⟨sb, rfl⟩, hx7⟩
    have hb7 := hb6.keep hx7
    have hc7 := hc6.keep hx7
    have hd7 := hd6.keep hx7
    have hp7 := hp6.keep hx7
    have hq7 := hq6.keep hx7
    cases sb
    · try simp only [go_sem, ruB]
      refine gC.of (ok_spec R.law21_awake) ?_
      rintro _ m_ ⟨rfl, hm_⟩
      replace hm_ := hm_.symm
      subst hm_
      simp only [go_sem]
      try simp only [go_sem, ruB]
    try simp only [go_sem, ruB, hb7.at_, hc7.at_, hp7.one]
    refine gC.of (refWhyW_spec (p := p) (w := w) ⟨pv, rfl, hp7⟩ hLL hR) ?_
    rintro _ m8 ⟨rfl, hx8⟩
    have hb8 := hb7.keep hx8
    have hc8 := hc7.keep hx8
    have hd8 := hd7.keep hx8
    have hp8 := hp7.keep hx8
    have hq8 := hq7.keep hx8
    have e2 : (whyW p w != 0) = false := by rw [bne_eq_false_iff_eq]; exact gw
    have e00 : ((0 : Int) == 0) = true := rfl
    try simp only [go_sem, ruB, e2, e00, hb8.at_, hc8.at_, hd8.at_, hp8.one, oq]
    refine gC.of (refPlaceW_spec (p := p) (w := w) ⟨pv, rfl, hp8⟩ hLL hR (by omega)) ?_
    rintro _ m9 ⟨⟨zp, rfl, hz⟩, hx9⟩
    have w9 := hx9.same _ hd8.lt
    have hd9 := hd8.keep hx9
    simp only [plV]
    try simp only [go_sem, ruB, watch_one, watch_nil, blk_ptr, w9, hd9.at_, oq]
    refine gC.of (refSamePlace_spec (x := plPl p w) (y := plPl p w) ⟨qp, rfl, hq8.keep hx9⟩ ⟨zp, rfl, hz⟩ plPl_len plPl_len) ?_
    rintro _ m10 ⟨rfl, hx10⟩
    try simp only [go_sem, ruB, decide_true]
    refine gC.of (ok_spec R.law21_awake) ?_
    rintro _ m_ ⟨rfl, hm_⟩
    replace hm_ := hm_.symm
    subst hm_
    simp only [go_sem]
    try simp only [go_sem, ruB]
end Go.Am


/- WeavePlaces, of arguments as they are read. -/
set_option linter.unusedVariables false
namespace Go.Am
theorem want_read {m : Mem} {v : Value} (h : RdA m (true, [.int .i64, .int .i64]) v) : ∃ w : Wt, v = .agg #[.int .i64 w.1, .int .i64 w.2] := by
  obtain ⟨cs, rfl, g⟩ := h.agg
  obtain ⟨a, r, rfl, h1, k1⟩ := g.one
  obtain ⟨b, r, rfl, h2, k2⟩ := k1.one
  cases k2.none
  obtain ⟨a, rfl, -⟩ := h1.i64
  obtain ⟨b, rfl, -⟩ := h2.i64
  exact ⟨(a, b), rfl⟩
theorem law21_WeavePlaces_walk (m : Mem) (us : List Value) (h : RdAs m [(true, planSh), (true, [.int .i64, .int .i64])] us) : WC R F.law21_WeavePlaces us m fun v _ => v = .bool true := by
  obtain ⟨_, _, rfl, h1, h⟩ := h.one; obtain ⟨_, _, rfl, h2, h⟩ := h.one; cases h.none
  obtain ⟨p, hp, -⟩ := plan_read h1
  obtain ⟨w, rfl⟩ := want_read h2
  exact WeavePlaces_spec hp
end Go.Am
