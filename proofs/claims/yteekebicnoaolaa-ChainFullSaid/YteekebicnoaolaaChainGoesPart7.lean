/- Parts of the proofs of the statements of this seat: ChainW2, ChainMaskW5, ChainMaskRun, ChainMaskW6, ChainMaskW7, ChainMaskTurn, ChainMaskL1, ChainMaskL4, SlcChainPl, AmIns2, ChainPlanZ1, ChainPlanZ2, ChainPlanZ3, ChainPlanZ4, ChainPlanZ5, ChainP1, ChainW3, ChainW4, ChainP2, ChainW5, ChainW6, ChainW7, ChainW8, ChainX1, ChainP3, ChainP4, ChainP5, ChainP6. No conditions. -/
import Derived.Test.YteekebicnoaolaaChainGoesPart6
import Derived.Test.YteekebicnoaolaaChainGoesPart4
import Derived.Test.YteekebicnoaolaaChainGoesPart5
import Derived.Test.YteekebicnoaolaaChainGoesPart3
set_option linter.unusedVariables false
set_option linter.unusedSimpArgs false

/- Chains: the document's rooms; why not. -/
set_option linter.unusedVariables false
set_option linter.unusedSimpArgs false
namespace Go.Am
open Classical
variable {m : Mem}

theorem Upd.sameF {a b c : Mem} {fp : List Nat} (h : Upd a b fp) (k : Upd b c fp) : Upd a c fp := h.trans k (fun _ h => h) (fun _ h => .inl h)
noncomputable def whyD (p : PlanD) (l : List Wt) : Int := if ¬ RightP p then 30 else if chkA p.frame l ≠ 0 then chkA p.frame l else if ∃ w ∈ l, hasU p.places w.1 then 11 else 0
noncomputable def whyC (p : PlanD) (l : List Wt) : Int := if whyD p l ≠ 0 then whyD p l else if 0 < p.places.countP isSp then 15 else if freeP p < sumW l then 12 else 0
theorem chkF_ok {f : Int} : ∀ {l pre : List Sp}, chkF f pre l = 0 → (∀ w ∈ l, isU w.1 ∧ 1 ≤ w.2 ∧ w.2 ≤ f ∧ ∀ p ∈ pre, p.1 ≠ w.1) ∧ l.Pairwise fun a b => a.1 ≠ b.1
  | [], pre, _ => ⟨fun w hw => by simp at hw, List.Pairwise.nil⟩
  | w :: r, pre, h => by
    unfold chkF at h
    by_cases g1 : isU w.1
    · rw [if_neg (by simpa using g1)] at h
      by_cases g2 : w.2 < 1 ∨ f < w.2
      · rw [if_pos g2] at h; omega
      · rw [if_neg g2] at h
        by_cases g3 : ∃ p ∈ pre, p.1 = w.1
        · rw [if_pos g3] at h; omega
        · rw [if_neg g3] at h
          obtain ⟨h1, h2⟩ := chkF_ok h
          refine ⟨fun x hx => ?_, List.pairwise_cons.2 ⟨fun x hx e => ?_, h2⟩⟩
          · rcases List.mem_cons.1 hx with rfl | hx
            · exact ⟨g1, by omega, by omega, fun p hp e => g3 ⟨p, hp, e⟩⟩
            · obtain ⟨a, b, c, d⟩ := h1 x hx
              exact ⟨a, b, c, fun p hp => d p (List.mem_append_left _ hp)⟩
          · exact (h1 x hx).2.2.2 w (by simp) e
    · rw [if_pos (by simpa using g1)] at h; omega
structure LOk (f : Int) (l : List Wt) : Prop where
  fr : 2 ≤ f ∧ f ≤ 64
  w : ∀ w ∈ l, isU w.1 ∧ 1 ≤ w.2 ∧ w.2 ≤ f
  u : l.Pairwise fun a b => a.1 ≠ b.1
theorem chkA_ok {f : Int} {l : List Wt} (g : chkA f l = 0) : LOk f l := by
  unfold chkA at g
  by_cases g3 : f < 2 ∨ 64 < f
  · rw [if_pos g3] at g; omega
  · rw [if_neg g3] at g
    obtain ⟨h1, h2⟩ := chkF_ok g
    exact ⟨by omega, fun w hw => ⟨(h1 w hw).1, (h1 w hw).2.1, (h1 w hw).2.2.1⟩, h2⟩
theorem sumW_cons {w : Wt} {l : List Wt} : sumW (w :: l) = w.2 + sumW l := by simp [sumW]
theorem totO_eq : ∀ {l : List Wt} {n : Int}, (∀ w ∈ l, 1 ≤ w.2 ∧ w.2 ≤ 64) → 0 ≤ n → n + 64 * l.length ≤ 100000000 → totO n l = some (n + sumW l) ∧ l.length ≤ sumW l ∧ sumW l ≤ 64 * l.length
  | [], n, _, h0, _ => by simp [totO, sumW]
  | w :: r, n, h, h0, hn => by
    have hw := h w (by simp)
    simp only [List.length_cons] at hn
    have ih := @totO_eq r (n + w.2) (fun x hx => h x (by simp [hx])) (by omega) (by omega)
    rw [sumW_cons, List.length_cons]
    unfold totO
    rw [if_pos (by unfold inR; omega), ih.1]
    refine ⟨by congr 1; omega, by omega, by omega⟩
theorem LOk.b {f : Int} {l : List Wt} (h : LOk f l) : ∀ w ∈ l, 1 ≤ w.2 ∧ w.2 ≤ 64 := fun w hw => by have := h.w w hw; have := h.fr; omega
theorem LOk.tot {f : Int} {l : List Wt} (h : LOk f l) (hn : l.length ≤ 60) : totO 0 l = some (sumW l) ∧ 0 ≤ sumW l ∧ sumW l ≤ 4096 := by
  have := totO_eq (n := 0) h.b (by omega) (by omega)
  refine ⟨by rw [this.1]; simp, by omega, by omega⟩

set_option maxHeartbeats 2000000 in
theorem why1_loop {p : PlanD} {l : List Wt} {pv lv : Value} {b : Nat} {m0 : Mem} (hp : PlsV m0 p.places pv) (hb : Bk m b [.int .i64 p.frame, u32 p.cores, pv] 3) (hs : Sl m0 2 l.length (l.flatMap spV) lv) (hlt : SlLt m0 lv) (hx0 : Ext m0 m) (hl : l.length ≤ 60) (hL : PlanL p) (ha : Asc p.places) :
    WL R [1, 2, 25, 26, 27] RB.chain_why_1 [(1, lv), (2, pt b), (25, lv), (26, .int .i64 (l.length : Nat)), (27, .int .i64 0)] m fun y e m' => (y = .exit 0 ∧ (∃ rs, e = (1, lv) :: (2, pt b) :: rs) ∧ (¬ ∃ w ∈ l, hasU p.places w.1) ∧ Ext m m') ∨ (y = .ret ∧ e = [(4, .int .i64 11)] ∧ (∃ w ∈ l, hasU p.places w.1) ∧ Ext m m') := by
  refine WL.of (fun n e m' => ∃ k : Nat, k ≤ l.length ∧ n = l.length - k ∧ e = [(1, lv), (2, pt b), (25, lv), (26, .int .i64 (l.length : Nat)), (27, .int .i64 (k : Nat))] ∧ (∀ w ∈ l.take k, ¬ hasU p.places w.1) ∧ Ext m m') l.length
    ⟨0, by omega, by omega, by simp only [go_sem] <;> rfl, fun w hw => by simp at hw, Ext.refl _⟩ ?_
  rintro _ _ m1 ⟨k, hk, rfl, rfl, hn, hx1⟩
  have hx01 := hx0.trans hx1
  have hs1 := hs.keep hlt hx01
  have hp1 := hp.keep hx01
  have hb1 := hb.keep hx1
  simp only [RB.chain_why_1, pt, go_sem]
  have s1 := step1 (show k < 1000000 by omega)
  by_cases g : k < l.length
  rotate_left
  · have e1 : decide (((k : Nat) : Int) < ((l.length : Nat) : Int)) = false := decide_eq_false (by omega)
    rw [List.take_of_length_le (by omega)] at hn
    try simp only [go_sem, ruB, e1]
    exact .inl ⟨⟨_, rfl⟩, fun ⟨w, hw, h⟩ => hn w hw h, hx1⟩
  have e1 : decide (((k : Nat) : Int) < ((l.length : Nat) : Int)) = true := decide_eq_true (by omega)
  obtain ⟨pb, po, a1, a2, -, -⟩ := hs1.elem spV_len (k := .i64) g
  simp only [spV] at a2
  have n1 := hb1.ne
  try simp only [go_sem, ruB, e1, a1, a2, hb1.at_, n1, hp.one]
  have hx2 : Ext m1 (m1.new (.cells [.int .i64 l[k].1, .int .i64 l[k].2] (some 2))) := Ext.new
  have hb2 : Bk (m1.new (.cells [.int .i64 l[k].1, .int .i64 l[k].2] (some 2))) m1.next [.int .i64 l[k].1, .int .i64 l[k].2] 2 := Bk.new
  generalize m1.new (.cells [.int .i64 l[k].1, .int .i64 l[k].2] (some 2)) = m2 at hx2 hb2 ⊢
  have hb12 := hb1.keep hx2
  try simp only [go_sem, ruB, hb12.at_, hb2.at_, hp.one]
  refine gC.of (Find_spec (p := p) (u := l[k].1) ⟨pv, rfl, hp1.keep hx2⟩ hL ha) ?_
  rintro _ m3 ⟨w, rfl, ⟨qv, rfl, hq⟩, hx3⟩
  have hqo := hq.one
  have hqc := hq.cells
  simp only [plV]
  try simp only [go_sem, ruB, aExt0, aExt1, hqo, ↓hqc]
  have hx13 := (hx1.trans hx2).trans hx3
  by_cases gh : hasU p.places l[k].1
  · have e2 : decide (hasU p.places l[k].1) = true := decide_eq_true gh
    try simp only [go_sem, ruB, e2]
    exact .inr ⟨⟨_, List.getElem_mem g, gh⟩, hx13.trans Ext.new⟩
  · have e2 : decide (hasU p.places l[k].1) = false := decide_eq_false gh
    try simp only [go_sem, ruB, e2, s1]
    refine ⟨l.length - (k + 1), by omega, k + 1, by omega, rfl, rfl, fun w hw => ?_, hx13.trans Ext.new⟩
    rw [List.take_succ_eq_append_getElem g] at hw
    rcases List.mem_append.1 hw with hw | hw
    · exact hn w hw
    · rw [List.mem_singleton] at hw; rw [hw]; exact gh

set_option maxHeartbeats 2000000 in
theorem why_spec {p : PlanD} {l : List Wt} {v lv : Value} (hv : PlanV m p v) (hs : Sl m 2 l.length (l.flatMap spV) lv) (hlt : SlLt m lv) (hl : l.length ≤ 60) (hL : PlanL p) : WC R F.chain_why [v, lv] m fun r m' => r = .int .i64 (whyC p l) ∧ Ext m m' := by
  refine WC.of R.chain_why rfl ?_
  obtain ⟨pv, rfl, hp⟩ := hv
  have hpc := hp.cells
  simp only [RC.chain_why, planV, go_sem, hp.one]
  have hx1 : Ext m (m.new (.cells [.int .i64 p.frame, u32 p.cores, pv] (some 3))) := Ext.new
  have hb1 : Bk (m.new (.cells [.int .i64 p.frame, u32 p.cores, pv] (some 3))) m.next [.int .i64 p.frame, u32 p.cores, pv] 3 := Bk.new
  generalize m.new (.cells [.int .i64 p.frame, u32 p.cores, pv] (some 3)) = m1 at hx1 hb1 ⊢
  try simp only [go_sem, ruB, hb1.at_, hp.one]
  refine gC.of (Check_spec (p := p) ⟨pv, rfl, hp.keep hx1⟩ hL) ?_
  rintro _ m2 ⟨rfl, hx2⟩
  have hx12 := hx1.trans hx2
  have hb2 := hb1.keep hx2
  have e00 : ((0 : Int) != 0) = false := rfl
  by_cases g : CheckP p
  rotate_left
  · have e : chk p = .int .i64 30 := by unfold chk; rw [if_neg g]
    have hd : whyD p l = 30 := by unfold whyD; rw [if_pos (fun h => g (check_iff.2 h))]
    have hw : whyC p l = 30 := by unfold whyC; rw [hd, if_pos (by decide)]
    rw [e]
    have e2 : ((30 : Int) != 0) = true := rfl
    try simp only [go_sem, ruB, e2, hw]
    exact hx12
  have hR := check_iff.1 g
  have hPR := hR.pr hL
  have e : chk p = .int .i64 0 := by unfold chk; rw [if_pos g]
  rw [e]
  try simp only [go_sem, ruB, e00, hb2.at_]
  refine gC.of (orCheck (hs.keep hlt hx12) (hlt.keep hx12) (by omega)) ?_
  rintro _ m3 ⟨rfl, hx3⟩
  have hx13 := hx12.trans hx3
  have hb3 := hb2.keep hx3
  by_cases gc : chkA p.frame l = 0
  rotate_left
  · have e2 : (chkA p.frame l != 0) = true := by rw [bne_iff_ne]; exact gc
    have hd : whyD p l = chkA p.frame l := by unfold whyD; rw [if_neg (by simpa using hR), if_pos gc]
    have hw : whyC p l = chkA p.frame l := by unfold whyC; rw [hd, if_pos gc]
    try simp only [go_sem, ruB, e2, hw]
    exact hx13
  have e2 : (chkA p.frame l != 0) = false := by rw [bne_eq_false_iff_eq]; exact gc
  have hk := chkA_ok gc
  obtain ⟨t1, t2, t3⟩ := hk.tot hl
  have hs3 := hs.keep hlt hx13
  have hl3 := hlt.keep hx13
  try simp only [go_sem, ruB, e2, hs3.len]
  refine WL.mono (why1_loop (p := p) hp hb3 hs hlt hx13 hl hL hR.asc) ?_
  rintro _ _ m4 (⟨rfl, ⟨rs, rfl⟩, hn, hx4⟩ | ⟨rfl, rfl, hn, hx4⟩)
  rotate_left
  · have hd : whyD p l = 11 := by unfold whyD; rw [if_neg (by simpa using hR), if_neg (by simpa using gc), if_pos hn]
    have hw : whyC p l = 11 := by unfold whyC; rw [hd, if_pos (by decide)]
    try simp only [go_sem, ruB, hw]
    exact hx13.trans hx4
  have hd : whyD p l = 0 := by unfold whyD; rw [if_neg (by simpa using hR), if_neg (by simpa using gc), if_neg hn]
  have hx14 := hx13.trans hx4
  have hb4 := hb3.keep hx4
  simp only [pt]
  try simp only [go_sem, ruB]
  refine gC.of (orTotal (hs.keep hlt hx14) (hlt.keep hx14) (by omega) (fun w hw => by have := hk.b w hw; unfold inR; omega)) ?_
  rintro _ m5 ⟨⟨n, hn5, rfl⟩ | ⟨hn5, rfl⟩, hx5⟩
  rotate_left
  · rw [t1] at hn5; cases hn5
  rw [t1] at hn5
  cases hn5
  have hx15 := hx14.trans hx5
  have hb5 := hb4.keep hx5
  try simp only [go_sem, ruB, aExt0, aExt1, hb5.at_, hp.one]
  refine gC.of (Splits_spec (p := p) ⟨pv, rfl, hp.keep hx15⟩ hL.len) ?_
  rintro _ m6 ⟨rfl, hx6⟩
  have hx16 := hx15.trans hx6
  have hb6 := hb5.keep hx6
  by_cases gs : 0 < p.places.countP isSp
  · have e3 : decide ((0 : Int) < ((p.places.countP isSp : Nat) : Int)) = true := decide_eq_true (by omega)
    have hw : whyC p l = 15 := by unfold whyC; rw [hd, if_neg (by decide), if_pos gs]
    try simp only [go_sem, ruB, e3, hw]
    exact hx16
  have e3 : decide ((0 : Int) < ((p.places.countP isSp : Nat) : Int)) = false := decide_eq_false (by omega)
  try simp only [go_sem, ruB, e3, hb6.at_, hp.one]
  refine gC.of (Free_spec (p := p) ⟨pv, rfl, hp.keep hx16⟩ hPR) ?_
  rintro _ m7 ⟨rfl, hx7⟩
  by_cases gf : freeP p < sumW l
  · have hw : whyC p l = 12 := by unfold whyC; rw [hd, if_neg (by decide), if_neg gs, if_pos gf]
    try simp only [go_sem, ruB, decide_eq_true gf, hw]
    exact hx16.trans hx7
  · have hw : whyC p l = 0 := by unfold whyC; rw [hd, if_neg (by decide), if_neg gs, if_neg gf]
    try simp only [go_sem, ruB, decide_eq_false gf, hw]
    exact hx16.trans hx7

set_option maxHeartbeats 2000000 in
theorem refWhy18 {p : PlanD} {l : List Wt} {v lv : Value} (hv : PlanV m p v) (hs : Sl m 2 l.length (l.flatMap spV) lv) (hlt : SlLt m lv) (hl : l.length ≤ 60) (hL : PlanL p) : WC R F.ref18_Why [v, lv] m fun r m' => r = .int .i64 (whyD p l) ∧ Ext m m' := by
  refine WC.of R.ref18_Why rfl ?_
  obtain ⟨pv, rfl, hp⟩ := hv
  have hpc := hp.cells
  simp only [RC.ref18_Why, planV, go_sem, hp.one]
  have hx1 : Ext m (m.new (.cells [.int .i64 p.frame, u32 p.cores, pv] (some 3))) := Ext.new
  have hb1 : Bk (m.new (.cells [.int .i64 p.frame, u32 p.cores, pv] (some 3))) m.next [.int .i64 p.frame, u32 p.cores, pv] 3 := Bk.new
  generalize m.new (.cells [.int .i64 p.frame, u32 p.cores, pv] (some 3)) = m1 at hx1 hb1 ⊢
  try simp only [go_sem, ruB, hb1.at_, hp.one]
  refine gC.of (refRight_spec (p := p) ⟨pv, rfl, hp.keep hx1⟩ hL.len hL.pcs) ?_
  rintro _ m2 ⟨rfl, hx2⟩
  have hx12 := hx1.trans hx2
  have hb2 := hb1.keep hx2
  have e00 : ((0 : Int) != 0) = false := rfl
  by_cases hR : RightP p
  rotate_left
  · have hd : whyD p l = 30 := by unfold whyD; rw [if_pos hR]
    rw [decide_eq_false hR]
    try simp only [go_sem, ruB, hd]
    exact hx12
  rw [decide_eq_true hR]
  have hs2 := hs.keep hlt hx12
  try simp only [go_sem, ruB, hb2.at_]
  refine gC.of (refCheck hs2 (by omega)) ?_
  rintro _ m3 ⟨rfl, hm⟩
  replace hm := hm.symm
  subst hm
  by_cases gc : chkA p.frame l = 0
  rotate_left
  · have e2 : (chkA p.frame l != 0) = true := by rw [bne_iff_ne]; exact gc
    have hd : whyD p l = chkA p.frame l := by unfold whyD; rw [if_neg (by simpa using hR), if_pos gc]
    try simp only [go_sem, ruB, e2, hd]
    exact hx12
  have e2 : (chkA p.frame l != 0) = false := by rw [bne_eq_false_iff_eq]; exact gc
  try simp only [go_sem, ruB, e2]
  refine WL.mono (WL.of (Q := fun y e m' => (y = .exit 0 ∧ (¬ ∃ w ∈ l, hasU p.places w.1) ∧ Ext m m') ∨ (y = .ret ∧ e = [(4, .int .i64 11)] ∧ (∃ w ∈ l, hasU p.places w.1) ∧ Ext m m'))
    (fun n e m' => ∃ k : Nat, k ≤ l.length ∧ n = l.length - k ∧ e = [(1, lv), (2, .pointer (some ⟨m.next, 0, none⟩)), (6, .int .i64 (k : Nat))] ∧ (∀ w ∈ l.take k, ¬ hasU p.places w.1) ∧ Ext m m' ∧ Bk m' m.next [.int .i64 p.frame, u32 p.cores, pv] 3) l.length
    ⟨0, by omega, by omega, by simp only [go_sem] <;> rfl, fun w hw => by simp at hw, hx12, hb2⟩ ?_) ?_
  rotate_left
  · rintro _ _ m4 (⟨rfl, hn, hx4⟩ | ⟨rfl, rfl, hn, hx4⟩)
    · have hd : whyD p l = 0 := by unfold whyD; rw [if_neg (by simpa using hR), if_neg (by simpa using gc), if_neg hn]
      try simp only [go_sem, ruB, hd]
      exact hx4
    · have hd : whyD p l = 11 := by unfold whyD; rw [if_neg (by simpa using hR), if_neg (by simpa using gc), if_pos hn]
      try simp only [go_sem, ruB, hd]
      exact hx4
  rintro _ _ m4 ⟨k, hk, rfl, rfl, hn, hx4, hb4⟩
  have hs4 := hs.keep hlt hx4
  have hp4 := hp.keep hx4
  simp only [RB.ref18_Why_1, go_sem, hs4.len]
  have s1 := step1 (show k < 1000000 by omega)
  by_cases g : k < l.length
  rotate_left
  · have e1 : decide (((k : Nat) : Int) < ((l.length : Nat) : Int)) = false := decide_eq_false (by omega)
    rw [List.take_of_length_le (by omega)] at hn
    try simp only [go_sem, ruB, e1]
    exact .inl ⟨fun ⟨w, hw, h⟩ => hn w hw h, hx4⟩
  have e1 : decide (((k : Nat) : Int) < ((l.length : Nat) : Int)) = true := decide_eq_true (by omega)
  obtain ⟨pb, po, a1, -, a3, -⟩ := hs4.elem spV_len (k := .i64) g
  have a30 := a3 0 (by omega)
  simp only [spV, List.getElem?_cons_zero, Nat.add_zero] at a30
  try simp only [go_sem, ruB, e1, a1, a30, hb4.at_, hp.one]
  refine gC.of (refFind_spec (p := p) (u := l[k].1) ⟨pv, rfl, hp4.keep (Ext.bump (n := 13))⟩ hL hR.asc) ?_
  rintro _ m5 ⟨w, rfl, ⟨qv, rfl, hq⟩, hx5⟩
  have n5 := hx5.next
  simp only [Mem.bump_next] at n5
  have hqo := hq.one
  have hqc := hq.cells
  have hx05 := (hx4.trans Ext.bump).trans hx5
  have hb5 := (hb4.keep Ext.bump).keep hx5
  have hm4 := hx4.next
  simp only [plV]
  try simp only [go_sem, ruB, aExt0, aExt1, hqo, ↓hqc]
  by_cases gh : hasU p.places l[k].1
  · have e2 : decide (hasU p.places l[k].1) = true := decide_eq_true gh
    try simp only [go_sem, ruB, e2]
    exact .inr ⟨⟨_, List.getElem_mem g, gh⟩, (hx05.set (by omega)).set (by omega)⟩
  · have e2 : decide (hasU p.places l[k].1) = false := decide_eq_false gh
    have hbl := hb4.lt
    try simp only [go_sem, ruB, e2, s1]
    refine ⟨l.length - (k + 1), by omega, k + 1, by omega, rfl, rfl, fun w hw => ?_, (hx05.set (by omega)).set (by omega), ?_⟩
    · rw [List.take_succ_eq_append_getElem g] at hw
      rcases List.mem_append.1 hw with hw | hw
      · exact hn w hw
      · rw [List.mem_singleton] at hw; rw [hw]; exact gh
    · exact hb5.upd (fp := [m4.next + 10]) ((Upd.set (by simp)).sameF (Upd.set (by simp))) (by simp; omega)
set_option maxHeartbeats 2000000 in
theorem refWhy_spec {p : PlanD} {l : List Wt} {v lv : Value} (hv : PlanV m p v) (hs : Sl m 2 l.length (l.flatMap spV) lv) (hlt : SlLt m lv) (hl : l.length ≤ 60) (hL : PlanL p) : WC R F.ref19_Why [v, lv] m fun r m' => r = .int .i64 (whyC p l) ∧ Ext m m' := by
  refine WC.of R.ref19_Why rfl ?_
  obtain ⟨pv, rfl, hp⟩ := hv
  have hpc := hp.cells
  simp only [RC.ref19_Why, planV, go_sem, hp.one]
  have hx1 : Ext m (m.new (.cells [.int .i64 p.frame, u32 p.cores, pv] (some 3))) := Ext.new
  have hb1 : Bk (m.new (.cells [.int .i64 p.frame, u32 p.cores, pv] (some 3))) m.next [.int .i64 p.frame, u32 p.cores, pv] 3 := Bk.new
  generalize m.new (.cells [.int .i64 p.frame, u32 p.cores, pv] (some 3)) = m1 at hx1 hb1 ⊢
  try simp only [go_sem, ruB, hb1.at_, hp.one]
  refine gC.of (refWhy18 (p := p) (l := l) ⟨pv, rfl, hp.keep hx1⟩ (hs.keep hlt hx1) (hlt.keep hx1) hl hL) ?_
  rintro _ m2 ⟨rfl, hx2⟩
  have hx12 := hx1.trans hx2
  have hb2 := hb1.keep hx2
  by_cases g : whyD p l = 0
  rotate_left
  · have e2 : (whyD p l != 0) = true := by rw [bne_iff_ne]; exact g
    have hw : whyC p l = whyD p l := by unfold whyC; rw [if_pos g]
    try simp only [go_sem, ruB, e2, hw]
    exact hx12
  have e2 : (whyD p l != 0) = false := by rw [bne_eq_false_iff_eq]; exact g
  have hR : RightP p := by
    by_cases h : RightP p
    · exact h
    · unfold whyD at g; rw [if_pos h] at g; omega
  have gc : chkA p.frame l = 0 := by
    by_cases h : chkA p.frame l = 0
    · exact h
    · unfold whyD at g; rw [if_neg (by simpa using hR), if_pos h] at g; exact absurd g h
  have hk := chkA_ok gc
  obtain ⟨t1, t2, t3⟩ := hk.tot hl
  try simp only [go_sem, ruB, e2, hb2.at_, hp.one]
  refine gC.of (refSplits_spec (p := p) ⟨pv, rfl, hp.keep hx12⟩ hL.len) ?_
  rintro _ m3 ⟨rfl, hx3⟩
  have hx13 := hx12.trans hx3
  have hb3 := hb2.keep hx3
  by_cases gs : 0 < p.places.countP isSp
  · have e3 : decide ((0 : Int) < ((p.places.countP isSp : Nat) : Int)) = true := decide_eq_true (by omega)
    have hw : whyC p l = 15 := by unfold whyC; rw [if_neg (by simpa using g), if_pos gs]
    try simp only [go_sem, ruB, e3, hw]
    exact hx13
  have e3 : decide ((0 : Int) < ((p.places.countP isSp : Nat) : Int)) = false := decide_eq_false (by omega)
  try simp only [go_sem, ruB, e3]
  refine gC.of (refTotal (hs.keep hlt hx13) (by omega) (fun w hw => by have := hk.b w hw; unfold inR; omega)) ?_
  rintro _ m4 ⟨⟨n, hn4, rfl⟩ | ⟨hn4, rfl⟩, hm⟩
  rotate_left
  · rw [t1] at hn4; cases hn4
  rw [t1] at hn4
  cases hn4
  replace hm := hm.symm
  subst hm
  try simp only [go_sem, ruB, aExt0, aExt1, hb3.at_, hp.one]
  refine gC.of (refFree_spec (p := p) ⟨pv, rfl, hp.keep hx13⟩ (hR.pr hL)) ?_
  rintro _ m5 ⟨rfl, hx5⟩
  rw [← hR.free]
  by_cases gf : freeP p < sumW l
  · have hw : whyC p l = 12 := by unfold whyC; rw [if_neg (by simpa using g), if_neg gs, if_pos gf]
    try simp only [go_sem, ruB, decide_eq_true gf, hw]
    exact hx13.trans hx5
  · have hw : whyC p l = 0 := by unfold whyC; rw [if_neg (by simpa using g), if_neg gs, if_neg gf]
    try simp only [go_sem, ruB, decide_eq_false gf, hw]
    exact hx13.trans hx5
end Go.Am


/- MaskW5 over the table of chain (relayset.py). -/
set_option linter.unusedVariables false
set_option linter.unusedSimpArgs false
namespace Go.Am
variable {m : Mem}

end Go.Am


/- MaskRun over the table of chain (relayset.py). -/
set_option linter.unusedVariables false
set_option linter.unusedSimpArgs false
namespace Go.Am
/-- Whether a run begins. -/
def begins (x : BitVec 64) (s : Nat) : Bool := x.getLsbD s && !(decide (0 < s) && x.getLsbD (s - 1))

/-- The first number from s on that is not in the word. -/
def endF (x : BitVec 64) : Nat → Nat → Nat
  | 0, s => s
  | f + 1, s => if x.getLsbD s then endF x f (s + 1) else s
def endOf (x : BitVec 64) (s : Nat) : Nat := endF x (64 - s) s

def starts (x : BitVec 64) (n : Nat) : List Nat := (List.range n).filter fun s => begins x s

/-- The runs. -/
def runs (x : BitVec 64) (n : Nat) : List (Nat × Nat) := (starts x n).map fun s => (s, endOf x s)

end Go.Am


/- MaskW6 over the table of chain (relayset.py). -/
set_option linter.unusedVariables false
set_option linter.unusedSimpArgs false
namespace Go.Am
variable {m : Mem}

end Go.Am


/- MaskW7 over the table of chain (relayset.py). -/
set_option linter.unusedVariables false
set_option linter.unusedSimpArgs false
namespace Go.Am
variable {m : Mem}

theorem inB_nat {x : BitVec 64} {j : Nat} : inB x (j : Int) = x.getLsbD j := by
  by_cases h : j < 64
  · rw [inB_of (by omega) (by omega), Int.toNat_natCast]
  · rw [inB_not (by omega)]
    exact (BitVec.getLsbD_of_ge x j (by omega)).symm
end Go.Am


/- MaskTurn over the table of chain (relayset.py). -/
set_option linter.unusedVariables false
set_option linter.unusedSimpArgs false
namespace Go.Am
theorem src_of {F k t j : Int} (hF : 0 < F) (ht : 0 ≤ t) (ht2 : t < F) (hj : 0 ≤ j) (hj2 : j < F) : (t + k) % F = j ↔ t = (j - k) % F := by
  constructor
  · intro h
    have : (j - k) % F = ((t + k) - k) % F := by rw [← h, Int.sub_emod, Int.emod_emod_of_dvd _ (Int.dvd_refl F), ← Int.sub_emod]
    rw [this, Int.add_sub_cancel, Int.emod_eq_of_lt ht ht2]
  · intro h
    rw [h, Int.add_emod, Int.emod_emod_of_dvd _ (Int.dvd_refl F), ← Int.add_emod, Int.sub_add_cancel, Int.emod_eq_of_lt hj hj2]

theorem src_val {F k j : Int} (hF : 0 < F) (hj : 0 ≤ j) (hj2 : j < F) : (j - k) % F = if k % F ≤ j then j - k % F else j - k % F + F := by
  have h1 : 0 ≤ k % F := Int.emod_nonneg _ (by omega)
  have h2 : k % F < F := Int.emod_lt_of_pos _ hF
  have e : (j - k) % F = (j - k % F) % F := by rw [Int.sub_emod, Int.sub_emod j (k % F), Int.emod_emod_of_dvd _ (Int.dvd_refl F)]
  rw [e]
  split
  · exact Int.emod_eq_of_lt (by omega) (by omega)
  · rw [← Int.add_emod_right]; exact Int.emod_eq_of_lt (by omega) (by omega)

theorem turnW_bit {F k : Int} {x : BitVec 64} {j : Nat} (hF : 0 < F) (hF2 : F ≤ 64) (hj : j < 64) : (turnW F x k).getLsbD j = (decide ((j : Int) < F) && x.getLsbD (((j : Int) - k) % F).toNat) := by
  unfold turnW
  rw [if_neg (by omega)]
  have h1 : 0 ≤ k % F := Int.emod_nonneg _ (by omega)
  have h2 : k % F < F := Int.emod_lt_of_pos _ hF
  rw [BitVec.getLsbD_and, BitVec.getLsbD_or, BitVec.getLsbD_shiftLeft, BitVec.getLsbD_ushiftRight, BitVec.getLsbD_and, BitVec.getLsbD_and, allB_bit, allB_bit, allB_bit]
  by_cases hjF : (j : Int) < F
  · rw [src_val hF (by omega) hjF]
    have e1 : decide ((j : Int) < F) = true := by simpa using hjF
    have e2 : decide (j < F.toNat) = true := by simp; omega
    rw [e1, e2]
    split
    · rename_i hk
      have e3 : decide (j < (k % F).toNat) = false := by simp; omega
      have e4 : decide ((F - k % F).toNat + j < F.toNat) = false := by simp; omega
      have e5 : ((j : Int) - k % F).toNat = j - (k % F).toNat := by omega
      have e6 : decide (j - (k % F).toNat < F.toNat) = true := by simp; omega
      have e7 : decide (j - (k % F).toNat < 64) = true := by simp; omega
      rw [e3, e4, e5, e6, e7]
      simp [hj]
    · rename_i hk
      have e3 : decide (j < (k % F).toNat) = true := by simp; omega
      have e4 : decide ((F - k % F).toNat + j < F.toNat) = true := by simp; omega
      have e5 : ((j : Int) - k % F + F).toNat = (F - k % F).toNat + j := by omega
      have e6 : decide ((F - k % F).toNat + j < 64) = true := by simp; omega
      rw [e3, e4, e5, e6]
      simp [hj]
  · have e1 : decide ((j : Int) < F) = false := by simpa using hjF
    have e2 : decide (j < F.toNat) = false := by simp; omega
    rw [e1, e2]
    simp

theorem roundW_bit {F k : Int} {j : Nat} (hF : 0 < F) (hF2 : F ≤ 64) (hj : j < 64) : ∀ {n : Nat}, (n : Int) ≤ F → (roundW F k n).getLsbD j = (decide ((j : Int) < F) && decide (((j : Int) - k) % F < n)) := by
  intro n
  induction n with
  | zero =>
    intro _
    have : ¬ ((j : Int) - k) % F < 0 := by have := Int.emod_nonneg ((j : Int) - k) (b := F) (by omega); omega
    simp [roundW, this]
  | succ n ih =>
    intro hn
    have ih := ih (by omega)
    rw [roundW, withB_bit hj, ih, Bool.eq_iff_iff]
    simp only [Bool.or_eq_true, Bool.and_eq_true, decide_eq_true_eq]
    constructor
    · rintro (⟨g1, g2⟩ | g)
      · exact ⟨g1, by omega⟩
      · have g1 : (j : Int) < F := by rw [g]; exact Int.emod_lt_of_pos _ hF
        have g2 := (src_of hF (by omega : (0 : Int) ≤ n) (by omega) (by omega) g1).1 g.symm
        exact ⟨g1, by omega⟩
    · rintro ⟨g1, g2⟩
      by_cases e : ((j : Int) - k) % F = n
      · right; exact ((src_of hF (by omega : (0 : Int) ≤ n) (by omega) (by omega) g1).2 e.symm).symm
      · left; exact ⟨g1, by omega⟩

theorem round_turn {F k : Int} {n : Nat} (h0 : 0 ≤ F) (h64 : F ≤ 64) (hn : (n : Int) ≤ F) : turnW F (allB n) k = roundW F k n := by
  by_cases hF : F = 0
  · subst hF
    have : n = 0 := by omega
    subst this; simp [turnW, roundW]
  · refine word_ext fun j hj => ?_
    rw [turnW_bit (by omega) h64 hj, roundW_bit (by omega) h64 hj hn, allB_bit]
    have h1 : ((j : Int) - k) % F < F := Int.emod_lt_of_pos _ (by omega)
    have h2 : 0 ≤ ((j : Int) - k) % F := Int.emod_nonneg _ hF
    have e : decide ((((j : Int) - k) % F).toNat < 64) = true := by simp; omega
    rw [e, Bool.true_and]
    congr 1
    rw [Bool.eq_iff_iff]; simp only [decide_eq_true_eq]; omega
end Go.Am


/- MaskL1 over the table of chain (relayset.py). -/
set_option linter.unusedVariables false
set_option linter.unusedSimpArgs false
namespace Go.Am
variable {m : Mem}

theorem round_turn' {f k n : Int} : turnW (fr f) (allB (min (max n 0) (fr f)).toNat) k = roundW (fr f) k (min (max n 0) (fr f)).toNat :=
  round_turn (fr_le f).1 (fr_le f).2 (by have := (fr_le f).1; omega)
end Go.Am


/- MaskL4 over the table of chain (relayset.py). -/
set_option linter.unusedVariables false
set_option linter.unusedSimpArgs false
namespace Go.Am
variable {m : Mem}

/-- What comes behind so many, round. -/
theorem behind {F r U : Int} (h0 : 0 ≤ U) (hU : U ≤ F) (h1 : 0 ≤ r) (h2 : r < F) : (r - U) % F = if U ≤ r then r - U else r - U + F := by
  split
  · exact Int.emod_eq_of_lt (by omega) (by omega)
  · rw [← Int.add_emod_right]; exact Int.emod_eq_of_lt (by omega) (by omega)

end Go.Am


/- Slices at api_Place (Chain): copies, what is found, what is left out. Printed out of SlcT.tmpl by slcgen.py. -/
set_option linter.unusedVariables false
set_option linter.unusedSimpArgs false
namespace Go.Am
variable {α : Type} {f : α → List Value} {m : Mem}

theorem pl_upd2 {all A B C : List Value} {o : Nat} (h : all = A ++ B ++ C) (ho : A.length = o) {X : List Value} (hl : X.length = B.length) : writeL all o X = A ++ X ++ C := by
  subst h
  unfold writeL
  have e1 : (A ++ B ++ C).take o = A := by rw [List.append_assoc]; exact List.take_left' ho
  have e2 : (A ++ B ++ C).drop (o + X.length) = C := List.drop_left' (by rw [List.length_append, ho, hl])
  rw [e1, e2]

/-- One left out; the last place is cleared. -/
theorem pl_Delete1 {l : List α} {v : Value} {m0 : Mem} {i : Nat} (hf : ∀ a, (f a).length = 4) (h1 : ∀ a, oneCells (f a) = true) (ho : Own m0 m 4 l.length (l.flatMap f) v) (hx0 : Ext m0 m) (hl : l.length < 100000) (hi : i < l.length) :
    WC R F.slices_Delete_api_Place_api_Place [v, .int .i64 i, .int .i64 (i + 1 : Nat)] m fun r m' => Own m0 m' 4 (l.eraseIdx i).length ((l.eraseIdx i).flatMap f) r ∧ Ext m0 m' ∧ vb r = vb v ∧ Upd m m' (vb v) := by
  refine WC.of R.slices_Delete_api_Place_api_Place rfl ?_
  simp only [RC.slices_Delete_api_Place_api_Place, go_sem]
  cases ho with
  | nil h hc => omega
  | @«at» b c all hb hb2 hnc hm hal hcs hone =>
    have hun : unitOk 4 m b = true := unitOk_own hm
    have b3 : aSub 4 m (.slice (some ⟨b, 0, none⟩) l.length c) (some (.int .i64 (i : Nat))) (some (.int .i64 ((i + 1 : Nat) : Int))) (some (.int .i64 (l.length : Nat))) = some (.slice (some ⟨b, 0 + i * 4, none⟩) (i + 1 - i) (l.length - i)) := by
      have q : ∀ (N n : Nat), n ≤ N → aBound N (.int .i64 (n : Nat)) = some n := fun N n h => by
        simp only [aBound]; rw [if_pos (by omega)]; simp
      simp only [aSub, hun, if_true, aBounds, q c l.length hnc, q l.length (i + 1) (by omega), q (i + 1) i (by omega), Option.bind_some, cutAt]
      rw [if_pos (by omega)]
    have ne : ((i : Int) == ((i + 1 : Nat) : Int)) = false := by rw [beq_eq_false_iff_ne]; omega
    have hunb : ∀ n, unitOk 4 (m.bump n) b = true := fun n => hun
    have c1 : ∀ n, aSub 4 (m.bump n) (.slice (some ⟨b, 0, none⟩) l.length c) none (some (.int .i64 (i : Nat))) none = some (.slice (some ⟨b, 0, none⟩) i c) := fun n => sub_to (hunb n) (by omega)
    have c2 : ∀ n, aSub 4 (m.bump n) (.slice (some ⟨b, 0, none⟩) l.length c) (some (.int .i64 ((i + 1 : Nat) : Int))) none none = some (.slice (some ⟨b, (i + 1) * 4, none⟩) (l.length - (i + 1)) (c - (i + 1))) := fun n => by
      have := sub_from (m := m.bump n) (b := b) (o := 0) (n := l.length) (c := c) (u := 4) (k := .i64) (i := i + 1) (hunb n) (by omega) hnc
      rw [Nat.zero_add] at this; exact this
    have key : ∀ (q n : Nat), ∃ (m' : Mem) (X : List Value), aApp (some q) 4 48 (m.bump n) (.slice (some ⟨b, 0, none⟩) i c) (.slice (some ⟨b, (i + 1) * 4, none⟩) (l.length - (i + 1)) (c - (i + 1))) = some (.slice (some ⟨b, 0, none⟩) (l.length - 1) c, m') ∧
        X.length = 4 ∧ m'.blk b = some (.cells ((l.eraseIdx i).flatMap f ++ X ++ all.drop (l.length * 4)) (some 4)) ∧ Upd m m' [b] := by
      intro q n
      have hbm : (m.bump n).blk b = some (.cells all (some 4)) := hm
      have hall : all = l.flatMap f ++ all.drop (l.length * 4) := by rw [← hcs, List.take_append_drop]
      generalize all.drop (l.length * 4) = sp at hall ⊢
      have hle : l.length * 4 ≤ c * 4 := Nat.mul_le_mul_right _ hnc
      have e0 : l = l.take i ++ l[i] :: l.drop (i + 1) := by rw [← List.drop_eq_getElem_cons hi, List.take_append_drop]
      have hti : ((l.take i).flatMap f).length = i * 4 := by rw [flat_len hf, List.length_take]; congr 1; omega
      have hdi : ((l.drop (i + 1)).flatMap f).length = (l.length - (i + 1)) * 4 := by rw [flat_len hf, List.length_drop]
      have hE : l.eraseIdx i = l.take i ++ l.drop (i + 1) := List.eraseIdx_eq_take_drop_succ ..
      have hl2 : l.flatMap f = (l.take i).flatMap f ++ (f l[i] ++ (l.drop (i + 1)).flatMap f) := by
        conv => lhs; rw [e0]
        rw [List.flatMap_append, List.flatMap_cons]
      by_cases hk : l.length - (i + 1) = 0
      · have hd : l.drop (i + 1) = [] := List.eq_nil_of_length_eq_zero (by rw [List.length_drop]; exact hk)
        refine ⟨m.bump n, f l[i], ?_, hf _, ?_, Ext.bump.upd⟩
        · rw [hk]
          simp only [aApp, sliceLen, Option.bind_some, aSrc, if_true]
          rw [if_pos ⟨by omega, by rw [hbm]; rfl⟩, show i = l.length - 1 by omega]
        · rw [hbm, hE, hd, List.append_nil, hall, hl2, hd, List.flatMap_nil, List.append_nil]
      · have hsl : Sl (m.bump n) 4 (l.length - (i + 1)) ((l.drop (i + 1)).flatMap f) (.slice (some ⟨b, (i + 1) * 4, none⟩) (l.length - (i + 1)) (c - (i + 1))) := by
          refine .at (by omega) ?_
          unfold aCells
          rw [hbm]
          have e1 : all.length = c * 4 := hal
          have e2 : (i + 1) * 4 + (l.length - (i + 1)) * 4 = l.length * 4 := by rw [← Nat.add_mul]; congr 1; omega
          have e3 : all.drop ((i + 1) * 4) = (l.drop (i + 1)).flatMap f ++ sp := by
            rw [hall, hl2]
            have : ((l.take i).flatMap f ++ (f l[i] ++ (l.drop (i + 1)).flatMap f) ++ sp) = ((l.take i).flatMap f ++ f l[i]) ++ ((l.drop (i + 1)).flatMap f ++ sp) := by simp only [List.append_assoc]
            rw [this]
            exact List.drop_left' (by rw [List.length_append, hti, hf, Nat.succ_mul])
          simp only
          rw [if_pos (by omega), e3, List.take_left' hdi]
        obtain ⟨s1, s2⟩ := hsl.src
        have oneD : oneCells ((l.drop (i + 1)).flatMap f) = true := by
          unfold oneCells
          rw [List.all_eq_true]
          intro x hx
          obtain ⟨y, _, hy⟩ := List.mem_flatMap.1 hx
          have := h1 y
          unfold oneCells at this
          exact List.all_eq_true.1 this x hy
        obtain ⟨B, X, hBX, hBl, hXl⟩ : ∃ B X : List Value, f l[i] ++ (l.drop (i + 1)).flatMap f = B ++ X ∧ B.length = (l.length - (i + 1)) * 4 ∧ X.length = 4 := by
          refine ⟨_, _, (List.take_append_drop ((l.length - (i + 1)) * 4) _).symm, ?_, ?_⟩
          · rw [List.length_take, List.length_append, hdi]; omega
          · rw [List.length_drop, List.length_append, hdi, hf]; omega
        have hw : writeL all (i * 4) ((l.drop (i + 1)).flatMap f) = (l.eraseIdx i).flatMap f ++ X ++ sp := by
          rw [pl_upd2 (A := (l.take i).flatMap f) (B := B) (C := X ++ sp) (by rw [hall, hl2, hBX]; simp only [List.append_assoc]) hti (by rw [hdi, hBl]), hE, List.flatMap_append]
          simp only [List.append_assoc]
        have hlen : i * 4 + (l.length - (i + 1)) * 4 ≤ all.length := by
          have e1 : all.length = c * 4 := hal
          have : i * 4 + (l.length - (i + 1)) * 4 ≤ l.length * 4 := by rw [← Nat.add_mul]; exact Nat.mul_le_mul_right _ (by omega)
          omega
        refine ⟨(m.bump n).set b (some (.cells ((l.eraseIdx i).flatMap f ++ X ++ sp) (some 4))), X, ?_, hXl, by simp [Mem.set], Ext.bump.upd.trans (Upd.set (fp := [b]) (by simp)) (fun _ h => h) (fun _ h => .inl h)⟩
        simp only [aApp, s2, Option.bind_some, s1, hk, if_false, Nat.zero_add]
        rw [if_pos (by omega)]
        unfold aWrite
        rw [hbm]
        simp only
        rw [if_pos ⟨by omega, oneD⟩, hw, show i + (l.length - (i + 1)) = l.length - 1 by omega]
        rfl
    obtain ⟨m1, X, k1, k2, k3, k4⟩ := key (m.next + 6) 8
    have hE2 : (l.eraseIdx i).length = l.length - 1 := by rw [List.length_eraseIdx]; simp [hi]
    have hfe : ((l.eraseIdx i).flatMap f).length = (l.length - 1) * 4 := by rw [flat_len hf, hE2]
    have hun1 : unitOk 4 m1 b = true := unitOk_own k3
    have c3 : aSub 4 m1 (.slice (some ⟨b, 0, none⟩) (l.length - 1) c) (some (.int .i64 ((l.length - 1 : Nat) : Int))) (some (.int .i64 (l.length : Nat))) none = some (.slice (some ⟨b, (l.length - 1) * 4, none⟩) 1 (c - (l.length - 1))) := by
      have := sub_both (m := m1) (b := b) (o := 0) (n := l.length - 1) (c := c) (u := 4) (k := .i64) (k' := .i64) (i := l.length - 1) (j := l.length) hun1 (by omega) hnc
      rw [Nat.zero_add, show l.length - (l.length - 1) = 1 by omega] at this
      exact this
    have hclr : aClr 4 [(.int .i64 0), (.int .i64 0), (.int .i64 0), (.slice none 0 0)] m1 (.slice (some ⟨b, (l.length - 1) * 4, none⟩) 1 (c - (l.length - 1))) = some (m1.set b (some (.cells ((l.eraseIdx i).flatMap f ++ [(.int .i64 0), (.int .i64 0), (.int .i64 0), (.slice none 0 0)] ++ all.drop (l.length * 4)) (some 4)))) := by
      simp only [aClr]
      rw [if_neg (by omega), if_pos (show ([(.int .i64 0), (.int .i64 0), (.int .i64 0), (.slice none 0 0)] : List Value).length = 4 from rfl)]
      unfold aWrite
      rw [k3]
      have hz : zeros [(.int .i64 0), (.int .i64 0), (.int .i64 0), (.slice none 0 0)] 1 = [(.int .i64 0), (.int .i64 0), (.int .i64 0), (.slice none 0 0)] := by simp [zeros]
      rw [hz]
      simp only
      rw [if_pos ⟨by simp only [List.length_append, hfe, k2, List.length_cons, List.length_nil]; omega, rfl⟩]
      congr 4
      exact pl_upd2 rfl hfe (by rw [k2]; rfl)
    simp only [go_sem, len_s, b3, ne, c1, c2]
    rw [k1]
    simp only [go_sem, len_s, c3, hclr]
    have hu : Upd m (m1.set b (some (.cells ((l.eraseIdx i).flatMap f ++ [(.int .i64 0), (.int .i64 0), (.int .i64 0), (.slice none 0 0)] ++ all.drop (l.length * 4)) (some 4)))) [b] := k4.trans (Upd.set (fp := [b]) (by simp)) (fun _ h => h) (fun _ h => .inl h)
    refine ⟨?_, hu.ext_of hx0 (by simpa using hb), rfl, hu⟩
    rw [← hE2]
    refine .at (all := (l.eraseIdx i).flatMap f ++ [(.int .i64 0), (.int .i64 0), (.int .i64 0), (.slice none 0 0)] ++ all.drop (l.length * 4)) hb (Nat.lt_of_lt_of_le hb2 hu.next) (by omega) (by simp [Mem.set]) ?_ ?_ ?_
    · have e1 : l.length * 4 ≤ c * 4 := Nat.mul_le_mul_right _ hnc
      have e2 : (l.length - 1) * 4 + 4 = l.length * 4 := by rw [← Nat.succ_mul]; congr 1; omega
      simp only [List.length_append, hfe, List.length_drop, hal, List.length_cons, List.length_nil]
      omega
    · rw [List.append_assoc, List.take_left' (by rw [hfe, hE2])]
    · unfold oneCells
      rw [List.all_eq_true]
      intro x hx
      obtain ⟨y, _, hy⟩ := List.mem_flatMap.1 hx
      have := h1 y
      unfold oneCells at this
      exact List.all_eq_true.1 this x hy
end Go.Am


/- slices.Insert at one's own row. -/
set_option linter.unusedVariables false
set_option linter.unusedSimpArgs false
namespace Go.Am

/-- One more behind one's own, out of another block. -/
theorem Own.app1 {m0 m : Mem} {u n by_ : Nat} {cs xs : List Value} {v x : Value} (h : Own m0 m u n cs v) (hx : Ext m0 m) (hs : Sl m u 1 xs x) (h1 : oneCells xs = true) (hby : (n + 1) * by_ ≤ 2 ^ 47) (hn : n + 1 < 2 ^ 62) :
    ∃ v' m', aApp none u by_ m v x = some (v', m') ∧ Own m0 m' u (n + 1) (cs ++ xs) v' ∧ Ext m0 m' := by
  obtain ⟨hsrc, hlen⟩ := hs.src
  have hxl := hs.length
  cases h with
  | nil h hc =>
    subst h; subst hc
    refine ⟨.slice (some ⟨m.next, 0, none⟩) 1 1, m.new (.cells xs (some u)), ?_, ?_, hx.trans Ext.new⟩
    · simp only [aApp, hlen, Option.bind_some, hsrc, Nat.one_ne_zero, if_false]
      rw [if_pos ⟨by simpa using hby, by simp, h1⟩]
      rfl
    · rw [Nat.zero_add, List.nil_append]
      exact .at (all := xs) hx.next (by simp [Mem.new]) (Nat.le_refl _) (by simp [Mem.new]) hxl (by rw [← hxl, List.take_length]) h1
  | @«at» b c all hb hb2 hnc hm hl hcs hone =>
    by_cases hroom : n + 1 ≤ c
    · have hle : n * u + 1 * u ≤ c * u := by rw [← Nat.add_mul]; exact Nat.mul_le_mul_right _ hroom
      refine ⟨.slice (some ⟨b, 0, none⟩) (n + 1) c, m.set b (some (.cells (writeL all (n * u) xs) (some u))), ?_, ?_, hx.set hb⟩
      · simp only [aApp, hlen, Option.bind_some, hsrc, Nat.one_ne_zero, if_false, Nat.zero_add]
        rw [if_pos hroom]
        unfold aWrite
        rw [hm]
        simp only
        rw [if_pos ⟨by omega, h1⟩]; rfl
      · refine .at (all := writeL all (n * u) xs) hb (by simpa [Mem.set] using hb2) hroom (by simp [Mem.set]) ?_ ?_ (oneCells_append hone h1)
        · unfold writeL; simp; omega
        · unfold writeL
          rw [Nat.add_mul, List.append_assoc, List.take_append]
          have e : (all.take (n * u)).length = n * u := by simp; omega
          rw [e, List.take_of_length_le (by omega), show n * u + 1 * u - n * u = xs.length by omega, List.take_left, hcs]
    · have hcn : n = c := by omega
      subst hcn
      have hall : all.take (n * u) = all := by rw [← hl, List.take_length]
      rw [hall] at hcs
      subst hcs
      refine ⟨.slice (some ⟨m.next, 0, none⟩) (n + 1) (n + 1), (m.set b none).new (.cells (all ++ xs) (some u)), ?_, ?_, (hx.set hb).trans Ext.new⟩
      · simp only [aApp, hlen, Option.bind_some, hsrc, Nat.one_ne_zero, if_false, Nat.zero_add]
        rw [if_neg hroom, hm]
        simp only [List.drop_zero, hall]
        rw [if_pos ⟨hby, hn, h1, hone, Nat.le_refl _, by omega, .inr ⟨by first | rfl | trivial, .inr (by first | rfl | trivial)⟩⟩]
        simp only [Option.isSome_some, true_and, hl, if_true, place]
        rfl
      · refine .at (all := all ++ xs) (by have := hx.next; omega) (by simp [Mem.new, Mem.set]) (Nat.le_refl _) (by simp [Mem.new, Mem.set]) (by simp [hl, hxl, Nat.add_mul]) ?_ (oneCells_append hone h1)
        rw [Nat.add_mul, List.take_of_length_le (by simp; omega)]

theorem oneCells_ins {u i : Nat} {cs es : List Value} (h1 : oneCells cs = true) (h2 : oneCells es = true) : oneCells (insRow u i cs es) = true := by
  unfold insRow
  exact oneCells_append (oneCells_append (oneCells_sub h1 fun x hx => List.mem_of_mem_take hx) h2) (oneCells_sub h1 fun x hx => List.mem_of_mem_drop hx)

/-- One element into one's own row. -/
theorem insert_own {m0 m : Mem} {u n by_ q i : Nat} {cs es : List Value} {v : Value} (h : Own m0 m u n cs v) (hx : Ext m0 m) (hq : Bk m q es u) (hqv : q ∉ vb v) (he : es.length = u) (h1 : oneCells es = true) (hu : 0 < u) (hb0 : 0 < by_) (hby : (n + 1) * by_ ≤ 2 ^ 47) (hn : n < 1000000000) (hi : i ≤ n) :
    ∃ v' m', X.insert u by_ [v, .int .i64 i, .slice (some ⟨q, 0, none⟩) 1 1] m = some (v', m') ∧ Own m0 m' u (n + 1) (insRow u i cs es) v' ∧ Ext m0 m' := by
  have hs : Sl m u 1 es (.slice (some ⟨q, 0, none⟩) 1 1) := by
    refine .at (Nat.le_refl _) ?_
    unfold aCells
    rw [hq.at_]
    simp only [Nat.zero_add, List.drop_zero, Nat.one_mul]
    rw [if_pos (by omega), ← he, List.take_length]
  obtain ⟨v', m', e1, e2, e3⟩ := h.app1 (by_ := by_) hx hs h1 hby (by omega)
  have hcl := h.sl.length
  have hend : i = n → insRow u i cs es = cs ++ es := by
    rintro rfl
    unfold insRow
    rw [List.take_of_length_le (by omega), List.drop_of_length_le (by omega), List.append_nil]
  cases h with
  | nil hn0 hc =>
    subst hn0
    obtain rfl : i = 0 := by omega
    refine ⟨v', m', ?_, by rw [hend rfl]; exact e2, e3⟩
    simp only [X.insert]
    rw [if_pos (by rfl)]; exact e1
  | @«at» b c all hb hb2 hnc hm hl hcs hone =>
    by_cases hin : i = n
    · refine ⟨v', m', ?_, by rw [hend hin]; exact e2, e3⟩
      simp only [X.insert]
      rw [if_pos (by rw [hin])]; exact e1
    · have hnu : n * u ≤ c * u := Nat.mul_le_mul_right _ hnc
      have hqb : q ≠ b := fun e => hqv (by simp [vb, e])
      have hrow : (all.drop 0).take (n * u) = cs := by rw [List.drop_zero, hcs]
      have hx2 : (es.drop 0).take u = es := by rw [List.drop_zero, ← he, List.take_length]
      refine ⟨.slice (some ⟨m.next, 0, none⟩) (n + 1) (n + 1), (m.set b none).new (.cells (insRow u i cs es) (some u)), ?_, ?_, (hx.set hb).trans Ext.new⟩
      · simp only [X.insert]
        rw [if_neg (by omega), hm, hq.at_]
        simp only []
        rw [hrow, hx2, if_pos ⟨by first | rfl | trivial, hu, hb0, by omega, by omega, hqb, hnc, by omega, by omega, hn, by omega, hone, h1⟩, Int.toNat_natCast]
      · have hlen : (insRow u i cs es).length = (n + 1) * u := insRow_len hcl he (by omega)
        exact .at (all := insRow u i cs es) (by have := hx.next; omega) (by simp [Mem.new, Mem.set]) (Nat.le_refl _) (by simp [Mem.new, Mem.set]) hlen (by rw [← hlen, List.take_length]) (oneCells_ins hone h1)

theorem insRow_flat {α : Type} {f : α → List Value} {u i : Nat} {l : List α} {a : α} (hf : ∀ a, (f a).length = u) (hi : i ≤ l.length) : insRow u i (l.flatMap f) (f a) = (l.take i ++ a :: l.drop i).flatMap f := by
  unfold insRow
  have e : l.flatMap f = (l.take i).flatMap f ++ (l.drop i).flatMap f := by rw [← List.flatMap_append, List.take_append_drop]
  have hl : ((l.take i).flatMap f).length = i * u := by rw [flat_len hf, List.length_take]; congr 1; omega
  rw [e, List.take_left' hl, List.drop_left' hl]
  simp
end Go.Am


/- PlanZ1 over the table of chain (relayset.py). -/
set_option linter.unusedVariables false
set_option linter.unusedSimpArgs false
namespace Go.Am
open Classical
variable {m : Mem}

/-- A place with where its pieces lie. -/
structure PE where
  pl : Pl
  pv : Value
  one : pv.oneCell' = true
def peV (e : PE) : List Value := plV e.pl e.pv
theorem peV_len (e : PE) : (peV e).length = 4 := rfl
theorem peV_one (e : PE) : oneCells (peV e) = true := by
  unfold peV plV oneCells
  simp [e.one]
  exact ⟨rfl, rfl, rfl⟩

/-- Places in a row of one's own. -/
structure OwnPls (m0 m : Mem) (l : List PE) (v : Value) : Prop where
  own : Own m0 m 4 l.length (l.flatMap peV) v
  el : ∀ e ∈ l, PcV m e.pl.pieces e.pv ∧ ∀ b ∈ vb e.pv, b ∉ vb v
  ext : Ext m0 m
theorem OwnPls.keep {m0 m m' : Mem} {l : List PE} {v : Value} (h : OwnPls m0 m l v) (hx : Ext m m') : OwnPls m0 m' l v :=
  ⟨h.own.keep hx, fun e he => ⟨(h.el e he).1.keep hx, (h.el e he).2⟩, h.ext.trans hx⟩
theorem PcV.upd {m m' : Mem} {l : List Pc} {v : Value} {fp : List Nat} (h : PcV m l v) (hx : Upd m m' fp) (ho : ∀ b ∈ vb v, b ∉ fp) : PcV m' l v :=
  ⟨h.1.upd h.2 (SlOff.vb_iff.2 ho) hx, h.2.upd hx⟩
theorem OwnPls.updq {m0 m m' : Mem} {l : List PE} {v : Value} {fp : List Nat} (h : OwnPls m0 m l v) (hx : Upd m m' fp) (h1 : ∀ b ∈ vb v, b ∉ fp) (h2 : ∀ e ∈ l, ∀ b ∈ vb e.pv, b ∉ fp) (h3 : ∀ x ∈ fp, m0.next ≤ x) : OwnPls m0 m' l v :=
  ⟨h.own.updq hx h1, fun e he => ⟨(h.el e he).1.upd hx (h2 e he), (h.el e he).2⟩, hx.ext_of h.ext h3⟩
theorem OwnPls.weak {m0 m1 m : Mem} {l : List PE} {v : Value} (h : OwnPls m1 m l v) (hx : Ext m0 m1) : OwnPls m0 m l v := ⟨h.own.weak hx, h.el, hx.trans h.ext⟩
theorem OwnPls.pls {m0 m : Mem} {l : List PE} {v : Value} (h : OwnPls m0 m l v) : PlsV m (l.map PE.pl) v := by
  refine ⟨l.flatMap peV, by rw [List.length_map]; exact h.own.sl, h.own.lt, fun i hi => ?_⟩
  have hi' : i < l.length := by simpa using hi
  refine ⟨l[i].pv, ?_, ?_⟩
  · rw [flat_drop peV_len hi']; simp [peV]
  · have := (h.el _ (List.getElem_mem hi')).1
    simpa using this

theorem OwnPls.app {m0 m : Mem} {l : List PE} {v : Value} {e : PE} (h : OwnPls m0 m l v) (hp : PcV m e.pl.pieces e.pv) (ho : ∀ b ∈ vb e.pv, b ∉ vb v) (hl : l.length < 1000000) :
    ∃ v' m', aApp none 4 48 (m.new (.cells (peV e) (some 4))) v (.slice (some ⟨m.next, 0, none⟩) 1 1) = some (v', m') ∧ OwnPls m0 m' (l ++ [e]) v' := by
  obtain ⟨v', m', e1, e2, e3⟩ := h.own.app (by_ := 48) (es := peV e) h.ext (by omega) rfl (peV_one e) (by omega) (by omega)
  have hx : Ext m (m.new (.cells (peV e) (some 4))) := Ext.new
  obtain ⟨a1, a2, a3⟩ := app_updA (M := (m.new (.cells (peV e) (some 4))).next) e1 (fun k hk => by cases hk) (Nat.le_refl _)
  have hn := hx.next
  have key : ∀ pc pv, PcV m pc pv → (∀ b ∈ vb pv, b ∉ vb v) → PcV m' pc pv ∧ ∀ b ∈ vb pv, b ∉ vb v' := fun pc pv h1 h2 => by
    have hlt := SlLt.vb_iff.1 h1.2
    refine ⟨(h1.keep hx).upd (fp := vb v) ⟨a1, fun b hb hnb => a2 b hb hnb⟩ h2, fun b hb hm => ?_⟩
    rcases a3 with e | ⟨k, e, hk⟩
    · rw [e] at hm; exact h2 b hb hm
    · rw [e] at hm
      simp at hm
      have := hlt b hb
      omega
  refine ⟨v', m', e1, ⟨?_, fun x hx' => ?_, e3⟩⟩
  · rw [List.length_append, List.flatMap_append]; simpa using e2
  · rcases List.mem_append.1 hx' with hx' | hx'
    · exact key _ _ (h.el x hx').1 (h.el x hx').2
    · rw [List.mem_singleton.1 hx']
      exact key _ _ hp ho


/-- A row of places, all of whose blocks are new. -/
structure NewPls (m0 m : Mem) (l : List PE) (v : Value) : Prop where
  pls : OwnPls m0 m l v
  new : ∀ e ∈ l, ∀ b ∈ vb e.pv, m0.next ≤ b
theorem NewPls.keep {m0 m m' : Mem} {l : List PE} {v : Value} (h : NewPls m0 m l v) (hx : Ext m m') : NewPls m0 m' l v := ⟨h.pls.keep hx, h.new⟩
theorem NewPls.weak {m0 m1 m : Mem} {l : List PE} {v : Value} (h : NewPls m1 m l v) (hx : Ext m0 m1) : NewPls m0 m l v := ⟨h.pls.weak hx, fun e he b hb => by have := h.new e he b hb; have := hx.next; omega⟩
theorem NewPls.old {m0 m m' : Mem} {l : List PE} {v : Value} {fp : List Nat} (h : NewPls m0 m l v) (hx : Upd m m' fp) (hf : ∀ x ∈ fp, x < m0.next) : OwnPls m0 m' l v ∨ True := .inr trivial
theorem make0 {u by_ : Nat} {z : List Value} {m : Mem} {n : Nat} (h1 : n < 2 ^ 62) (h2 : n * by_ ≤ 2 ^ 47) (hz : z.length = u) (ho : oneCells z = true) :
    aMake none u by_ z m (.int .i64 0) (.int .i64 n) = some (.slice (some ⟨m.next, 0, none⟩) 0 n, m.new (.cells (zeros z n) (some u))) := by
  simp only [aMake, place]
  rw [if_pos ⟨by omega, by omega, by omega, by omega, hz, ho⟩, Int.toNat_natCast]
  rfl
theorem zeros_len {z : List Value} {n : Nat} : (zeros z n).length = n * z.length := by
  induction n with
  | zero => simp [zeros]
  | succ n ih => simp [zeros, ih, Nat.succ_mul]; omega

theorem new0 {m : Mem} {cs : List Value} {n : Nat} (h : cs.length = n * 4) (hx : Ext m (m.new (.cells cs (some 4)))) : NewPls m (m.new (.cells cs (some 4))) [] (.slice (some ⟨m.next, 0, none⟩) 0 n) := by
  refine ⟨⟨.at (all := cs) (Nat.le_refl _) (by simp [Mem.new]) (Nat.zero_le _) (by simp [Mem.new]) h ?_ rfl, (fun e he => by simp at he), hx⟩, (fun e he => by simp at he)⟩
  show cs.take (0 * 4) = []
  rw [Nat.zero_mul]; rfl

theorem mk_rule {R : Nat → Option FEnt} {e : Env} {m : Mem} {u b k : Nat} {z : List Value} {a v : Value} {Q : Value → Mem → Prop} (h : Env.get e k = some v) :
    gpA R none e m (.mkslice u b z (.c a) (.t k)) Q = Got (aMake none u b z m a v) fun r => Q r.1 r.2 := by
  rw [a_mkslice, act_mkslice, ev_c, ev_t, h, Option.bind_some, Option.bind_some]

set_option maxHeartbeats 4000000 in
theorem clone_spec {p : PlanD} {v : Value} (hv : PlanV m p v) (hl : PlanL p) :
    WC R F.plan_clone [v] m fun r m' => ∃ (l : List PE) (lv : Value), r = .agg (planV p lv).toArray ∧ l.map PE.pl = p.places ∧ NewPls m m' l lv := by
  refine WC.of R.plan_clone rfl ?_
  obtain ⟨pv, rfl, hp⟩ := hv
  have hln := hl.len
  simp only [RC.plan_clone, planV, go_sem, hp.one]
  have hx1 : Ext m (m.new (.cells [.int .i64 p.frame, u32 p.cores, pv] (some 3))) := Ext.new
  have hb1 : Bk (m.new (.cells [.int .i64 p.frame, u32 p.cores, pv] (some 3))) m.next [.int .i64 p.frame, u32 p.cores, pv] 3 := Bk.new
  generalize m.new (.cells [.int .i64 p.frame, u32 p.cores, pv] (some 3)) = m1 at hx1 hb1 ⊢
  have hbn := hb1.ne
  try simp only [go_sem, ruB, hb1.at_, hbn]
  have hx2 : Ext m1 (m1.new (.cells [.int .i64 0, u32 0#32, .slice none 0 0] (some 3))) := Ext.new
  have hb2 : Bk (m1.new (.cells [.int .i64 0, u32 0#32, .slice none 0 0] (some 3))) m1.next [.int .i64 0, u32 0#32, .slice none 0 0] 3 := Bk.new
  generalize m1.new (.cells [.int .i64 0, u32 0#32, .slice none 0 0] (some 3)) = m2 at hx2 hb2 ⊢
  have hb12 := hb1.keep hx2
  have hp2 := (hp.keep hx1).keep hx2
  try simp only [go_sem, ruB, hb12.at_]
  simp only [hp2.len, Got.some, wpO_cons, wpOp_on, put_some]
  rw [mk_rule (v := .int .i64 (p.places.length : Nat)) get_same]
  refine Got.of (make0 (u := 4) (by_ := 48) (n := p.places.length) (by omega) (by omega) rfl rfl) ?_
  try simp only [go_sem, ruB, hb12.at_, hb12.ne, hp2.len]
  have hx3 : Ext m2 (m2.new (.cells (zeros [.int .i64 0, .int .i64 0, .int .i64 0, .slice none 0 0] p.places.length) (some 4))) := Ext.new
  have ho : NewPls m2 (m2.new (.cells (zeros [.int .i64 0, .int .i64 0, .int .i64 0, .slice none 0 0] p.places.length) (some 4))) [] (.slice (some ⟨m2.next, 0, none⟩) 0 p.places.length) := new0 zeros_len hx3
  generalize m2.new (.cells (zeros [.int .i64 0, .int .i64 0, .int .i64 0, .slice none 0 0] p.places.length) (some 4)) = m3 at hx3 ho ⊢
  have hle : m1.next + 1 ≤ m2.next := hb2.lt
  have hle0 : m.next + 1 ≤ m1.next := hb1.lt
  refine WL.of (fun n e m' => ∃ (i : Nat) (l : List PE) (lv : Value), i ≤ p.places.length ∧ n = p.places.length - i ∧ e = [(1, pt m.next), (2, pt m1.next), (3, lv), (11, pv), (12, .int .i64 p.places.length), (13, .int .i64 i)] ∧ l.map PE.pl = p.places.take i ∧ NewPls m2 m' l lv) p.places.length
    ⟨0, [], _, by omega, by omega, by simp only [go_sem] <;> rfl, by simp, ho⟩ ?_
  rintro _ _ m4 ⟨i, l, lv, hi, rfl, rfl, hmp, hN⟩
  have hx4 := hN.pls.ext
  have hp4 := hp2.keep hx4
  have hb14 := hb12.keep hx4
  have hb24 := hb2.keep hx4
  have hll : l.length = i := by have := congrArg List.length hmp; simp at this; omega
  simp only [RB.plan_clone_1, pt, go_sem]
  refine gT.of (fun h1' => ?_) (fun h1' => ?_) <;> (have h1 := h1'; try simp only [decide_eq_true_eq, decide_eq_false_iff_not, beq_iff_eq, bne_iff_ne, beq_eq_false_iff_ne, ne_eq, Bool.not_eq_true', Bool.not_eq_false', bne_eq_false_iff_eq, Int.not_lt, Int.not_le] at h1)
  · have hil : i < p.places.length := by omega
    obtain ⟨b, o, qv, a1, a2, a3, a4, a5⟩ := hp4.elem hil
    have htk : p.places.take (i + 1) = p.places.take i ++ [p.places[i]] := List.take_succ_eq_append_getElem hil
    have hpl := hl.pcs _ (List.getElem_mem hil)
    have s1 := step1 (show i < 1000000 by omega)
    generalize p.places[i] = x at *
    simp only [plV] at a2
    try simp only [go_sem, ruB, h1', a1, a2, a4.one]
    have hx5 : Ext m4 (m4.new (.cells [.int .i64 x.unit, .int .i64 x.share, .int .i64 x.core, qv] (some 4))) := Ext.new
    have hb5 : Bk (m4.new (.cells [.int .i64 x.unit, .int .i64 x.share, .int .i64 x.core, qv] (some 4))) m4.next [.int .i64 x.unit, .int .i64 x.share, .int .i64 x.core, qv] 4 := Bk.new
    generalize m4.new (.cells [.int .i64 x.unit, .int .i64 x.share, .int .i64 x.core, qv] (some 4)) = m5 at hx5 hb5 ⊢
    try simp only [go_sem, ruB, hb5.at_]
    refine gC.of (Clone_spec (a4.keep hx5) hpl) ?_
    rintro w m6 ⟨hw, hx6⟩
    have hb6 := hb5.keep hx6
    have hw1 := hw.sl.one
    have hwc := hw.sl.cells
    have hge := hw.ge
    have hwl := hw.lt
    have hwp : PcV m6 x.pieces w := ⟨hw.sl, hw.lt⟩
    have hn5 := hx5.next
    have hn4 := hx4.next
    have hb5l := hb5.lt
    have hws : ∃ a n c, w = .slice a n c := by cases hw <;> exact ⟨_, _, _, rfl⟩
    obtain ⟨wa, wn, wc, rfl⟩ := hws
    try simp only [go_sem, ruB, hb6.at_, hw1]
    have hU : Upd m6 (m6.set m4.next (some (.cells [.int .i64 x.unit, .int .i64 x.share, .int .i64 x.core, .slice wa wn wc] (some 4)))) [m4.next] := Upd.set (by simp)
    have hN6 := (hN.keep hx5).keep hx6
    have hN7 : NewPls m2 _ l lv := ⟨hN6.pls.updq hU (fun b hb => by
        have := (SlLt.vb_iff.1 hN.pls.own.lt) b hb; simp; omega) (fun e he b hb => by
        have := (SlLt.vb_iff.1 (hN.pls.el e he).1.2) b hb; simp; omega) (by simp; omega), hN.new⟩
    have hwp7 := hwp.upd hU (fun b hb => by have := hge b hb; simp; omega)
    have hwv : ∀ b ∈ vb (Value.slice wa wn wc), b ∉ vb lv := fun b hb hm => by
      have := hge b hb
      have := (SlLt.vb_iff.1 hN.pls.own.lt) b hm
      omega
    obtain ⟨v', m8, q1, q2⟩ := hN7.pls.app (e := ⟨x, .slice wa wn wc, rfl⟩) hwp7 hwv (by omega)
    rw [show (m6.set m4.next (some (.cells [.int .i64 x.unit, .int .i64 x.share, .int .i64 x.core, Value.slice wa wn wc] (some 4)))).next = m6.next from rfl] at q1
    simp only [peV, plV] at q1
    rw [q1, Got.some]
    try simp only [go_sem, ruB, s1]
    refine ⟨p.places.length - (i + 1), by omega, i + 1, l ++ [⟨x, .slice wa wn wc, rfl⟩], v', by omega, rfl, rfl, ?_, q2, ?_⟩
    · rw [htk, List.map_append, hmp]; rfl
    · intro e he b hb
      rcases List.mem_append.1 he with he | he
      · exact hN.new e he b hb
      · rw [List.mem_singleton.1 he] at hb
        have := hge b hb; omega
  · have hil : i = p.places.length := by omega
    subst hil
    rw [List.take_length] at hmp
    have hlo := hN.pls.own.sl.one
    have hls : ∃ a n c, lv = .slice a n c := by cases hN.pls.own <;> exact ⟨_, _, _, rfl⟩
    obtain ⟨wa, wn, wc, rfl⟩ := hls
    have hne : (m.next = m1.next) = False := hbn
    have hne2 : (m1.next = m.next) = False := eq_false (by omega)
    try simp only [go_sem, ruB, h1', hb14.at_, hlo, hb24.at_, hne, hne2]
    have hX := (hx1.trans hx2)
    have hge := hN.pls.own.ge
    have hNw := hN.weak hX
    have hU : ∀ {m'}, Upd m4 m' [m.next, m1.next] → NewPls m m' l (.slice wa wn wc) := fun hU => ⟨hNw.pls.updq hU (fun b hb => by have := hge b hb; simp; omega) (fun e he b hb => by have := hN.new e he b hb; simp; omega) (by simp; omega), hNw.new⟩
    exact ⟨l, _, rfl, hmp, hU ((Upd.set (fp := [m.next, m1.next]) (by simp)).trans (Upd.set (fp := [m.next, m1.next]) (by simp)) (fun _ h => h) (fun _ h => .inl h))⟩
end Go.Am


/- PlanZ2 over the table of chain (relayset.py). -/
set_option linter.unusedVariables false
set_option linter.unusedSimpArgs false
namespace Go.Am
open Classical
variable {m : Mem}

theorem insert_upd {u by_ : Nat} {m m' : Mem} {v v' : Value} {i : Int} {q : Nat} (h : X.insert u by_ [v, .int .i64 i, .slice (some ⟨q, 0, none⟩) 1 1] m = some (v', m')) :
    Upd m m' (vb v) ∧ (vb v' = vb v ∨ ∃ k, vb v' = [k] ∧ m.next ≤ k) := by
  have key : ∀ x, aApp none u by_ m v x = some (v', m') → Upd m m' (vb v) ∧ (vb v' = vb v ∨ ∃ k, vb v' = [k] ∧ m.next ≤ k) := fun x hx => by
    obtain ⟨a1, a2, a3⟩ := app_updA (M := m.next) hx (fun k hk => by cases hk) (Nat.le_refl _)
    exact ⟨⟨a1, a2⟩, a3⟩
  unfold X.insert at h
  split at h
  · rename_i e
    simp only [List.cons.injEq] at e
    obtain ⟨rfl, -, -⟩ := e
    split at h
    · exact key _ h
    · cases h
  · rename_i e
    simp only [List.cons.injEq] at e
    obtain ⟨rfl, -, -⟩ := e
    split at h
    · exact key _ h
    · split at h
      · split at h
        · cases h
          exact ⟨(Upd.set (by simp [vb])).new_of, .inr ⟨_, rfl, Nat.le_refl _⟩⟩
        · cases h
      · cases h
  · cases h

theorem NewPls.ins {m0 m : Mem} {l : List PE} {v : Value} {e : PE} {q i : Nat} (h : NewPls m0 m l v) (hq : Bk m q (peV e) 4) (hqv : q ∉ vb v) (hp : PcV m e.pl.pieces e.pv) (ho : ∀ b ∈ vb e.pv, b ∉ vb v ∧ m0.next ≤ b) (hl : l.length < 100000) (hi : i ≤ l.length) :
    ∃ v' m', X.insert 4 48 [v, .int .i64 i, .slice (some ⟨q, 0, none⟩) 1 1] m = some (v', m') ∧ NewPls m0 m' (l.take i ++ e :: l.drop i) v' ∧ Upd m m' (vb v) ∧ (vb v' = vb v ∨ ∃ k, vb v' = [k] ∧ m.next ≤ k) := by
  obtain ⟨v', m', e1, e2, e3⟩ := insert_own (u := 4) (by_ := 48) (i := i) h.pls.own h.pls.ext hq hqv rfl (peV_one e) (by omega) (by omega) (by omega) (by omega) hi
  obtain ⟨u1, u2⟩ := insert_upd e1
  have key : ∀ pc pv, PcV m pc pv → (∀ b ∈ vb pv, b ∉ vb v) → PcV m' pc pv ∧ ∀ b ∈ vb pv, b ∉ vb v' := fun pc pv h1 h2 => by
    have hlt := SlLt.vb_iff.1 h1.2
    refine ⟨h1.upd u1 h2, fun b hb hm => ?_⟩
    rcases u2 with e | ⟨k, e, hk⟩
    · rw [e] at hm; exact h2 b hb hm
    · rw [e] at hm
      simp at hm
      have := hlt b hb
      omega
  refine ⟨v', m', e1, ⟨⟨?_, fun x hx' => ?_, e3⟩, fun x hx' => ?_⟩, u1, u2⟩
  · rw [insRow_flat peV_len hi] at e2
    have : (l.take i ++ e :: l.drop i).length = l.length + 1 := by simp; omega
    rw [this]; exact e2
  · rcases List.mem_append.1 hx' with hx' | hx'
    · exact key _ _ (h.pls.el x (List.mem_of_mem_take hx')).1 (h.pls.el x (List.mem_of_mem_take hx')).2
    · rcases List.mem_cons.1 hx' with rfl | hx'
      · exact key _ _ hp fun b hb => (ho b hb).1
      · exact key _ _ (h.pls.el x (List.mem_of_mem_drop hx')).1 (h.pls.el x (List.mem_of_mem_drop hx')).2
  · rcases List.mem_append.1 hx' with hx' | hx'
    · exact h.new x (List.mem_of_mem_take hx')
    · rcases List.mem_cons.1 hx' with rfl | hx'
      · exact fun b hb => (ho b hb).2
      · exact h.new x (List.mem_of_mem_drop hx')

theorem del_spec {m0 : Mem} {l : List PE} {v : Value} {i : Nat} (h : NewPls m0 m l v) (hl : l.length < 100000) (hi : i < l.length) :
    WC R F.slices_Delete_api_Place_api_Place [v, .int .i64 i, .int .i64 (i + 1 : Nat)] m fun r m' => NewPls m0 m' (l.eraseIdx i) r ∧ Upd m m' (vb v) ∧ vb r = vb v := by
  refine WC.mono (pl_Delete1 peV_len peV_one h.pls.own h.pls.ext hl hi) ?_
  rintro r m' ⟨h1, h2, h3, h4⟩
  refine ⟨⟨⟨h1, fun e he => ?_, h2⟩, fun e he => h.new e (List.mem_of_mem_eraseIdx he)⟩, h4, h3⟩
  have := h.pls.el e (List.mem_of_mem_eraseIdx he)
  exact ⟨this.1.upd h4 this.2, by rw [h3]; exact this.2⟩

theorem map_eraseIdx' {α β : Type} {f : α → β} : ∀ {l : List α} {k : Nat}, (l.eraseIdx k).map f = (l.map f).eraseIdx k
  | [], _ => rfl
  | _ :: _, 0 => rfl
  | a :: l, k + 1 => by simp only [List.eraseIdx_cons_succ, List.map_cons, map_eraseIdx']

def dropU (l : List Pl) (u : Int) : List Pl := l.filter fun x => decide (x.unit ≠ u)
theorem dropU_not {l : List Pl} {u : Int} (h : ∀ k (hk : k < l.length), l[k].unit ≠ u) : dropU l u = l := by
  unfold dropU
  rw [List.filter_eq_self]
  intro x hx
  obtain ⟨k, hk, rfl⟩ := List.getElem_of_mem hx
  exact decide_eq_true (h k hk)
theorem dropU_at {l : List Pl} {u : Int} {k : Nat} (ha : Asc l) (hk : k < l.length) (hu : l[k].unit = u) : dropU l u = l.eraseIdx k := by
  have e0 : l = l.take k ++ l[k] :: l.drop (k + 1) := by rw [← List.drop_eq_getElem_cons hk, List.take_append_drop]
  unfold dropU
  rw [List.eraseIdx_eq_take_drop_succ]
  conv => lhs; rw [e0]
  rw [List.filter_append, List.filter_cons, if_neg (by simp [hu]), List.filter_eq_self.2, List.filter_eq_self.2]
  · intro x hx
    obtain ⟨t, ht, rfl⟩ := List.getElem_of_mem hx
    rw [List.getElem_drop]
    rw [List.length_drop] at ht
    have := ha k (k + 1 + t) (by omega) (by omega)
    exact decide_eq_true (by omega)
  · intro x hx
    obtain ⟨t, ht, rfl⟩ := List.getElem_of_mem hx
    rw [List.getElem_take]
    rw [List.length_take] at ht
    have := ha t k (by omega) hk
    exact decide_eq_true (by omega)
theorem Asc.filter {l : List Pl} (h : Asc l) (f : Pl → Bool) : Asc (l.filter f) := by
  have hp : l.Pairwise fun a b => a.unit < b.unit := List.pairwise_iff_getElem.2 fun i j hi hj hij => h i j hij hj
  intro i j hij hj
  exact List.pairwise_iff_getElem.1 (hp.filter f) i j (by omega) hj hij

/-- Stores into boxes leave a row of new blocks. -/
theorem NewPls.box {m0 m m' : Mem} {l : List PE} {v : Value} {fp : List Nat} (h : NewPls m0 m l v) (hx : Upd m m' fp) (h1 : ∀ x ∈ fp, m0.next ≤ x) (h2 : ∀ x ∈ fp, x ∉ vb v) (h3 : ∀ x ∈ fp, ∀ e ∈ l, x ∉ vb e.pv) : NewPls m0 m' l v :=
  ⟨h.pls.updq hx (fun b hb hf => h2 b hf hb) (fun e he b hb hf => h3 b hf e he hb) h1, h.new⟩
/-- Blocks below it, or behind what it was told at. -/
theorem NewPls.out {m0 m : Mem} {l : List PE} {v : Value} (h : NewPls m0 m l v) {x : Nat} (hx : x < m0.next ∨ m.next ≤ x) : x ∉ vb v ∧ ∀ e ∈ l, x ∉ vb e.pv := by
  refine ⟨fun hb => ?_, fun e he hb => ?_⟩
  · have := h.pls.own.ge x hb
    have := (SlLt.vb_iff.1 h.pls.own.lt) x hb
    omega
  · have := h.new e he x hb
    have := (SlLt.vb_iff.1 (h.pls.el e he).1.2) x hb
    omega

theorem plan_of {p : PlanD} {l : List PE} {m0 m : Mem} {lv : Value} (h : NewPls m0 m l lv) : PlanV m ⟨p.frame, p.cores, l.map PE.pl⟩ (.agg #[.int .i64 p.frame, u32 p.cores, lv]) := ⟨lv, rfl, h.pls.pls⟩
theorem slice_of {m0 m : Mem} {u n : Nat} {cs : List Value} {v : Value} (h : Own m0 m u n cs v) : ∃ a n c, v = .slice a n c := by cases h <;> exact ⟨_, _, _, rfl⟩

set_option maxHeartbeats 4000000 in
theorem Drop_spec {p : PlanD} {v : Value} {u : Int} (hv : PlanV m p v) (hl : PlanL p) (hl2 : p.places.length < 100000) (ha : Asc p.places) :
    WC R F.plan_Drop [v, .int .i64 u] m fun r m' => ∃ (l : List PE) (lv : Value), r = .agg (planV p lv).toArray ∧ l.map PE.pl = dropU p.places u ∧ NewPls m m' l lv := by
  refine WC.of R.plan_Drop rfl ?_
  obtain ⟨pv, rfl, hp⟩ := hv
  simp only [RC.plan_Drop, planV, go_sem, hp.one]
  have hx1 : Ext m (m.new (.cells [.int .i64 p.frame, u32 p.cores, pv] (some 3))) := Ext.new
  have hb1 : Bk (m.new (.cells [.int .i64 p.frame, u32 p.cores, pv] (some 3))) m.next [.int .i64 p.frame, u32 p.cores, pv] 3 := Bk.new
  generalize m.new (.cells [.int .i64 p.frame, u32 p.cores, pv] (some 3)) = m1 at hx1 hb1 ⊢
  have hbn := hb1.ne
  try simp only [go_sem, ruB, hb1.at_, hbn]
  have hx2 : Ext m1 (m1.new (.cells [.int .i64 0, u32 0#32, .slice none 0 0] (some 3))) := Ext.new
  have hb2 : Bk (m1.new (.cells [.int .i64 0, u32 0#32, .slice none 0 0] (some 3))) m1.next [.int .i64 0, u32 0#32, .slice none 0 0] 3 := Bk.new
  generalize m1.new (.cells [.int .i64 0, u32 0#32, .slice none 0 0] (some 3)) = m2 at hx2 hb2 ⊢
  have hb12 := hb1.keep hx2
  have hp2 := (hp.keep hx1).keep hx2
  try simp only [go_sem, ruB, hb12.at_]
  refine gC.of (clone_spec (p := p) ⟨pv, rfl, hp2⟩ hl) ?_
  rintro _ m3 ⟨l, lv, rfl, hmp, hN⟩
  have hlo := hN.pls.own.sl.one
  obtain ⟨wa, wn, wc, rfl⟩ := slice_of hN.pls.own
  simp only [planV]
  try simp only [go_sem, ruB, hlo]
  have hx4 : Ext m3 (m3.new (.cells [.int .i64 p.frame, u32 p.cores, .slice wa wn wc] (some 3))) := Ext.new
  have hb4 : Bk (m3.new (.cells [.int .i64 p.frame, u32 p.cores, .slice wa wn wc] (some 3))) m3.next [.int .i64 p.frame, u32 p.cores, .slice wa wn wc] 3 := Bk.new
  generalize m3.new (.cells [.int .i64 p.frame, u32 p.cores, .slice wa wn wc] (some 3)) = m4 at hx4 hb4 ⊢
  have hN4 := hN.keep hx4
  have hx34 := hN.pls.ext
  have hr := (hb2.keep hx34).keep hx4
  try simp only [go_sem, ruB, hb4.at_]
  have hlen : l.length = p.places.length := by rw [← hmp, List.length_map]
  have hP := plan_of (p := p) hN4
  rw [hmp] at hP
  refine gC.of (find_spec (u := u) hP hl.len ha) ?_
  rintro _ m5 ⟨k, ⟨hk1, hk2, hk3⟩, rfl, hx5⟩
  replace hk1 : k ≤ p.places.length := hk1
  replace hk2 : ∀ t (h : t < p.places.length), t < k → p.places[t].unit < u := hk2
  replace hk3 : ∀ t (h : t < p.places.length), k ≤ t → u ≤ p.places[t].unit := hk3
  have hN5 := hN4.keep hx5
  have hb5 := hb4.keep hx5
  have hr5 := hr.keep hx5
  have hnb : m.next + 1 ≤ m1.next ∧ m1.next + 1 ≤ m2.next ∧ m2.next ≤ m3.next ∧ m3.next + 1 ≤ m4.next ∧ m4.next ≤ m5.next := ⟨hb1.lt, hb2.lt, hx34.next, hb4.lt, hx5.next⟩
  have s1 := step1 (show k < 1000000 by omega)
  have hout := hN.out (x := m3.next) (.inr (Nat.le_refl _))
  have hout1 := hN.out (x := m1.next) (.inl (by omega))
  have hX := hx1.trans hx2
  try simp only [go_sem, ruB, aExt0, aExt1]
  refine gT.of (fun h1' => ?_) (fun h1' => ?_) <;> (have h1 := h1'; try simp only [decide_eq_true_eq, decide_eq_false_iff_not, beq_iff_eq, bne_iff_ne, beq_eq_false_iff_ne, ne_eq, Bool.not_eq_true', Bool.not_eq_false', bne_eq_false_iff_eq, Int.not_lt, Int.not_le] at h1)
  · obtain ⟨hkl, hku⟩ : isAt p.places u k := by simpa using h1'
    have hd := dropU_at ha hkl hku
    try simp only [go_sem, ruB, h1', hb5.at_, s1]
    refine gC.of (del_spec (i := k) hN5 (by omega) (by omega)) ?_
    rintro rv m6 ⟨hN6, hU6, hvb⟩
    obtain ⟨xa, xn, xc, rfl⟩ := slice_of hN6.pls.own
    have hb6 := hb5.upd hU6 hout.1
    have hr6 := hr5.upd hU6 hout1.1
    have hne : (m3.next = m1.next) = False := eq_false (by omega)
    have hne2 : (m1.next = m3.next) = False := eq_false (by omega)
    have hlo6 := hN6.pls.own.sl.one
    try simp only [go_sem, ruB, hb6.at_, hlo6, hr6.at_, hne, hne2]
    refine ⟨l.eraseIdx k, _, rfl, ?_, ?_⟩
    · rw [hd, ← hmp, map_eraseIdx']
    · refine (hN6.weak hX).box (fp := [m3.next, m1.next]) ((Upd.set (fp := [m3.next, m1.next]) (by simp)).trans (Upd.set (fp := [m3.next, m1.next]) (by simp)) (fun _ h => h) (fun _ h => .inl h)) (by simp; omega) ?_ ?_
      · rw [hvb]; simp; exact ⟨hout.1, hout1.1⟩
      · intro x hx e he
        have he := List.mem_of_mem_eraseIdx he
        simp at hx
        rcases hx with rfl | rfl
        · exact hout.2 e he
        · exact hout1.2 e he
  · have hno : ¬ isAt p.places u k := by simpa using h1'
    have hd : dropU p.places u = p.places := dropU_not fun t ht e => by
      have : t = k := by
        rcases Nat.lt_trichotomy t k with g | g | g
        · have := hk2 t ht g; omega
        · exact g
        · have h1 := hk3 k (by omega) (Nat.le_refl _)
          have := ha k t g ht
          omega
      subst this; exact hno ⟨ht, e⟩
    try simp only [go_sem, ruB, h1', hb5.at_, hr5.at_]
    refine ⟨l, _, rfl, by rw [hd, hmp], ?_⟩
    refine (hN5.weak hX).box (fp := [m1.next]) (Upd.set (by simp)) (by simp; omega) (by simpa using hout1.1) ?_
    intro x hx e he
    simp at hx; subst hx
    exact hout1.2 e he
end Go.Am


/- PlanZ3 over the table of chain (relayset.py). -/
set_option linter.unusedVariables false
set_option linter.unusedSimpArgs false
namespace Go.Am
open Classical
variable {m : Mem}

set_option maxHeartbeats 4000000 in
theorem Put_spec {p : PlanD} {x : Pl} {v xv : Value} (hv : PlanV m p v) (hl : PlanL p) (hl2 : p.places.length < 100000) (ha : Asc p.places) (hxv : PlV m x xv) (hxl : x.pieces.length < 1000000) :
    WC R F.plan_Put [v, xv] m fun r m' => ∃ (l : List PE) (lv : Value) (k : Nat), r = .agg (planV p lv).toArray ∧ atU (dropU p.places x.unit) x.unit k ∧ l.map PE.pl = (dropU p.places x.unit).take k ++ x :: (dropU p.places x.unit).drop k ∧ NewPls m m' l lv := by
  refine WC.of R.plan_Put rfl ?_
  obtain ⟨pv, rfl, hp⟩ := hv
  obtain ⟨qv, rfl, hq⟩ := hxv
  simp only [RC.plan_Put, planV, plV, go_sem, hp.one, hq.one]
  have hx1 : Ext m (m.new (.cells [.int .i64 p.frame, u32 p.cores, pv] (some 3))) := Ext.new
  have hb1 : Bk (m.new (.cells [.int .i64 p.frame, u32 p.cores, pv] (some 3))) m.next [.int .i64 p.frame, u32 p.cores, pv] 3 := Bk.new
  generalize m.new (.cells [.int .i64 p.frame, u32 p.cores, pv] (some 3)) = m1 at hx1 hb1 ⊢
  have hbn := hb1.ne
  have hx2 : Ext m1 (m1.new (.cells [.int .i64 x.unit, .int .i64 x.share, .int .i64 x.core, qv] (some 4))) := Ext.new
  have hb2 : Bk (m1.new (.cells [.int .i64 x.unit, .int .i64 x.share, .int .i64 x.core, qv] (some 4))) m1.next [.int .i64 x.unit, .int .i64 x.share, .int .i64 x.core, qv] 4 := Bk.new
  generalize m1.new (.cells [.int .i64 x.unit, .int .i64 x.share, .int .i64 x.core, qv] (some 4)) = m2 at hx2 hb2 ⊢
  have hb12 := hb1.keep hx2
  have hbn1 := hb12.ne
  have hbn2 := hb2.ne
  have hx3 : Ext m2 (m2.new (.cells [.int .i64 0, u32 0#32, .slice none 0 0] (some 3))) := Ext.new
  have hb3 : Bk (m2.new (.cells [.int .i64 0, u32 0#32, .slice none 0 0] (some 3))) m2.next [.int .i64 0, u32 0#32, .slice none 0 0] 3 := Bk.new
  generalize m2.new (.cells [.int .i64 0, u32 0#32, .slice none 0 0] (some 3)) = m3 at hx3 hb3 ⊢
  have hb13 := hb12.keep hx3
  have hb23 := hb2.keep hx3
  have hp3 := ((hp.keep hx1).keep hx2).keep hx3
  have hq3 := ((hq.keep hx1).keep hx2).keep hx3
  try simp only [go_sem, ruB, hb13.at_, hb23.at_]
  refine gC.of (Drop_spec (p := p) (u := x.unit) ⟨pv, rfl, hp3⟩ hl hl2 ha) ?_
  rintro _ m4 ⟨l, lv, rfl, hmp, hN⟩
  have hlo := hN.pls.own.sl.one
  obtain ⟨wa, wn, wc, rfl⟩ := slice_of hN.pls.own
  have hx34 := hN.pls.ext
  have hb24 := hb23.keep hx34
  have hb34 := hb3.keep hx34
  have hn3 := hb24.ne
  have hn4 := hb34.ne
  simp only [planV]
  try simp only [go_sem, ruB, hlo, hb24.at_, hn3, hn4]
  have hx5 : Ext m4 (m4.new (.cells [.int .i64 p.frame, u32 p.cores, .slice wa wn wc] (some 3))) := Ext.new
  have hb5 : Bk (m4.new (.cells [.int .i64 p.frame, u32 p.cores, .slice wa wn wc] (some 3))) m4.next [.int .i64 p.frame, u32 p.cores, .slice wa wn wc] 3 := Bk.new
  generalize m4.new (.cells [.int .i64 p.frame, u32 p.cores, .slice wa wn wc] (some 3)) = m5 at hx5 hb5 ⊢
  have hN5 := hN.keep hx5
  have hb25 := hb24.keep hx5
  have hb35 := hb34.keep hx5
  try simp only [go_sem, ruB, hb5.at_, hb25.at_]
  have hP := plan_of (p := p) hN5
  rw [hmp] at hP
  have hdl : (dropU p.places x.unit).length ≤ p.places.length := List.length_filter_le ..
  have hll : l.length = (dropU p.places x.unit).length := by rw [← hmp, List.length_map]
  refine gC.of (find_spec (u := x.unit) hP (by show (dropU p.places x.unit).length < 1000000; omega) (ha.filter _)) ?_
  rintro _ m6 ⟨k, hat, rfl, hx6⟩
  replace hat : atU (dropU p.places x.unit) x.unit k := hat
  have hkl : k ≤ l.length := by rw [hll]; exact hat.1
  have hN6 := hN5.keep hx6
  have hb26 := hb25.keep hx6
  have hb36 := hb35.keep hx6
  have hb56 := hb5.keep hx6
  have hq6 := ((hq3.keep hx34).keep hx5).keep hx6
  try simp only [go_sem, ruB, aExt0, aExt1, hb26.at_]
  refine gC.of (Clone_spec hq6 hxl) ?_
  rintro w m7 ⟨hw, hx7⟩
  have hw1 := hw.sl.one
  have hge := hw.ge
  have hwp : PcV m7 x.pieces w := ⟨hw.sl, hw.lt⟩
  obtain ⟨ya, yn, yc, rfl⟩ := slice_of hw
  have hb27 := hb26.keep hx7
  have hb37 := hb36.keep hx7
  have hb57 := hb56.keep hx7
  have hnb : m.next + 1 ≤ m1.next ∧ m1.next + 1 ≤ m2.next ∧ m2.next + 1 ≤ m3.next ∧ m3.next ≤ m4.next ∧ m4.next + 1 ≤ m5.next ∧ m5.next ≤ m6.next ∧ m6.next ≤ m7.next := ⟨hb1.lt, hb2.lt, hb3.lt, hx34.next, hb5.lt, hx6.next, hx7.next⟩
  have ne1 : (m1.next = m4.next) = False := eq_false (by omega)
  have ne2 : (m4.next = m1.next) = False := eq_false (by omega)
  have ne3 : (m2.next = m4.next) = False := eq_false (by omega)
  have ne4 : (m4.next = m2.next) = False := eq_false (by omega)
  try simp only [go_sem, ruB, hb27.at_, hw1, hb57.at_, ne1, ne2]
  have hN7 := (hN6.keep hx7).weak ((hx1.trans hx2).trans hx3)
  have ho1 := hN.out (x := m1.next) (.inl (by omega))
  have ho2 := hN.out (x := m2.next) (.inl (by omega))
  have ho4 := hN.out (x := m4.next) (.inr (Nat.le_refl _))
  have ho7 := hN.out (x := m7.next) (.inr (by omega))
  have hU8 : Upd m7 (m7.set m1.next (some (.cells [.int .i64 x.unit, .int .i64 x.share, .int .i64 x.core, .slice ya yn yc] (some 4)))) [m1.next] := Upd.set (by simp)
  have hN8 := hN7.box hU8 (by simp; omega) (by simpa using ho1.1) (fun b hb e he => by simp at hb; subst hb; exact ho1.2 e he)
  have hwp8 := hwp.upd hU8 (fun b hb => by have := hge b hb; simp; omega)
  have hb58 := hb57.upd hU8 (by simp; omega)
  have hb38 := hb37.upd hU8 (by simp; omega)
  have hn8 : (m7.set m1.next (some (.cells [.int .i64 x.unit, .int .i64 x.share, .int .i64 x.core, .slice ya yn yc] (some 4)))).next = m7.next := rfl
  generalize m7.set m1.next (some (.cells [.int .i64 x.unit, .int .i64 x.share, .int .i64 x.core, .slice ya yn yc] (some 4))) = m8 at hU8 hN8 hwp8 hb58 hb38 hn8 ⊢
  rw [← hn8]
  have hx9 : Ext m8 (m8.new (.cells [.int .i64 x.unit, .int .i64 x.share, .int .i64 x.core, .slice ya yn yc] (some 4))) := Ext.new
  have hb9 : Bk (m8.new (.cells [.int .i64 x.unit, .int .i64 x.share, .int .i64 x.core, .slice ya yn yc] (some 4))) m8.next [.int .i64 x.unit, .int .i64 x.share, .int .i64 x.core, .slice ya yn yc] 4 := Bk.new
  generalize m8.new (.cells [.int .i64 x.unit, .int .i64 x.share, .int .i64 x.core, .slice ya yn yc] (some 4)) = m9 at hx9 hb9 ⊢
  have hN9 := hN8.keep hx9
  have hlt : ∀ b ∈ vb (Value.slice wa wn wc), b < m4.next := SlLt.vb_iff.1 hN.pls.own.lt
  obtain ⟨v', m10, q1, q2, q3, q4⟩ := hN9.ins (e := ⟨x, .slice ya yn yc, rfl⟩) (q := m8.next) (i := k) hb9 (by rw [hn8]; exact ho7.1) (hwp8.keep hx9)
    (fun b hb => ⟨fun hm => by have := hge b hb; have := hlt b hm; omega, by have := hge b hb; omega⟩) (by omega) hkl
  refine gC.of (WC.ext (Q := fun v'' m'' => v'' = v' ∧ m'' = m10) R.slices_Insert_api_Place_api_Place (v := v') (m' := m10) q1 ⟨rfl, rfl⟩) ?_
  rintro _ _ ⟨rfl, rfl⟩
  have hb510 := (hb58.keep hx9).upd q3 ho4.1
  have hb310 := (hb38.keep hx9).upd q3 ho2.1
  have hlo10 := q2.pls.own.sl.one
  obtain ⟨za, zn, zc, rfl⟩ := slice_of q2.pls.own
  try simp only [go_sem, ruB, hb510.at_, hlo10, hb310.at_, ne3, ne4]
  refine ⟨l.take k ++ ⟨x, .slice ya yn yc, rfl⟩ :: l.drop k, _, k, rfl, hat, ?_, ?_⟩
  rotate_left
  · have hn9 := hb9.lt
    have hz : ∀ b ∈ vb (Value.slice za zn zc), b ∈ vb (Value.slice wa wn wc) ∨ m9.next ≤ b := by
      intro b hb
      rcases q4 with e | ⟨k, e, hk⟩
      · rw [e] at hb; exact .inl hb
      · rw [e] at hb; simp at hb; subst hb; exact .inr hk
    refine q2.box (fp := [m4.next, m2.next]) ((Upd.set (fp := [m4.next, m2.next]) (by simp)).trans (Upd.set (fp := [m4.next, m2.next]) (by simp)) (fun _ h => h) (fun _ h => .inl h)) (by simp; omega) ?_ ?_
    · intro b hb hm
      simp at hb
      rcases hz b hm with h | h
      · rcases hb with rfl | rfl
        · exact ho4.1 h
        · exact ho2.1 h
      · omega
    · intro b hb e he hm
      simp at hb
      have hmem : e ∈ l ∨ e = ⟨x, .slice ya yn yc, rfl⟩ := by
        rcases List.mem_append.1 he with he | he
        · exact .inl (List.mem_of_mem_take he)
        · rcases List.mem_cons.1 he with he | he
          · exact .inr he
          · exact .inl (List.mem_of_mem_drop he)
      rcases hmem with h | rfl
      · rcases hb with rfl | rfl
        · exact ho4.2 e h hm
        · exact ho2.2 e h hm
      · have := hge b hm
        omega
  · rw [List.map_append, List.map_cons, List.map_take, List.map_drop, hmp]
end Go.Am


/- PlanZ4 over the table of chain (relayset.py). -/
set_option linter.unusedVariables false
set_option linter.unusedSimpArgs false
namespace Go.Am
open Classical
variable {m : Mem}

/-- A row of places as it lies. -/
structure RowE (m : Mem) (l : List PE) (v : Value) : Prop where
  sl : Sl m 4 l.length (l.flatMap peV) v
  lt : SlLt m v
theorem RowE.keep {m m' : Mem} {l : List PE} {v : Value} (h : RowE m l v) (hx : Ext m m') : RowE m' l v := ⟨h.sl.keep h.lt hx, h.lt.keep hx⟩
theorem RowE.upd {m m' : Mem} {l : List PE} {v : Value} {fp : List Nat} (h : RowE m l v) (hx : Upd m m' fp) (ho : ∀ b ∈ vb v, b ∉ fp) : RowE m' l v := ⟨h.sl.upd h.lt (SlOff.vb_iff.2 ho) hx, h.lt.upd hx⟩
theorem RowE.slice {m : Mem} {l : List PE} {v : Value} (h : RowE m l v) : ∃ a n c, v = .slice a n c := by cases h.sl <;> exact ⟨_, _, _, rfl⟩
theorem Own.rowE {m0 m : Mem} {l : List PE} {v : Value} (h : Own m0 m 4 l.length (l.flatMap peV) v) : RowE m l v := ⟨h.sl, h.lt⟩
/-- The places behind a row as it lies. -/
theorem RowE.pls {m : Mem} {l : List PE} {v : Value} (h : RowE m l v) (hp : ∀ e ∈ l, PcV m e.pl.pieces e.pv) : PlsV m (l.map PE.pl) v := by
  refine ⟨l.flatMap peV, by rw [List.length_map]; exact h.sl, h.lt, fun i hi => ?_⟩
  have hi' : i < l.length := by simpa using hi
  refine ⟨l[i].pv, ?_, ?_⟩
  · rw [flat_drop peV_len hi']; simp [peV]
  · have := hp _ (List.getElem_mem hi')
    simpa using this
def dropE (l : List PE) (u : Int) : List PE := l.filter fun e => decide (e.pl.unit ≠ u)
theorem dropE_map {l : List PE} {u : Int} : (dropE l u).map PE.pl = dropU (l.map PE.pl) u := by
  unfold dropE dropU
  rw [List.filter_map]; rfl

end Go.Am


/- PlanZ5 over the table of chain (relayset.py). -/
set_option linter.unusedVariables false
set_option linter.unusedSimpArgs false
namespace Go.Am
open Classical
variable {m : Mem}

def cutE (l : List PE) (u : Int) (k : Nat) : Prop := k ≤ l.length ∧ (∀ t (h : t < l.length), t < k → l[t].pl.unit < u) ∧ ∀ h : k < l.length, ¬ l[k].pl.unit < u

end Go.Am


/- Chains, in plain Lean: tick by tick, and piece by piece. -/
set_option linter.unusedVariables false
set_option linter.unusedSimpArgs false
namespace Go.Am
open Classical

/-- The first core that has room. -/
def fz (r : List Int) : Nat := r.findIdx fun x => decide (x ≠ 0)
theorem fz_le {r : List Int} : fz r ≤ r.length := List.findIdx_le_length
theorem fz_before {r : List Int} {i : Nat} (h : i < fz r) : r.getD i 0 = 0 := by
  have hl : i < r.length := Nat.lt_of_lt_of_le h fz_le
  have := List.not_of_lt_findIdx h
  simp at this
  simp [List.getD, hl, this]
theorem fz_at {r : List Int} (h : fz r < r.length) : r.getD (fz r) 0 ≠ 0 := by
  have := List.findIdx_getElem (w := h) (xs := r) (p := fun x => decide (x ≠ 0))
  have this := of_decide_eq_true this
  unfold fz at *
  simp only [List.getD, List.getElem?_eq_getElem h, Option.getD_some]
  exact this
theorem fz_eq {r : List Int} {c : Nat} (hc : c < r.length) (h0 : ∀ i, i < c → r.getD i 0 = 0) (h1 : r.getD c 0 ≠ 0) : fz r = c := by
  unfold fz
  rw [List.findIdx_eq hc]
  simp only [List.getD, List.getElem?_eq_getElem hc, Option.getD_some] at h1
  refine ⟨by simpa using h1, fun j hj => ?_⟩
  have := h0 j hj
  simp only [List.getD, List.getElem?_eq_getElem (show j < r.length by omega), Option.getD_some] at this
  simp [this]
/-- The chain's state, and the pieces of the unit that is placed. -/
structure Ch where
  r : List Int
  t : Int
  ps : List Pc
def addP (ps : List Pc) (c : Int) (t : Int) : List Pc :=
  match ps.getLast? with
  | some y => if y.1 = c then ps.dropLast ++ [(c, withB y.2 t)] else ps ++ [(c, withB 0#64 t)]
  | none => [(c, withB 0#64 t)]
theorem addP_new {ps : List Pc} {c t : Int} (h : ∀ y ∈ ps, y.1 ≠ c) : addP ps c t = ps ++ [(c, withB 0#64 t)] := by
  unfold addP
  cases e : ps.getLast? with
  | none => rw [List.getLast?_eq_none_iff.1 e]; rfl
  | some y =>
    have := h y (List.mem_of_getLast? e)
    simp only []
    rw [if_neg this]
theorem addP_old {ps : List Pc} {c t : Int} {w : BitVec 64} : addP (ps ++ [(c, w)]) c t = ps ++ [(c, withB w t)] := by
  unfold addP
  rw [List.getLast?_concat]
  simp only []
  rw [if_pos trivial, List.dropLast_concat]
def stC (f : Int) (s : Ch) : Ch := ⟨s.r.set (fz s.r) (s.r.getD (fz s.r) 0 - 1), (s.t + 1) % f, addP s.ps (fz s.r : Nat) s.t⟩
def stN (f : Int) : Nat → Ch → Ch
  | 0, s => s
  | n + 1, s => stC f (stN f n s)
theorem stN_add {f : Int} {a : Nat} : ∀ {b : Nat} {s : Ch}, stN f (a + b) s = stN f b (stN f a s)
  | 0, s => rfl
  | b + 1, s => by show stC f (stN f (a + b) s) = stC f (stN f b (stN f a s)); rw [stN_add]
theorem set_getD {r : List Int} {c i : Nat} {x : Int} (hc : c < r.length) : (r.set c x).getD i 0 = if i = c then x else r.getD i 0 := by
  simp only [List.getD, List.getElem?_set]
  by_cases e : c = i
  · subst e; simp [hc]
  · rw [if_neg e, if_neg (Ne.symm e)]
/-- A piece: so many ticks of one core. -/
theorem stN_piece {f : Int} (hf : 2 ≤ f ∧ f ≤ 64) {r : List Int} {t : Int} {ps : List Pc} (ht : 0 ≤ t ∧ t < f) (hc : fz r < r.length) (hp : ∀ y ∈ ps, y.1 ≠ ((fz r : Nat) : Int)) : ∀ {n : Nat}, (n : Int) + 1 ≤ r.getD (fz r) 0 →
    stN f (n + 1) ⟨r, t, ps⟩ = ⟨r.set (fz r) (r.getD (fz r) 0 - ((n + 1 : Nat) : Int)), (t + ((n + 1 : Nat) : Int)) % f, ps ++ [(((fz r : Nat) : Int), roundW f t (n + 1))]⟩
  | 0, h => by
    show stC f ⟨r, t, ps⟩ = _
    unfold stC
    simp only []
    rw [addP_new hp]
    have : roundW f t (0 + 1) = withB 0#64 t := by
      simp only [roundW]
      have : ((0 : Nat) : Int) + t = t := by omega
      rw [this, Int.emod_eq_of_lt ht.1 ht.2]
    rw [this]; rfl
  | n + 1, h => by
    have ih := @stN_piece f hf r t ps ht hc hp n (by omega)
    show stC f (stN f (n + 1) ⟨r, t, ps⟩) = _
    rw [ih]
    have hz : fz (r.set (fz r) (r.getD (fz r) 0 - ((n + 1 : Nat) : Int))) = fz r := fz_eq (by rw [List.length_set]; exact hc) (fun i hi => by rw [set_getD hc, if_neg (by omega)]; exact fz_before hi) (by rw [set_getD hc, if_pos rfl]; omega)
    unfold stC
    simp only []
    rw [hz, set_getD hc, if_pos rfl, List.set_set, addP_old]
    congr 1
    · congr 1; omega
    · rw [Int.emod_add_emod]; congr 1; omega
    · have : roundW f t (n + 1 + 1) = withB (roundW f t (n + 1)) ((((n + 1 : Nat) : Int) + t) % f) := rfl
      rw [this, Int.add_comm]
/-- A want's place, and the rest of the chain. -/
def plcC (f : Int) (r : List Int) (t : Int) (w : Wt) : Pl × List Int × Int :=
  if w.2 ≤ r.getD (fz r) 0 then (⟨w.1, w.2, (fz r : Nat), []⟩, r.set (fz r) (r.getD (fz r) 0 - w.2), t)
  else (⟨w.1, w.2, 0, (stN f w.2.toNat ⟨r, t, []⟩).ps⟩, (stN f w.2.toNat ⟨r, t, []⟩).r, (stN f w.2.toNat ⟨r, t, []⟩).t)
/-- A place is put in. -/
def putP (l : List Pl) (x : Pl) : List Pl := (dropU l x.unit).takeWhile (fun y => decide (y.unit < x.unit)) ++ x :: (dropU l x.unit).dropWhile (fun y => decide (y.unit < x.unit))
/-- The chain, and the plan's row. -/
structure Cn where
  r : List Int
  t : Int
  q : List Pl
def stpC (f : Int) (s : Cn) (w : Wt) : Cn := ⟨(plcC f s.r s.t w).2.1, (plcC f s.r s.t w).2.2, putP s.q (plcC f s.r s.t w).1⟩
def chF (f : Int) (s : Cn) (l : List Wt) : Cn := l.foldl (stpC f) s
theorem chF_succ {f : Int} {s : Cn} {l : List Wt} {i : Nat} (h : i < l.length) : chF f s (l.take (i + 1)) = stpC f (chF f s (l.take i)) l[i] := by
  unfold chF; rw [List.take_succ_eq_append_getElem h, List.foldl_append]; rfl
theorem sum_set {r : List Int} {c : Nat} {x : Int} (hc : c < r.length) : (r.set c x).sum = r.sum - r.getD c 0 + x := by
  induction r generalizing c with
  | nil => simp at hc
  | cons a r ih =>
    cases c with
    | zero => simp; omega
    | succ c => simp only [List.set_cons_succ, List.sum_cons]; rw [ih (by simpa using hc)]; simp; omega
theorem sum_fz {r : List Int} (h : 0 < r.sum) : fz r < r.length := by
  by_cases g : fz r < r.length
  · exact g
  · exfalso
    have hz : ∀ i, i < r.length → r.getD i 0 = 0 := fun i hi => fz_before (by omega)
    have : ∀ (l : List Int), (∀ i, i < l.length → l.getD i 0 = 0) → l.sum = 0 := by
      intro l
      induction l with
      | nil => intro _; rfl
      | cons a l ih =>
        intro hl
        have h0 := hl 0 (by simp)
        simp at h0
        rw [List.sum_cons, ih fun i hi => by have := hl (i + 1) (by simpa using hi); simpa using this]; omega
    rw [this r hz] at h
    omega
structure ChOk (f : Int) (r : List Int) (t : Int) : Prop where
  l : r.length = 16
  n : ∀ i, 0 ≤ r.getD i 0 ∧ r.getD i 0 ≤ 64
  t : 0 ≤ t ∧ t < f
theorem stC_ok {f : Int} {s : Ch} (hf : 2 ≤ f) (h : ChOk f s.r s.t) (hs : 0 < s.r.sum) : ChOk f (stC f s).r (stC f s).t ∧ (stC f s).r.sum = s.r.sum - 1 := by
  have hc := sum_fz hs
  have h1 := fz_at hc
  have h2 := h.n (fz s.r)
  refine ⟨⟨by show (List.set _ _ _).length = 16; rw [List.length_set, h.l], fun i => ?_, Int.emod_nonneg _ (by omega), Int.emod_lt_of_pos _ (by omega)⟩, ?_⟩
  · show 0 ≤ (List.set _ _ _).getD i 0 ∧ _
    unfold stC
    simp only []
    rw [set_getD hc]
    have := h.n i
    split <;> omega
  · show (List.set _ _ _).sum = _
    rw [sum_set hc]; omega
theorem stN_ok {f : Int} (hf : 2 ≤ f) : ∀ {n : Nat} {s : Ch}, ChOk f s.r s.t → (n : Int) ≤ s.r.sum → ChOk f (stN f n s).r (stN f n s).t ∧ (stN f n s).r.sum = s.r.sum - n
  | 0, s, h, _ => ⟨h, by show s.r.sum = _; omega⟩
  | n + 1, s, h, hs => by
    obtain ⟨h1, h2⟩ := @stN_ok f hf n s h (by omega)
    obtain ⟨h3, h4⟩ := stC_ok hf h1 (by omega)
    exact ⟨h3, by show (stC f (stN f n s)).r.sum = _; rw [h4, h2]; omega⟩
theorem plcC_ok {f : Int} {r : List Int} {t : Int} {w : Wt} (hf : 2 ≤ f) (h : ChOk f r t) (hw : 1 ≤ w.2) (hs : w.2 ≤ r.sum) : ChOk f (plcC f r t w).2.1 (plcC f r t w).2.2 ∧ (plcC f r t w).2.1.sum = r.sum - w.2 := by
  unfold plcC
  by_cases g : w.2 ≤ r.getD (fz r) 0
  · rw [if_pos g]
    have hc := sum_fz (r := r) (by omega)
    refine ⟨⟨by show (List.set _ _ _).length = 16; rw [List.length_set, h.l], fun i => ?_, h.t⟩, ?_⟩
    · show 0 ≤ (List.set _ _ _).getD i 0 ∧ (List.set _ _ _).getD i 0 ≤ 64
      rw [set_getD hc]
      have h3 := h.n i
      have h4 := h.n (fz r)
      split
      · omega
      · omega
    · show (r.set (fz r) (r.getD (fz r) 0 - w.2)).sum = _
      rw [sum_set hc]; omega
  · rw [if_neg g]
    have := @stN_ok f hf w.2.toNat ⟨r, t, []⟩ h (show ((w.2.toNat : Nat) : Int) ≤ r.sum by omega)
    refine ⟨this.1, ?_⟩
    show (stN f w.2.toNat ⟨r, t, []⟩).r.sum = _
    rw [this.2]
    show r.sum - ((w.2.toNat : Nat) : Int) = _
    omega
end Go.Am


/- Chains: on, take. -/
set_option linter.unusedVariables false
set_option linter.unusedSimpArgs false
namespace Go.Am
open Classical
variable {m : Mem}

theorem watch_nil {e : Env} {m m' : Mem} : watchOk e m m' [] = True := rfl
theorem watch_one {e : Env} {m m' : Mem} {x : Nat} {r : List Nat} : watchOk e m m' (x :: r) = ((match Env.get e x with | some v => (match blkOf v with | some b => m'.blk b = m.blk b | none => True) | none => False) ∧ watchOk e m m' r) := rfl
theorem blk_ptr {a : Addr} : blkOf (.pointer (some a)) = some a.block := rfl
/-- A chain as it lies. -/
structure ChV (m0 m : Mem) (b : Nat) (rv : Value) (f : Int) (r : List Int) (k : Nat) (t : Int) : Prop where
  bk : Bk m b [.int .i64 f, rv, .int .i64 k, .int .i64 t] 4
  rm : Own m0 m 1 16 (intsZ r) rv
  b0 : m0.next ≤ b
  off : b ∉ vb rv
  kz : ∀ i, i < k → r.getD i 0 = 0
  k16 : k ≤ 16
  ln : r.length = 16
theorem ChV.keep {m0 m m' : Mem} {b : Nat} {rv : Value} {f : Int} {r : List Int} {k : Nat} {t : Int} (h : ChV m0 m b rv f r k t) (hx : Ext m m') : ChV m0 m' b rv f r k t := ⟨h.bk.keep hx, h.rm.keep hx, h.b0, h.off, h.kz, h.k16, h.ln⟩
theorem ChV.upd {m0 m m' : Mem} {b : Nat} {rv : Value} {f : Int} {r : List Int} {k : Nat} {t : Int} {fp : List Nat} (h : ChV m0 m b rv f r k t) (hx : Upd m m' fp) (h1 : b ∉ fp) (h2 : ∀ x ∈ vb rv, x ∉ fp) : ChV m0 m' b rv f r k t := ⟨h.bk.upd hx h1, h.rm.updq hx h2, h.b0, h.off, h.kz, h.k16, h.ln⟩
theorem intsZ_getI {l : List Int} {i : Nat} (h : i < l.length) : (intsZ l)[i]? = some (.int .i64 (l.getD i 0)) := by
  unfold intsZ; rw [List.getElem?_map, List.getElem?_eq_getElem h]
  simp [List.getD, h]
theorem ChV.get {m0 m : Mem} {b : Nat} {rv : Value} {f : Int} {r : List Int} {k : Nat} {t : Int} (h : ChV m0 m b rv f r k t) {i : Nat} (hi : i < 16) : ∃ p, aIdxS 1 rv (.int .i64 (i : Nat)) = some p ∧ aLoad false 1 m p = some (.int .i64 (r.getD i 0)) := by
  obtain ⟨p, a1, a2⟩ := h.rm.sl.get (k := .i64) (i := i) hi
  exact ⟨p, a1, by rw [a2, intsZ_getI (by rw [h.ln]; exact hi)]⟩
theorem fz_ge {r : List Int} {k : Nat} (h : ∀ i, i < k → r.getD i 0 = 0) (hk : k ≤ r.length) : k ≤ fz r := by
  by_cases g : k ≤ fz r
  · exact g
  · exact absurd (h (fz r) (by omega)) (fz_at (by omega))
set_option maxHeartbeats 2000000 in
theorem on_spec {m0 : Mem} {b : Nat} {rv : Value} {f : Int} {r : List Int} {k : Nat} {t : Int} (h : ChV m0 m b rv f r k t) : WC R F.chain_chain_on [pt b] m fun v m' => v = .tuple #[] ∧ ChV m0 m' b rv f r (fz r) t ∧ Upd m m' [b] := by
  refine WC.of R.chain_chain_on rfl ?_
  simp only [RC.chain_chain_on, pt, go_sem]
  refine WL.of (fun n e m' => ∃ j : Nat, j ≤ fz r ∧ n = fz r - j ∧ e = [(0, pt b)] ∧ ChV m0 m' b rv f r j t ∧ Upd m m' [b]) (fz r - k)
    ⟨k, fz_ge h.kz (by rw [h.ln]; exact h.k16), rfl, by simp only [pt, go_sem] <;> rfl, h, Upd.refl _ _⟩ ?_
  rintro _ _ m1 ⟨j, hj, rfl, rfl, h1, hu⟩
  have hf := fz_le (r := r)
  rw [h.ln] at hf
  have w1 : IntKind.wrap .i64 (((j : Nat) : Int) + 1) = ((j + 1 : Nat) : Int) := by rw [wrap_i64 (by omega) (by omega)]; rfl
  simp only [RB.chain_chain_on_1, pt, go_sem]
  by_cases g : j < 16
  rotate_left
  · have e1 : decide (((j : Nat) : Int) < 16) = false := decide_eq_false (by omega)
    have hjf : fz r = j := by omega
    rw [hjf]
    try simp only [go_sem, ruB, h1.bk.at_, h1.rm.sl.len, e1]
    exact ⟨h1, hu⟩
  have e1 : decide (((j : Nat) : Int) < 16) = true := decide_eq_true (by omega)
  obtain ⟨p, a1, a2⟩ := h1.get g
  by_cases g0 : r.getD j 0 = 0
  · have e2 : (r.getD j 0 == 0) = true := by rw [beq_iff_eq]; exact g0
    have hlt : j < fz r := by
      by_cases e : j = fz r
      · subst e; exact absurd g0 (fz_at (by rw [h.ln]; exact g))
      · omega
    try simp only [go_sem, ruB, h1.bk.at_, h1.rm.sl.len, e1, a1, a2, e2, w1]
    have hU : Upd m1 (m1.set b (some (.cells [.int .i64 f, rv, .int .i64 ((j + 1 : Nat) : Int), .int .i64 t] (some 4)))) [b] := Upd.set (by simp)
    refine ⟨fz r - (j + 1), by omega, j + 1, by omega, rfl, ⟨⟨by simp [Mem.set], h1.bk.lt⟩, h1.rm.updq hU (fun x hx hm => ?_), h1.b0, h1.off, fun i hi => fz_before (by omega), by omega, h1.ln⟩, hu.sameF hU⟩
    rw [List.mem_singleton] at hm
    exact h1.off (hm ▸ hx)
  · have e2 : (r.getD j 0 == 0) = false := by rw [beq_eq_false_iff_ne]; exact g0
    have hjf : fz r = j := fz_eq (by rw [h.ln]; exact g) h1.kz g0
    rw [hjf]
    try simp only [go_sem, ruB, h1.bk.at_, h1.rm.sl.len, e1, a1, a2, e2]
    exact ⟨h1, hu⟩

theorem Round_spec {f t : Int} {n : Nat} (hf : 2 ≤ f ∧ f ≤ 64) (hn : (n : Int) ≤ f) : WC R F.mask_Round [.int .i64 f, .int .i64 t, .int .i64 (n : Nat)] m fun v m' => v = u64 (roundW f t n) ∧ m' = m := by
  refine WC.mono mask_Round_spec ?_
  rintro _ _ ⟨rfl, hm⟩
  refine ⟨?_, hm⟩
  have e1 : fr f = f := by unfold fr; omega
  rw [round_turn', e1]
  have e2 : (min (max ((n : Nat) : Int) 0) f).toNat = n := by omega
  rw [e2]
theorem kfill_p {a : Int} {w : BitVec 64} : fillL [.int .i64 0, u64 0#64] [(0, 1, .int .i64 a), (1, 1, u64 w)] = some [.int .i64 a, u64 w] := rfl
theorem kone_p {a : Int} {w : BitVec 64} : oneCells [.int .i64 a, u64 w] = true := rfl
set_option maxHeartbeats 2000000 in
theorem take_spec {m0 : Mem} {b : Nat} {rv : Value} {f : Int} {r : List Int} {t : Int} {n : Nat} (h : ChV m0 m b rv f r (fz r) t) (hx0 : Ext m0 m) (hf : 2 ≤ f ∧ f ≤ 64) (ht : 0 ≤ t ∧ t < f) (hc : fz r < 16) (hn : 1 ≤ n ∧ (n : Int) ≤ r.getD (fz r) 0) (hn64 : r.getD (fz r) 0 ≤ f) :
    WC R F.chain_chain_take [pt b, .int .i64 (n : Nat)] m fun v m' => v = .agg #[.int .i64 (fz r : Nat), u64 (roundW f t n)] ∧ ChV m0 m' b rv f (r.set (fz r) (r.getD (fz r) 0 - (n : Nat))) (fz r) ((t + (n : Nat)) % f) ∧ Upd m m' (b :: vb rv) := by
  refine WC.of R.chain_chain_take rfl ?_
  simp only [RC.chain_chain_take, pt, go_sem]
  have hx1 : Ext m (m.new (.cells [.int .i64 0, u64 0#64] (some 2))) := Ext.new
  have hb1 : Bk (m.new (.cells [.int .i64 0, u64 0#64] (some 2))) m.next [.int .i64 0, u64 0#64] 2 := Bk.new
  generalize m.new (.cells [.int .i64 0, u64 0#64] (some 2)) = m1 at hx1 hb1 ⊢
  have h1 := h.keep hx1
  have n1 := hb1.ne
  try simp only [go_sem, ruB, h1.bk.at_]
  refine gC.of (Round_spec (t := t) (n := n) hf (by omega)) ?_
  rintro _ _ ⟨rfl, hm⟩
  replace hm := hm.symm
  subst hm
  try simp only [go_sem, ruB, watch_one, watch_nil, blk_ptr, ↓kfill_p, ↓kone_p]
  have hx2 : Ext m1 (((m1.bump 17).set (m1.next + 15) (some (.cells [.int .i64 0, u64 0#64] (some 2)))).set (m1.next + 15) (some (.cells [.int .i64 ((fz r : Nat) : Int), u64 (roundW f t n)] (some 2)))) := (Ext.bump.set (by omega)).set (by omega)
  have hb2 : Bk (((m1.bump 17).set (m1.next + 15) (some (.cells [.int .i64 0, u64 0#64] (some 2)))).set (m1.next + 15) (some (.cells [.int .i64 ((fz r : Nat) : Int), u64 (roundW f t n)] (some 2)))) (m1.next + 15) [.int .i64 ((fz r : Nat) : Int), u64 (roundW f t n)] 2 := ⟨by simp [Mem.set], by show m1.next + 15 < m1.next + 17; omega⟩
  generalize ((m1.bump 17).set (m1.next + 15) (some (.cells [.int .i64 0, u64 0#64] (some 2)))).set (m1.next + 15) (some (.cells [.int .i64 ((fz r : Nat) : Int), u64 (roundW f t n)] (some 2))) = m2 at hx2 hb2 ⊢
  have h2 := h1.keep hx2
  have hx02 := (hx0.trans hx1).trans hx2
  have hbm := hb1.keep hx2
  obtain ⟨p, a1, a2⟩ := h2.get hc
  have w1 : IntKind.wrap .i64 (r.getD (fz r) 0 - ((n : Nat) : Int)) = r.getD (fz r) 0 - ((n : Nat) : Int) := wrap_i64 (by omega) (by omega)
  obtain ⟨sb, m3, q1, q2, q3, q4, q5⟩ := h2.rm.putU (w := .int .i64 (r.getD (fz r) 0 - ((n : Nat) : Int))) hx02 (k := .i64) (i := fz r) (o := 0) hc (by omega) rfl rfl
  simp only [Nat.mul_one, Nat.add_zero] at q1 q2 q3
  rw [intsZ_setC] at q3
  have hpq := Option.some.inj (a1.symm.trans q1)
  subst hpq
  have hbl := h.bk.lt
  have hvl := SlLt.vb_iff.1 h.rm.lt
  have n12 := hx1.next
  have b3 := h2.bk.upd q5 h2.off
  have hb3 := hb2.upd q5 (fun hm => by have := hvl _ hm; omega)
  have hbm3 := hbm.upd q5 (fun hm => by have := hvl _ hm; omega)
  have nb3 : (m1.next + 15 = b) = False := eq_false (by omega)
  have nb4 : (b = m1.next + 15) = False := eq_false (by omega)
  have nb5 : (m.next = b) = False := eq_false (by omega)
  have nb6 : (b = m.next) = False := eq_false (by omega)
  have w2 : IntKind.wrap .i64 (t + ((n : Nat) : Int)) = t + ((n : Nat) : Int) := wrap_i64 (by omega) (by omega)
  have f0 : (f == 0) = false := by rw [beq_eq_false_iff_ne]; omega
  have f1 : f ≠ 0 := by omega
  have tm0 : (t + ((n : Nat) : Int)).tmod f = (t + ((n : Nat) : Int)) % f := Int.tmod_eq_emod_of_nonneg (by omega)
  have tn := Int.emod_nonneg (t + ((n : Nat) : Int)) f1
  have tl := Int.emod_lt_of_pos (t + ((n : Nat) : Int)) (show 0 < f by omega)
  have tm : IntKind.wrap .i64 ((t + ((n : Nat) : Int)) % f) = (t + ((n : Nat) : Int)) % f := wrap_i64 (by omega) (by omega)
  try simp only [go_sem, ruB, h1.bk.at_, h2.bk.at_, a1, a2, w1, q1, q2, b3.at_, w2, f0, f1, tm0, tm, hb3.at_, nb3, nb4, nb5, nb6, hbm3.at_]
  have hU1 : Upd m3 (m3.set b (some (.cells [.int .i64 f, rv, .int .i64 ((fz r : Nat) : Int), .int .i64 ((t + ((n : Nat) : Int)) % f)] (some 4)))) [b] := Upd.set (by simp)
  have b4 : Bk (m3.set b (some (.cells [.int .i64 f, rv, .int .i64 ((fz r : Nat) : Int), .int .i64 ((t + ((n : Nat) : Int)) % f)] (some 4)))) b [.int .i64 f, rv, .int .i64 ((fz r : Nat) : Int), .int .i64 ((t + ((n : Nat) : Int)) % f)] 4 := ⟨by simp [Mem.set], b3.lt⟩
  have q4' := q3.updq hU1 (fun x hx hm => by rw [List.mem_singleton] at hm; exact h.off (hm ▸ hx))
  generalize m3.set b (some (.cells [.int .i64 f, rv, .int .i64 ((fz r : Nat) : Int), .int .i64 ((t + ((n : Nat) : Int)) % f)] (some 4))) = m4 at hU1 b4 q4' ⊢
  have hU2 : Upd m4 (m4.set m.next (some (.cells [.int .i64 ((fz r : Nat) : Int), u64 (roundW f t n)] (some 2)))) [m.next] := Upd.set (by simp)
  have h34 := q5.next
  have h45 := hU1.next
  have h2n := hx2.next
  refine ⟨⟨b4.upd hU2 (by simp; omega), q4'.updq hU2 (fun x hx => by have := hvl x hx; simp; omega), h.b0, h.off, fun i hi => ?_, by omega, by rw [List.length_set]; exact h.ln⟩, ⟨by show m.next ≤ m4.next; omega, fun x hx hn => ?_⟩⟩
  · rw [set_getD (by rw [h.ln]; exact hc), if_neg (by omega)]; exact fz_before hi
  · have n1 : x ≠ b := fun e => hn (by rw [e]; simp)
    have n2 : x ∉ vb rv := fun e => hn (List.mem_cons_of_mem _ e)
    rw [hU2.same x (by omega) (by simp; omega), hU1.same x (by omega) (by simpa using n1), q5.same x (by omega) n2, hx2.same x (by omega), hx1.same x hx]
end Go.Am


/- Chains: place. -/
set_option linter.unusedVariables false
set_option linter.unusedSimpArgs false
namespace Go.Am
open Classical
variable {m : Mem}

theorem kfill_pp {a : Int} {w : BitVec 64} : fillL [.int .i64 0, u64 0#64] [(0, 2, .agg #[.int .i64 a, u64 w])] = some [.int .i64 a, u64 w] := rfl
theorem Own.rebase {m0 m1 m : Mem} {u n : Nat} {cs : List Value} {v : Value} (h : Own m0 m u n cs v) (e : m1.next ≤ m0.next) : Own m1 m u n cs v := by
  cases h with
  | nil h hc => exact .nil h hc
  | «at» hb hb2 hn hm hl hcs h1 => exact .at (by omega) hb2 hn hm hl hcs h1
/-- One more behind one's own: what changes. -/
theorem Own.appB {mB m : Mem} {u n by_ q M : Nat} {cs xs : List Value} {v x : Value} (h : Own mB m u n cs v) (hs : Sl m u 1 xs x) (h1 : oneCells xs = true) (hby : (n + 1) * by_ ≤ 2 ^ 47) (hn : n + 1 < 2 ^ 62) (hq : M ≤ q) (hM : mB.next ≤ M) (hq2 : q < m.next) (ho : SlOff [q] v) :
    ∃ v' m', aApp (some q) u by_ m v x = some (v', m') ∧ Own mB m' u (n + 1) (cs ++ xs) v' ∧ m.next ≤ m'.next ∧ (∀ b, b < M → b ∉ vb v → m'.blk b = m.blk b) ∧ (∀ b ∈ vb v', b ∈ vb v ∨ M ≤ b) := by
  obtain ⟨v', m', a1, a2, -⟩ := (h.rebase (m1 := ⟨mB.next, m.blk⟩) (Nat.le_refl _)).appAt (m0 := ⟨mB.next, m.blk⟩) (by_ := by_) ⟨by show mB.next ≤ m.next; omega, fun b hb => rfl⟩ hs h1 hby hn (by show mB.next ≤ q; omega) hq2 ho
  obtain ⟨c1, c2, c3⟩ := app_updA (M := M) a1 (fun k hk => by cases hk; exact hq) (by omega)
  refine ⟨v', m', a1, a2.rebase (Nat.le_refl _), c1, c2, fun b hb => ?_⟩
  rcases c3 with e | ⟨k, e, hk⟩
  · rw [e] at hb; exact .inl hb
  · rw [e] at hb; simp at hb; rw [hb]; exact .inr hk
theorem Own.same {m0 m m' : Mem} {u n : Nat} {cs : List Value} {v : Value} (h : Own m0 m u n cs v) (hn : m.next ≤ m'.next) (he : ∀ x ∈ vb v, m'.blk x = m.blk x) : Own m0 m' u n cs v := by
  cases h with
  | nil h hc => exact .nil h hc
  | @«at» b c all hb hb2 hn' hm hl hcs h1 => exact .at hb (by omega) hn' (by rw [he b (by simp [vb])]; exact hm) hl hcs h1
theorem set_le {r : List Int} {c i : Nat} {x : Int} (h : x ≤ r.getD c 0) : (r.set c x).getD i 0 ≤ r.getD i 0 := by
  by_cases hc : c < r.length
  · rw [set_getD hc]
    split
    · rename_i e; rw [e]; exact h
    · exact Int.le_refl _
  · rw [List.set_eq_of_length_le (by omega)]; exact Int.le_refl _
theorem stN_le {f : Int} {i : Nat} : ∀ {n : Nat} {s : Ch}, (stN f n s).r.getD i 0 ≤ s.r.getD i 0
  | 0, s => Int.le_refl _
  | n + 1, s => by
    have := @stN_le f i n s
    show ((stN f n s).r.set _ _).getD i 0 ≤ _
    exact Int.le_trans (set_le (by omega)) this
structure PlcL (m0 mB m' : Mem) (b b4 b5 : Nat) (rv : Value) (f : Int) (S : Ch) (w : Wt) (k : Nat) (pv : Value) (j : Nat) : Prop where
  ch : ChV m0 m' b rv f S.r j S.t
  bc : Bk m' b5 [.int .i64 w.1, .int .i64 w.2, .int .i64 0, pv] 4
  o : Own mB m' 2 S.ps.length (S.ps.flatMap pcV) pv
  n : S.ps.length ≤ k
  e : (k : Int) < w.2 → ∀ y ∈ S.ps, y.1 < ((fz S.r : Nat) : Int)
  x : Upd mB m' (b :: vb rv)
  off : b5 ∉ vb pv
  off4 : b4 ∉ vb pv
set_option maxHeartbeats 4000000 in
theorem place_loop {m0 mB : Mem} {b b4 b5 : Nat} {rv : Value} {f : Int} {r : List Int} {k0 j0 : Nat} {t : Int} {w : Wt} (h : ChV m0 mB b rv f r k0 t) (hx0 : Ext m0 mB) (hf : 2 ≤ f ∧ f ≤ 64) (hok : ChOk f r t) (hr : ∀ i, r.getD i 0 ≤ f) (hw : 1 ≤ w.2 ∧ w.2 ≤ f) (hs : w.2 ≤ r.sum)
    (h0 : PlcL m0 mB m b b4 b5 rv f ⟨r, t, []⟩ w 0 (.slice none 0 0) j0) (h4 : Bk m b4 [.int .i64 0, .int .i64 0, .int .i64 0, .slice none 0 0] 4) (g4 : mB.next ≤ b4) (g5 : mB.next ≤ b5) (g45 : b4 ≠ b5) :
    WL R [0, 4, 5, 6] RB.chain_chain_place_1 [(0, pt b), (4, pt b4), (5, pt b5), (6, .int .i64 w.2)] m fun y e m' => y = .exit 0 ∧ (∃ rs, e = (0, pt b) :: (4, pt b4) :: (5, pt b5) :: rs) ∧ ∃ pv j, PlcL m0 mB m' b b4 b5 rv f (stN f w.2.toNat ⟨r, t, []⟩) w w.2.toNat pv j ∧ Bk m' b4 [.int .i64 0, .int .i64 0, .int .i64 0, .slice none 0 0] 4 := by
  refine WL.of (fun z e m' => ∃ (k : Nat) (pv : Value) (j : Nat), (k : Int) ≤ w.2 ∧ z = w.2.toNat - k ∧ e = [(0, pt b), (4, pt b4), (5, pt b5), (6, .int .i64 (w.2 - k))] ∧ PlcL m0 mB m' b b4 b5 rv f (stN f k ⟨r, t, []⟩) w k pv j ∧ Bk m' b4 [.int .i64 0, .int .i64 0, .int .i64 0, .slice none 0 0] 4) w.2.toNat
    ⟨0, _, j0, by omega, by omega, by simp only [pt, go_sem] <;> simp, h0, h4⟩ ?_
  rintro _ _ m1 ⟨k, pv, j, hk, rfl, rfl, hP, hb4⟩
  have hbB := h.bk.lt
  have hvB := SlLt.vb_iff.1 h.rm.lt
  obtain ⟨hS, hSs⟩ := @stN_ok f hf.1 k ⟨r, t, []⟩ hok (show ((k : Nat) : Int) ≤ r.sum by omega)
  have hSs : (stN f k ⟨r, t, []⟩).r.sum = r.sum - k := hSs
  simp only [RB.chain_chain_place_1, pt, go_sem]
  by_cases g : (k : Int) < w.2
  rotate_left
  · have e1 : decide (0 < w.2 - ((k : Nat) : Int)) = false := decide_eq_false (by omega)
    have hkk : w.2.toNat = k := by omega
    rw [hkk]
    try simp only [go_sem, ruB, e1]
    exact ⟨⟨_, rfl⟩, pv, j, hP, hb4⟩
  have e1 : decide (0 < w.2 - ((k : Nat) : Int)) = true := decide_eq_true (by omega)
  have hrS : ∀ i, (stN f k ⟨r, t, []⟩).r.getD i 0 ≤ f := fun i => Int.le_trans stN_le (hr i)
  have hadd := fun n => @stN_add f k n ⟨r, t, []⟩
  generalize stN f k ⟨r, t, []⟩ = S at *
  obtain ⟨Sr, St, Sp⟩ := S
  simp only at hSs hS hrS
  have hc := sum_fz (r := Sr) (by omega)
  have hcz := fz_at hc
  rw [hS.l] at hc
  have hcn := (hS.n (fz Sr)).1
  try simp only [go_sem, ruB, e1]
  refine gC.of (on_spec hP.ch) ?_
  rintro _ m2 ⟨rfl, hC2, hU2⟩
  have bb5 := hP.bc.upd hU2 (by simp; omega)
  obtain ⟨p, a1, a2⟩ := hC2.get hc
  try simp only [go_sem, ruB, hC2.bk.at_, a1, a2, bb5.at_]
  obtain ⟨n, hn⟩ : ∃ n : Nat, (if Sr.getD (fz Sr) 0 < w.2 - ((k : Nat) : Int) then Sr.getD (fz Sr) 0 else w.2 - ((k : Nat) : Int)) = ((n : Nat) : Int) := ⟨(if Sr.getD (fz Sr) 0 < w.2 - ((k : Nat) : Int) then Sr.getD (fz Sr) 0 else w.2 - ((k : Nat) : Int)).toNat, by split <;> omega⟩
  rw [hn]
  have hnn : 1 ≤ n ∧ (n : Int) ≤ Sr.getD (fz Sr) 0 ∧ (n : Int) ≤ w.2 - k ∧ ((n : Int) < Sr.getD (fz Sr) 0 → (n : Int) = w.2 - k) := by split at hn <;> omega
  have hX1 : Ext m0 m1 := hP.x.ext_of hx0 (fun x hx => by
    rcases List.mem_cons.1 hx with rfl | hx
    · exact h.b0
    · exact h.rm.ge x hx)
  have hX2 : Ext m0 m2 := hU2.ext_of hX1 (fun x hx => by rw [List.mem_singleton] at hx; rw [hx]; exact h.b0)
  have hm1 := hP.x.next
  have hm2 := hU2.next
  refine gC.of (take_spec (n := n) (hC2.keep (Ext.bump (n := 9))) (hX2.trans Ext.bump) hf hS.t hc ⟨hnn.1, hnn.2.1⟩ (hrS _)) ?_
  rintro _ m3 ⟨rfl, hC3, hU3⟩
  have hm3 := hU3.next
  simp only [Mem.bump_next] at hm3
  have pge := hP.o.ge
  have plt := SlLt.vb_iff.1 hP.o.lt
  have o2 := hP.o.updq hU2 (fun x hx => by have := pge x hx; simp; omega)
  have o3 := (o2.keep (Ext.bump (n := 9))).updq hU3 (fun x hx hm => by
    have := pge x hx
    rcases List.mem_cons.1 hm with e | hm
    · omega
    · have := hvB x hm; omega)
  have off5 : b5 ∉ b :: vb rv := fun hm => by
    rcases List.mem_cons.1 hm with e | hm
    · omega
    · have := hvB _ hm; omega
  have off4 : b4 ∉ b :: vb rv := fun hm => by
    rcases List.mem_cons.1 hm with e | hm
    · omega
    · have := hvB _ hm; omega
  have b53 := (bb5.keep (Ext.bump (n := 9))).upd hU3 off5
  have b43 := ((hb4.upd hU2 (by simp; omega)).keep (Ext.bump (n := 9))).upd hU3 off4
  have wb : m3.blk b5 = (m2.bump 9).blk b5 := hU3.same b5 (by have := bb5.lt; simp only [Mem.bump_next]; omega) off5
  have bb5l := bb5.lt
  have hb4l := hb4.lt
  try simp only [go_sem, ruB, watch_one, watch_nil, blk_ptr, wb, ↓kfill_pp]
  have hU4 : Upd m3 (m3.set (m2.next + 5) (some (.cells [.int .i64 ((fz Sr : Nat) : Int), u64 (roundW f St n)] (some 2)))) [m2.next + 5] := Upd.set (by simp)
  have s4 : Sl (m3.set (m2.next + 5) (some (.cells [.int .i64 ((fz Sr : Nat) : Int), u64 (roundW f St n)] (some 2)))) 2 1 [.int .i64 ((fz Sr : Nat) : Int), u64 (roundW f St n)] (.slice (some ⟨m2.next + 5, 0, none⟩) 1 1) := by
    refine .at (Nat.le_refl _) ?_
    unfold aCells
    simp [Mem.set]
  have hX3 : Ext m0 m3 := hU3.ext_of (hX2.trans Ext.bump) (fun x hx => by
    rcases List.mem_cons.1 hx with rfl | hx
    · exact h.b0
    · exact h.rm.ge x hx)
  have hxB := hx0.next
  have o4 := o3.updq hU4 (fun x hx => by have := plt x hx; simp; omega)
  have b54 := b53.upd hU4 (by simp; omega)
  have b44 := b43.upd hU4 (by simp; omega)
  have C4 := hC3.upd hU4 (by simp; omega) (fun x hx => by have := hvB x hx; simp; omega)
  have n4 := hU4.next
  generalize m3.set (m2.next + 5) (some (.cells [.int .i64 ((fz Sr : Nat) : Int), u64 (roundW f St n)] (some 2))) = m4 at hU4 s4 o4 b54 b44 C4 n4 ⊢
  have hpn := hP.n
  simp only at hpn
  have hsp : Sp.length ≤ 64 := by omega
  obtain ⟨v5, m5, r1, r2, r3, r4, r5⟩ := o4.appB (n := Sp.length) (q := m2.next + 6) (M := m2.next) (by_ := 16) s4 rfl (by omega) (by omega) (by omega) (by omega) (by omega) (SlOff.vb_iff.2 fun x hx => by have := plt x hx; simp; omega)
  have b55 : Bk m5 b5 [.int .i64 w.1, .int .i64 w.2, .int .i64 0, pv] 4 := ⟨by rw [r4 b5 bb5l hP.off]; exact b54.at_, by omega⟩
  have w4 : b4 ∉ vb pv := hP.off4
  have b45 : Bk m5 b4 [.int .i64 0, .int .i64 0, .int .i64 0, .slice none 0 0] 4 := ⟨by rw [r4 b4 (by omega) w4]; exact b44.at_, by omega⟩
  obtain ⟨wa, wn, wc, rfl⟩ := slice_of r2
  have n55 := b55.lt
  have w5 : IntKind.wrap .i64 (w.2 - ((k : Nat) : Int) - ((n : Nat) : Int)) = w.2 - ((k + n : Nat) : Int) := by rw [wrap_i64 (by omega) (by omega)]; omega
  try simp only [go_sem, ruB, r1, b55.at_, w5]
  obtain ⟨n', rfl⟩ : ∃ n', n = n' + 1 := ⟨n - 1, by omega⟩
  have hk' : ∀ y ∈ Sp, y.1 < ((fz Sr : Nat) : Int) := hP.e g
  have hst := stN_piece hf hS.t (show fz Sr < Sr.length by rw [hS.l]; exact hc) (ps := Sp) (fun y hy => by have := hk' y hy; omega) (n := n') (by omega)
  rw [← hadd] at hst
  have hU6 : Upd m5 (m5.set b5 (some (.cells [.int .i64 w.1, .int .i64 w.2, .int .i64 0, .slice wa wn wc] (some 4)))) [b5] := Upd.set (by simp)
  have pgb : ∀ x, x < mB.next → x ∉ vb pv := fun x hx hm => by have := pge x hm; omega
  have C5 : ChV m0 m5 b rv f (Sr.set (fz Sr) (Sr.getD (fz Sr) 0 - ((n' + 1 : Nat) : Int))) (fz Sr) ((St + ((n' + 1 : Nat) : Int)) % f) := ⟨⟨by rw [r4 b (by omega) (pgb b hbB)]; exact C4.bk.at_, by have := C4.bk.lt; omega⟩, C4.rm.same r3 (fun x hx => r4 x (by have := hvB x hx; omega) (pgb x (hvB x hx))), C4.b0, C4.off, C4.kz, C4.k16, C4.ln⟩
  refine ⟨w.2.toNat - (k + (n' + 1)), by omega, k + (n' + 1), .slice wa wn wc, fz Sr, by omega, rfl, rfl, ?_, b45.upd hU6 (by simp; exact g45)⟩
  rw [hst]
  refine ⟨C5.upd hU6 (by simp; omega) (fun x hx => by have := hvB x hx; simp; omega), ⟨by simp [Mem.set], b55.lt⟩, ?_, by show (Sp ++ [_]).length ≤ _; rw [List.length_append, List.length_singleton]; omega, fun hlt => ?_, ⟨by show mB.next ≤ m5.next; omega, fun x hx hn => ?_⟩, fun hm => ?_, fun hm => ?_⟩
  · have o6 := r2.updq hU6 (fun x hx => by
      rcases r5 x hx with j | j
      · simp; intro e; rw [e] at j; exact hP.off j
      · simp; omega)
    show Own mB _ 2 (Sp ++ [_]).length ((Sp ++ [_]).flatMap pcV) _
    rw [List.length_append, List.length_singleton, List.flatMap_append]
    exact o6
  · intro y hy
    have hz : Sr.getD (fz Sr) 0 - ((n' + 1 : Nat) : Int) = 0 := by
      have := hnn.2.2.2
      omega
    show y.1 < ((fz (Sr.set (fz Sr) (Sr.getD (fz Sr) 0 - ((n' + 1 : Nat) : Int))) : Nat) : Int)
    have hge : fz Sr + 1 ≤ fz (Sr.set (fz Sr) (Sr.getD (fz Sr) 0 - ((n' + 1 : Nat) : Int))) := fz_ge (fun i hi => by
      rw [set_getD (by rw [hS.l]; exact hc), hz]
      split
      · rfl
      · exact fz_before (by omega)) (by rw [List.length_set, hS.l]; omega)
    rcases List.mem_append.1 hy with hy | hy
    · have := hk' y hy; omega
    · rw [List.mem_singleton] at hy; rw [hy]; show ((fz Sr : Nat) : Int) < _; omega
  · have n1 : x ≠ b := fun e => hn (by rw [e]; simp)
    rw [hU6.same x (by omega) (by simp; omega), r4 x (by omega) (pgb x hx), hU4.same x (by omega) (by simp; omega), hU3.same x (by simp only [Mem.bump_next]; omega) hn]
    show m2.blk x = _
    rw [hU2.same x (by omega) (by simpa using n1), hP.x.same x hx hn]
  · rcases r5 _ hm with j | j
    · exact hP.off j
    · omega
  · rcases r5 _ hm with j | j
    · exact hP.off4 j
    · omega

theorem kfill_pl {a b c : Int} : fillL [.int .i64 0, .int .i64 0, .int .i64 0, .slice none 0 0] [(0, 1, .int .i64 a), (1, 1, .int .i64 b), (2, 1, .int .i64 c)] = some [.int .i64 a, .int .i64 b, .int .i64 c, .slice none 0 0] := rfl
theorem kfill_pl2 {a b : Int} : fillL [.int .i64 0, .int .i64 0, .int .i64 0, .slice none 0 0] [(0, 1, .int .i64 a), (1, 1, .int .i64 b)] = some [.int .i64 a, .int .i64 b, .int .i64 0, .slice none 0 0] := rfl
set_option maxHeartbeats 4000000 in
theorem place_spec' {m0 : Mem} {b : Nat} {rv : Value} {f : Int} {r : List Int} {k0 : Nat} {t : Int} {w : Wt} (h : ChV m0 m b rv f r k0 t) (hx0 : Ext m0 m) (hf : 2 ≤ f ∧ f ≤ 64) (hok : ChOk f r t) (hr : ∀ i, r.getD i 0 ≤ f) (hw : 1 ≤ w.2 ∧ w.2 ≤ f) (hs : w.2 ≤ r.sum) :
    WC R F.chain_chain_place [pt b, .agg (spV w).toArray] m fun v m' => ∃ pv j, v = .agg (plV (plcC f r t w).1 pv).toArray ∧ PcV m' (plcC f r t w).1.pieces pv ∧ (∀ x ∈ vb pv, m.next ≤ x) ∧ ChV m0 m' b rv f (plcC f r t w).2.1 j (plcC f r t w).2.2 ∧ Upd m m' (b :: vb rv) := by
  refine WC.of R.chain_chain_place rfl ?_
  have hbB := h.bk.lt
  have hvB := SlLt.vb_iff.1 h.rm.lt
  simp only [RC.chain_chain_place, spV, pt, go_sem]
  have hx1 : Ext m (m.new (.cells [.int .i64 w.1, .int .i64 w.2] (some 2))) := Ext.new
  have hb1 : Bk (m.new (.cells [.int .i64 w.1, .int .i64 w.2] (some 2))) m.next [.int .i64 w.1, .int .i64 w.2] 2 := Bk.new
  have hn1 : (m.new (.cells [.int .i64 w.1, .int .i64 w.2] (some 2))).next = m.next + 1 := rfl
  generalize m.new (.cells [.int .i64 w.1, .int .i64 w.2] (some 2)) = m1 at hx1 hb1 hn1 ⊢
  have hx2 : Ext m1 (m1.new (.cells [.int .i64 0, .int .i64 0, .int .i64 0, .slice none 0 0] (some 4))) := Ext.new
  have hb2 : Bk (m1.new (.cells [.int .i64 0, .int .i64 0, .int .i64 0, .slice none 0 0] (some 4))) m1.next [.int .i64 0, .int .i64 0, .int .i64 0, .slice none 0 0] 4 := Bk.new
  have hn2 : (m1.new (.cells [.int .i64 0, .int .i64 0, .int .i64 0, .slice none 0 0] (some 4))).next = m1.next + 1 := rfl
  generalize m1.new (.cells [.int .i64 0, .int .i64 0, .int .i64 0, .slice none 0 0] (some 4)) = m2 at hx2 hb2 hn2 ⊢
  have hb12 := hb1.keep hx2
  have h2 := (h.keep hx1).keep hx2
  refine gC.of (on_spec h2) ?_
  rintro _ m3 ⟨rfl, hC3, hU3⟩
  have hb13 := hb12.upd hU3 (by simp; omega)
  have hb23 := hb2.upd hU3 (by simp; omega)
  have hc := sum_fz (r := r) (by omega)
  rw [hok.l] at hc
  have hn3 := hU3.next
  obtain ⟨p, a1, a2⟩ := hC3.get hc
  have hrc := hok.n (fz r)
  have ne1 : (m.next = b) = False := eq_false (by omega)
  have ne2 : (m1.next = b) = False := eq_false (by omega)
  have ne3 : (b = m.next) = False := eq_false (by omega)
  have ne4 : (b = m1.next) = False := eq_false (by omega)
  have ne5 : (m.next = m1.next) = False := eq_false (by omega)
  have ne6 : (m1.next = m.next) = False := eq_false (by omega)
  have hX3 : Ext m0 m3 := hU3.ext_of ((hx0.trans hx1).trans hx2) (fun x hx => by rw [List.mem_singleton] at hx; rw [hx]; exact h.b0)
  by_cases g : w.2 ≤ r.getD (fz r) 0
  · have e1 : decide (w.2 ≤ r.getD (fz r) 0) = true := decide_eq_true g
    have w1 : IntKind.wrap .i64 (r.getD (fz r) 0 - w.2) = r.getD (fz r) 0 - w.2 := wrap_i64 (by omega) (by omega)
    obtain ⟨sb, m4, q1, q2, q3, q4, q5⟩ := hC3.rm.putU (w := .int .i64 (r.getD (fz r) 0 - w.2)) hX3 (k := .i64) (i := fz r) (o := 0) hc (by omega) rfl rfl
    simp only [Nat.mul_one, Nat.add_zero] at q1 q2 q3
    rw [intsZ_setC] at q3
    have hpq := Option.some.inj (a1.symm.trans q1)
    subst hpq
    have b14 := hb13.upd q5 (fun hm => by have := hvB _ hm; omega)
    have b24 := hb23.upd q5 (fun hm => by have := hvB _ hm; omega)
    have bb4 := hC3.bk.upd q5 h.off
    have hn4 := q5.next
    have hX : plcC f r t w = (⟨w.1, w.2, (fz r : Nat), []⟩, r.set (fz r) (r.getD (fz r) 0 - w.2), t) := by unfold plcC; rw [if_pos g]
    rw [hX]
    try simp only [go_sem, ruB, hC3.bk.at_, a1, a2, hb13.at_, e1, w1, q2, b14.at_, b24.at_, bb4.at_, ↓kfill_pl, ne1, ne2, ne3, ne4, ne5, ne6]
    have hU5 : Upd m4 (m4.set m1.next (some (.cells [.int .i64 w.1, .int .i64 w.2, .int .i64 ((fz r : Nat) : Int), .slice none 0 0] (some 4)))) [m1.next] := Upd.set (by simp)
    refine ⟨.slice none 0 0, fz r, rfl, ⟨.nil rfl rfl, trivial⟩, fun x hx => by simp [vb] at hx, ⟨bb4.upd hU5 (by simp; omega), q3.updq hU5 (fun x hx => by have := hvB x hx; simp; omega), h.b0, h.off, fun i hi => ?_, by omega, by rw [List.length_set]; exact hok.l⟩, ⟨by show m.next ≤ m4.next; omega, fun x hx hn => ?_⟩⟩
    · rw [set_getD (by rw [hok.l]; exact hc), if_neg (by omega)]; exact fz_before hi
    · have n1 : x ≠ b := fun e => hn (by rw [e]; simp)
      have n2 : x ∉ vb rv := fun e => hn (List.mem_cons_of_mem _ e)
      rw [hU5.same x (by omega) (by simp; omega), q5.same x (by omega) n2, hU3.same x (by omega) (by simpa using n1), hx2.same x (by omega), hx1.same x hx]
  · have e1 : decide (w.2 ≤ r.getD (fz r) 0) = false := decide_eq_false g
    try simp only [go_sem, ruB, hC3.bk.at_, a1, a2, hb13.at_, e1, ↓kfill_pl2]
    have nn3 := hb13.ne
    have hx4 : Ext m3 (m3.new (.cells [.int .i64 w.1, .int .i64 w.2, .int .i64 0, .slice none 0 0] (some 4))) := Ext.new
    have hb4 : Bk (m3.new (.cells [.int .i64 w.1, .int .i64 w.2, .int .i64 0, .slice none 0 0] (some 4))) m3.next [.int .i64 w.1, .int .i64 w.2, .int .i64 0, .slice none 0 0] 4 := Bk.new
    have hn4 : (m3.new (.cells [.int .i64 w.1, .int .i64 w.2, .int .i64 0, .slice none 0 0] (some 4))).next = m3.next + 1 := rfl
    generalize m3.new (.cells [.int .i64 w.1, .int .i64 w.2, .int .i64 0, .slice none 0 0] (some 4)) = m4 at hx4 hb4 hn4 ⊢
    have hb14 := hb13.keep hx4
    have hb24 := hb23.keep hx4
    have hC4 := hC3.keep hx4
    try simp only [go_sem, ruB, hb14.at_, hb13.at_, nn3]
    refine WL.mono (place_loop (mB := m) (b4 := m1.next) (b5 := m3.next) h hx0 hf hok hr hw hs ⟨hC4, hb4, .nil rfl rfl, Nat.le_refl _, fun _ y hy => by simp at hy, ⟨by omega, fun x hx hn => ?_⟩, by simp [vb], by simp [vb]⟩ hb24 (by omega) (by omega) (by omega)) ?_
    · have n1 : x ≠ b := fun e => hn (by rw [e]; simp)
      rw [hx4.same x (by omega), hU3.same x (by omega) (by simpa using n1), hx2.same x (by omega), hx1.same x hx]
    rintro _ _ m5 ⟨rfl, ⟨rs, rfl⟩, pv, j, hP, hb45⟩
    have hX : plcC f r t w = (⟨w.1, w.2, 0, (stN f w.2.toNat ⟨r, t, []⟩).ps⟩, (stN f w.2.toNat ⟨r, t, []⟩).r, (stN f w.2.toNat ⟨r, t, []⟩).t) := by unfold plcC; rw [if_neg g]
    rw [hX]
    generalize stN f w.2.toNat ⟨r, t, []⟩ = S at hP ⊢
    have hps := hP.o
    obtain ⟨wa, wn, wc, rfl⟩ := slice_of hps
    have pge := hps.ge
    have plt := SlLt.vb_iff.1 hps.lt
    have hm5 := hP.x.next
    have hbc := hP.bc
    try simp only [go_sem, ruB, hbc.at_, hb45.at_]
    have hU6 : Upd m5 (m5.set m1.next (some (.cells [.int .i64 w.1, .int .i64 w.2, .int .i64 0, .slice wa wn wc] (some 4)))) [m1.next] := Upd.set (by simp)
    have hoff := hP.off4
    have o6 := hps.updq hU6 (fun x hx hm => by rw [List.mem_singleton] at hm; exact hoff (hm ▸ hx))
    refine ⟨.slice wa wn wc, j, rfl, ⟨o6.sl, o6.lt⟩, pge, hP.ch.upd hU6 (by simp; omega) (fun x hx => by have := hvB x hx; simp; omega), ⟨by show m.next ≤ m5.next; omega, fun x hx hn => ?_⟩⟩
    rw [hU6.same x (by omega) (by simp; omega), hP.x.same x hx hn]
end Go.Am


/- Chains, plain: places put in; the plan is light. -/
set_option linter.unusedVariables false
set_option linter.unusedSimpArgs false
namespace Go.Am
open Classical

theorem tkw {α : Type} {p : α → Bool} : ∀ {L : List α} {j : Nat} (hj : j ≤ L.length), (∀ i (h : i < L.length), i < j → p L[i] = true) → (∀ h : j < L.length, p L[j] = false) → L.takeWhile p = L.take j ∧ L.dropWhile p = L.drop j
  | [], j, hj, _, _ => by simp
  | a :: l, 0, _, _, h => by
    have := h (by simp)
    simp only [List.getElem_cons_zero] at this
    simp [List.takeWhile_cons, List.dropWhile_cons, this]
  | a :: l, j + 1, hj, h1, h2 => by
    have h0 := h1 0 (by simp) (by omega)
    simp only [List.getElem_cons_zero] at h0
    obtain ⟨k1, k2⟩ := @tkw α p l j (by simpa using hj) (fun i h hi => by have := h1 (i + 1) (by simpa using h) (by omega); simpa using this) (fun h => by have := h2 (by simpa using h); simpa using this)
    simp [List.takeWhile_cons, List.dropWhile_cons, h0, k1, k2]
theorem putP_at {l : List Pl} {x : Pl} {k : Nat} (h : atU (dropU l x.unit) x.unit k) : putP l x = (dropU l x.unit).take k ++ x :: (dropU l x.unit).drop k := by
  obtain ⟨h1, h2, h3⟩ := h
  obtain ⟨k1, k2⟩ := tkw (p := fun y : Pl => decide (y.unit < x.unit)) h1 (fun i hi hik => by simpa using h2 i hi hik) (fun hk => by have := h3 k hk (Nat.le_refl _); simp; omega)
  unfold putP
  rw [k1, k2]
theorem putP_perm {l : List Pl} {x : Pl} : (putP l x).Perm (x :: dropU l x.unit) := by
  unfold putP
  have := List.takeWhile_append_dropWhile (p := fun y : Pl => decide (y.unit < x.unit)) (l := dropU l x.unit)
  conv => rhs; rw [← this]
  exact List.perm_middle
theorem putP_len {l : List Pl} {x : Pl} : (putP l x).length ≤ l.length + 1 := by
  rw [putP_perm.length_eq, List.length_cons]
  have : (dropU l x.unit).length ≤ l.length := List.length_filter_le ..
  omega
theorem asc_pw {l : List Pl} : Asc l ↔ l.Pairwise fun a b => a.unit < b.unit := by
  rw [List.pairwise_iff_getElem]
  constructor
  · intro h i j hi hj hij; exact h i j hij hj
  · intro h i j hij hj; exact h i j (by omega) hj hij
theorem pw_tail {x : Pl} : ∀ {l : List Pl}, l.Pairwise (fun a b => a.unit < b.unit) → ∀ y ∈ l.dropWhile (fun y => decide (y.unit < x.unit)), x.unit ≤ y.unit
  | [], _, y, h => by simp at h
  | a :: l, hp, y, h => by
    rw [List.pairwise_cons] at hp
    rw [List.dropWhile_cons] at h
    by_cases g : a.unit < x.unit
    · rw [if_pos (by simpa using g)] at h; exact pw_tail hp.2 y h
    · rw [if_neg (by simpa using g)] at h
      rcases List.mem_cons.1 h with rfl | h
      · omega
      · have := hp.1 y h; omega
theorem tw_all {x : Pl} : ∀ {l : List Pl}, ∀ y ∈ l.takeWhile (fun y => decide (y.unit < x.unit)), y.unit < x.unit
  | [], y, h => by simp at h
  | a :: l, y, h => by
    rw [List.takeWhile_cons] at h
    by_cases g : a.unit < x.unit
    · rw [if_pos (by simpa using g)] at h
      rcases List.mem_cons.1 h with rfl | h
      · exact g
      · exact tw_all y h
    · rw [if_neg (by simpa using g)] at h; simp at h
theorem putP_asc {l : List Pl} {x : Pl} (h : Asc l) : Asc (putP l x) := by
  have hd : (dropU l x.unit).Pairwise (fun a b => a.unit < b.unit) := asc_pw.1 (h.filter _)
  rw [asc_pw]
  unfold putP
  rw [List.pairwise_append]
  refine ⟨hd.sublist (List.takeWhile_sublist _), ?_, ?_⟩
  · rw [List.pairwise_cons]
    refine ⟨fun y hy => ?_, hd.sublist (List.dropWhile_sublist _)⟩
    have h1 := pw_tail (x := x) hd y hy
    have h2 : y ∈ dropU l x.unit := (List.dropWhile_sublist _).subset hy
    unfold dropU at h2
    rw [List.mem_filter] at h2
    have := of_decide_eq_true h2.2
    omega
  · intro y hy z hz
    have h1 := tw_all (x := x) y hy
    rcases List.mem_cons.1 hz with rfl | hz
    · exact h1
    · have := pw_tail (x := x) hd z hz; omega
/-- A row that stays light. -/
structure RowL (q : List Pl) (n : Nat) : Prop where
  a : Asc q
  n : q.length ≤ n
  ps : ∀ x ∈ q, x.pieces.length ≤ 100
theorem RowL.put {q : List Pl} {n : Nat} {x : Pl} (h : RowL q n) (hx : x.pieces.length ≤ 100) : RowL (putP q x) (n + 1) := by
  refine ⟨putP_asc h.a, Nat.le_trans putP_len (by have := h.n; omega), fun y hy => ?_⟩
  rcases List.mem_cons.1 (putP_perm.mem_iff.1 hy) with rfl | hy
  · exact hx
  · unfold dropU at hy
    exact h.ps y (List.mem_filter.1 hy).1
theorem RowL.l {q : List Pl} {n : Nat} {f : Int} {c : BitVec 32} (h : RowL q n) (hn : n ≤ 1000) : PlanL ⟨f, c, q⟩ := ⟨by have := h.n; show q.length < 1000000; omega, fun x hx => by have := h.ps x hx; omega⟩
theorem addP_len {ps : List Pc} {c t : Int} : (addP ps c t).length ≤ ps.length + 1 := by
  unfold addP
  split
  · split
    · simp
    · simp
  · simp
theorem stN_ps {f : Int} : ∀ {n : Nat} {s : Ch}, (stN f n s).ps.length ≤ s.ps.length + n
  | 0, s => by show s.ps.length ≤ _; omega
  | n + 1, s => by
    have := @stN_ps f n s
    show (addP _ _ _).length ≤ _
    exact Nat.le_trans addP_len (by omega)
theorem plcC_ps {f : Int} {r : List Int} {t : Int} {w : Wt} (hw : w.2 ≤ 64) : (plcC f r t w).1.pieces.length ≤ 100 := by
  unfold plcC
  split
  · simp
  · have := @stN_ps f w.2.toNat ⟨r, t, []⟩
    simp only [List.length_nil] at this
    show (stN f w.2.toNat ⟨r, t, []⟩).ps.length ≤ 100
    omega
theorem plcC_unit {f : Int} {r : List Int} {t : Int} {w : Wt} : (plcC f r t w).1.unit = w.1 ∧ (plcC f r t w).1.share = w.2 := by
  unfold plcC; split <;> exact ⟨rfl, rfl⟩
theorem plcC_le {f : Int} {r : List Int} {t : Int} {w : Wt} (hw : 0 ≤ w.2) (i : Nat) : (plcC f r t w).2.1.getD i 0 ≤ r.getD i 0 := by
  unfold plcC
  split
  · exact set_le (by omega)
  · exact stN_le
theorem rm_sum {p : PlanD} (h : RightP p) : (rmP p).sum = freeP p := by rw [← h.rm, h.free]; rfl
theorem rm_ok {p : PlanD} (h : RightP p) (hL : PlanL p) : ChOk p.frame (rmP p) 0 ∧ ∀ i, (rmP p).getD i 0 ≤ p.frame := by
  have hr := h.pr hL
  have key : ∀ i, (rmP p).getD i 0 = if i < 16 then roomP p i else 0 := fun i => by
    unfold rmP
    by_cases g : i < 16
    · rw [if_pos g]; simp [List.getD, g]
    · rw [if_neg g]; simp [List.getD, g]
  have h2 := h.1
  refine ⟨⟨rmP_len, fun i => ?_, by omega, by omega⟩, fun i => ?_⟩
  · rw [key]
    have := roomP_le (c := (i : Nat)) hr
    split <;> omega
  · rw [key]
    split
    · rw [h.room]
      unfold roomR
      split
      · have := (loadR_le (c := (i : Nat)) hr).1; omega
      · omega
    · omega
/-- What holds all the way. -/
structure CnOk (f : Int) (s : Cn) (n : Nat) (left : Int) : Prop where
  ok : ChOk f s.r s.t
  le : ∀ i, s.r.getD i 0 ≤ f
  row : RowL s.q n
  sm : left ≤ s.r.sum
theorem CnOk.step {f : Int} {s : Cn} {n : Nat} {left : Int} {w : Wt} (h : CnOk f s n left) (hf : 2 ≤ f ∧ f ≤ 64) (hw : 1 ≤ w.2 ∧ w.2 ≤ f) (hl : w.2 ≤ left) : CnOk f (stpC f s w) (n + 1) (left - w.2) := by
  obtain ⟨h1, h2⟩ := plcC_ok (t := s.t) hf.1 h.ok hw.1 (Int.le_trans hl h.sm)
  exact ⟨h1, fun i => Int.le_trans (plcC_le (by omega) i) (h.le i), h.row.put (plcC_ps (by omega)), by show left - w.2 ≤ (plcC f s.r s.t w).2.1.sum; have := h.sm; omega⟩
theorem sumW_pos : ∀ {l : List Wt}, (∀ w ∈ l, 1 ≤ w.2) → 0 ≤ sumW l
  | [], _ => by simp [sumW]
  | w :: l, h => by
    have := h w (by simp)
    have := @sumW_pos l fun x hx => h x (by simp [hx])
    rw [sumW_cons]; omega
theorem chF_ok {f : Int} {s : Cn} {n : Nat} {l : List Wt} (hf : 2 ≤ f ∧ f ≤ 64) (hw : ∀ w ∈ l, 1 ≤ w.2 ∧ w.2 ≤ f) (h : CnOk f s n (sumW l)) : ∀ {i : Nat}, i ≤ l.length → CnOk f (chF f s (l.take i)) (n + i) (sumW (l.drop i))
  | 0, _ => h
  | i + 1, hi => by
    have ih := @chF_ok f s n l hf hw h i (by omega)
    have hd : l.drop i = l[i] :: l.drop (i + 1) := List.drop_eq_getElem_cons (by omega)
    have hwi := hw _ (List.getElem_mem (show i < l.length by omega))
    have hpos := @sumW_pos (l.drop (i + 1)) fun w hw' => (hw w (List.mem_of_mem_drop hw')).1
    rw [hd, sumW_cons] at ih
    have := ih.step hf hwi (by omega)
    rw [chF_succ (by omega)]
    refine ⟨this.ok, this.le, this.row, ?_⟩
    have := this.sm
    omega
end Go.Am


/- Chains: Split. -/
set_option linter.unusedVariables false
set_option linter.unusedSimpArgs false
namespace Go.Am
open Classical
variable {m : Mem}

structure SplV (mE m : Mem) (N b2 b : Nat) (rv : Value) (f : Int) (cs : BitVec 32) (r : List Int) (j : Nat) (t : Int) (Q : List Pl) (le : List PE) (lv : Value) : Prop where
  ch : ChV mE m b rv f r j t
  bk : Bk m b2 [.int .i64 f, u32 cs, lv] 3
  np : NewPls mE m le lv
  q : le.map PE.pl = Q
  off : ∀ x, x < N → x ∉ vb lv ∧ ∀ e ∈ le, x ∉ vb e.pv
  lo : ∀ x ∈ b2 :: b :: vb rv, x < N
  nle : N ≤ m.next
  x : Ext mE m
  b2e : mE.next ≤ b2
theorem SplV.fpge {mE m : Mem} {N b2 b : Nat} {rv : Value} {f : Int} {cs : BitVec 32} {r : List Int} {j : Nat} {t : Int} {Q : List Pl} {le : List PE} {lv : Value} (h : SplV mE m N b2 b rv f cs r j t Q le lv) : ∀ x ∈ b2 :: b :: vb rv, mE.next ≤ x ∧ x < m.next := fun x hx => by
  rcases List.mem_cons.1 hx with rfl | hx
  · exact ⟨h.b2e, h.bk.lt⟩
  rcases List.mem_cons.1 hx with rfl | hx
  · exact ⟨h.ch.b0, h.ch.bk.lt⟩
  · exact ⟨h.ch.rm.ge x hx, SlLt.vb_iff.1 h.ch.rm.lt x hx⟩

set_option maxHeartbeats 8000000 in
theorem Split_loop {mE m0 : Mem} {l : List Wt} {lw : Value} {N b2 b4 b : Nat} {rv : Value} {f : Int} {cs : BitVec 32} {j : Nat} {s0 : Cn} {le : List PE} {lv : Value} (hs : Sl m0 2 l.length (l.flatMap spV) lw) (hlt : SlLt m0 lw) (hx0 : Ext m0 mE) (h : SplV mE m N b2 b rv f cs s0.r j s0.t s0.q le lv) (hf : 2 ≤ f ∧ f ≤ 64) (hok : CnOk f s0 100 (sumW l)) (hw : ∀ w ∈ l, 1 ≤ w.2 ∧ w.2 ≤ f) (hl : l.length ≤ 60)
    (h4 : Bk m b4 [.int .i64 0, u32 0#32, .slice none 0 0] 3) (g4 : b4 ∉ b2 :: b :: vb rv) (g2 : b2 ∉ b :: vb rv) :
    WL R [2, 4, 7, 25, 26, 27] RB.chain_Split_1 [(2, pt b2), (4, pt b4), (7, pt b), (25, lw), (26, .int .i64 (l.length : Nat)), (27, .int .i64 0)] m fun y e m' => y = .exit 0 ∧ (∃ rs, e = (2, pt b2) :: (4, pt b4) :: rs) ∧ ∃ le lv j, SplV mE m' N b2 b rv f cs (chF f s0 l).r j (chF f s0 l).t (chF f s0 l).q le lv ∧ Bk m' b4 [.int .i64 0, u32 0#32, .slice none 0 0] 3 := by
  refine WL.of (fun z e m' => ∃ (i : Nat) (le : List PE) (lv : Value) (j : Nat), i ≤ l.length ∧ z = l.length - i ∧ e = [(2, pt b2), (4, pt b4), (7, pt b), (25, lw), (26, .int .i64 (l.length : Nat)), (27, .int .i64 (i : Nat))] ∧ SplV mE m' N b2 b rv f cs (chF f s0 (l.take i)).r j (chF f s0 (l.take i)).t (chF f s0 (l.take i)).q le lv ∧ Bk m' b4 [.int .i64 0, u32 0#32, .slice none 0 0] 3) l.length
    ⟨0, le, lv, j, by omega, by omega, by simp only [pt, go_sem] <;> rfl, h, h4⟩ ?_
  rintro _ _ m1 ⟨i, le, lv, j, hi, rfl, rfl, hP, hb4⟩
  have hS := chF_ok hf hw hok hi
  have hs1 := hs.keep hlt (hx0.trans hP.x)
  simp only [RB.chain_Split_1, pt, go_sem]
  have s1 := step1 (show i < 1000000 by omega)
  by_cases g : i < l.length
  rotate_left
  · have e1 : decide (((i : Nat) : Int) < ((l.length : Nat) : Int)) = false := decide_eq_false (by omega)
    rw [List.take_of_length_le (by omega)] at hP
    try simp only [go_sem, ruB, e1]
    exact ⟨⟨_, rfl⟩, le, lv, j, hP, hb4⟩
  have e1 : decide (((i : Nat) : Int) < ((l.length : Nat) : Int)) = true := decide_eq_true (by omega)
  have hwi := hw _ (List.getElem_mem g)
  have hdr : l.drop i = l[i] :: l.drop (i + 1) := List.drop_eq_getElem_cons g
  have hpos := @sumW_pos (l.drop (i + 1)) fun w hw' => (hw w (List.mem_of_mem_drop hw')).1
  have hsu := hS.sm
  rw [hdr, sumW_cons] at hsu
  have hch := chF_succ (f := f) (s := s0) g
  generalize chF f s0 (l.take i) = S at *
  obtain ⟨pb, po, a1, a2, -, -⟩ := hs1.elem spV_len (k := .i64) g
  simp only [spV] at a2
  have hlo := hP.np.pls.own.sl.one
  have nbk := hP.bk.ne
  try simp only [go_sem, ruB, e1, a1, a2, hP.bk.at_, nbk, hlo]
  have hx2 : Ext m1 (m1.new (.cells [.int .i64 l[i].1, .int .i64 l[i].2] (some 2))) := Ext.new
  have hb2 : Bk (m1.new (.cells [.int .i64 l[i].1, .int .i64 l[i].2] (some 2))) m1.next [.int .i64 l[i].1, .int .i64 l[i].2] 2 := Bk.new
  generalize m1.new (.cells [.int .i64 l[i].1, .int .i64 l[i].2] (some 2)) = m2 at hx2 hb2 ⊢
  have hfp := hP.fpge
  have bk2 := hP.bk.keep hx2
  have hb42 := hb4.keep hx2
  have ch2 := hP.ch.keep hx2
  have np2 := hP.np.keep hx2
  try simp only [go_sem, ruB, bk2.at_, hb2.at_, hlo]
  refine gC.of (place_spec' (w := l[i]) ch2 (hP.x.trans hx2) hf hS.ok hS.le hwi (by omega)) ?_
  rintro _ m3 ⟨pv, j', rfl, hpv, hpn, hC3, hU3⟩
  have bl2 := bk2.lt
  have wb : m3.blk b2 = m2.blk b2 := hU3.same b2 bl2 g2
  have sub : ∀ x ∈ b :: vb rv, x ∈ b2 :: b :: vb rv := fun x hx => List.mem_cons_of_mem _ hx
  have np3 := np2.box hU3 (fun x hx => (hfp x (sub x hx)).1) (fun x hx => (hP.off x (hP.lo x (sub x hx))).1) (fun x hx => (hP.off x (hP.lo x (sub x hx))).2)
  have bk3 := bk2.upd hU3 g2
  have b43 := hb42.upd hU3 (fun hm => g4 (sub _ hm))
  have n2 := hx2.next
  have n3 := hU3.next
  have hpl := plan_of (p := ⟨f, cs, S.q⟩) np3
  rw [hP.q] at hpl
  have hrow := hS.row
  have hsp := (plcC_ps (f := f) (r := S.r) (t := S.t) (w := l[i]) (by omega))
  simp only [plV]
  try simp only [go_sem, ruB, watch_one, watch_nil, blk_ptr, wb]
  refine gC.of (Put_spec (p := ⟨f, cs, S.q⟩) (x := (plcC f S.r S.t l[i]).1) hpl (hrow.l (by omega)) (by have := hrow.n; show S.q.length < 100000; omega) hrow.a ⟨pv, rfl, hpv⟩ (by omega)) ?_
  rintro _ m4 ⟨le4, lv4, k4, rfl, hat, hmp, hN4⟩
  rw [← putP_at hat] at hmp
  have hx34 := hN4.pls.ext
  have n4 := hx34.next
  have ho4 := hN4.pls.own
  obtain ⟨wa, wn, wc, rfl⟩ := slice_of ho4
  have lo4 := ho4.sl.one
  have bk4 := bk3.keep hx34
  have b44 := b43.keep hx34
  have hX3 : Ext mE m3 := hU3.ext_of (hP.x.trans hx2) (fun x hx => (hfp x (sub x hx)).1)
  have hX4 := hX3.trans hx34
  have hnle := hP.nle
  have newoff : ∀ x, x < N → x ∉ vb (.slice wa wn wc) ∧ ∀ e ∈ le4, x ∉ vb e.pv := fun x hx => by
    refine ⟨fun hm => ?_, fun e he hm => ?_⟩
    · have := ho4.ge x hm; omega
    · have := hN4.new e he x hm; omega
  simp only [planV]
  try simp only [go_sem, ruB, bk4.at_, lo4, s1]
  have hU5 : Upd m4 (m4.set b2 (some (.cells [.int .i64 f, u32 cs, .slice wa wn wc] (some 3)))) [b2] := Upd.set (by simp)
  refine ⟨l.length - (i + 1), by omega, i + 1, le4, .slice wa wn wc, j', by omega, rfl, rfl, ?_, b44.upd hU5 (by simp; intro e; exact g4 (by rw [e]; simp))⟩
  rw [hch]
  have g2b : b ≠ b2 := fun e => g2 (by rw [e]; simp)
  have g2r : ∀ x ∈ vb rv, x ∉ [b2] := fun x hx hm => by rw [List.mem_singleton] at hm; exact g2 (List.mem_cons_of_mem _ (hm ▸ hx))
  refine ⟨(hC3.keep hx34).upd hU5 (by simpa using g2b) g2r, ⟨by simp [Mem.set], bk4.lt⟩, ?_, hmp, newoff, hP.lo, by show N ≤ m4.next; omega, hX4.set hP.b2e, hP.b2e⟩
  exact (hN4.weak hX3).box hU5 (fun x hx => by rw [List.mem_singleton] at hx; rw [hx]; exact hP.b2e) (fun x hx => by rw [List.mem_singleton] at hx; rw [hx]; exact (newoff b2 (hP.lo b2 (by simp))).1) (fun x hx => by rw [List.mem_singleton] at hx; rw [hx]; exact (newoff b2 (hP.lo b2 (by simp))).2)

theorem kfill_ch {a : Int} {A : Option Addr} {N C : Nat} : fillL [.int .i64 0, .slice none 0 0, .int .i64 0, .int .i64 0] [(0, 1, .int .i64 a), (1, 1, .slice A N C)] = some [.int .i64 a, .slice A N C, .int .i64 0, .int .i64 0] := rfl
noncomputable def splitR (p : PlanD) (l : List Wt) : PlanD := ⟨p.frame, p.cores, (chF p.frame ⟨rmP p, 0, p.places⟩ l).q⟩
theorem why0 {p : PlanD} {l : List Wt} (h : whyC p l = 0) : RightP p ∧ LOk p.frame l ∧ (¬ ∃ w ∈ l, hasU p.places w.1) ∧ p.places.countP isSp = 0 ∧ sumW l ≤ freeP p := by
  unfold whyC at h
  by_cases g : whyD p l = 0
  · rw [if_neg (by simpa using g)] at h
    by_cases gs : 0 < p.places.countP isSp
    · rw [if_pos gs] at h; omega
    · rw [if_neg gs] at h
      by_cases gf : freeP p < sumW l
      · rw [if_pos gf] at h; omega
      · unfold whyD at g
        by_cases hR : RightP p
        · rw [if_neg (by simpa using hR)] at g
          by_cases gc : chkA p.frame l = 0
          · rw [if_neg (by simpa using gc)] at g
            by_cases gh : ∃ w ∈ l, hasU p.places w.1
            · rw [if_pos gh] at g; omega
            · exact ⟨hR, chkA_ok gc, gh, by omega, by omega⟩
          · rw [if_pos gc] at g; exact absurd g gc
        · rw [if_pos hR] at g; omega
  · rw [if_pos g] at h; exact absurd h g
theorem drop0 {p : PlanD} (h : RightP p) : dropU p.places 0 = p.places := dropU_not fun k hk => by
  have := (h.place (List.getElem_mem hk)).1
  unfold isU at this; omega
theorem light_row {p : PlanD} (h : lightP p = true) (hR : RightP p) : RowL p.places 100 := by
  unfold lightP at h
  rw [Bool.and_eq_true, decide_eq_true_eq, List.all_eq_true] at h
  refine ⟨hR.asc, by omega, fun x hx => ?_⟩
  have := h.1 x (by rw [List.take_of_length_le (by omega)]; exact hx)
  have := of_decide_eq_true this
  omega
theorem cn0 {p : PlanD} {l : List Wt} (h : lightP p = true) (hw : whyC p l = 0) : CnOk p.frame ⟨rmP p, 0, p.places⟩ 100 (sumW l) := by
  obtain ⟨hR, hk, -, -, hf⟩ := why0 hw
  obtain ⟨h1, h2⟩ := rm_ok hR (light_l h)
  exact ⟨h1, h2, light_row h hR, by show sumW l ≤ (rmP p).sum; rw [rm_sum hR]; exact hf⟩
set_option maxHeartbeats 4000000 in
theorem Split_spec {p : PlanD} {l : List Wt} {v lv : Value} (hv : PlanV m p v) (hs : Sl m 2 l.length (l.flatMap spV) lv) (hlt : SlLt m lv) (hl : l.length ≤ 60) (hL : lightP p = true) :
    WC R F.chain_Split [v, lv] m fun r m' => Ext m m' ∧ ((whyC p l ≠ 0 ∧ r = .tuple #[.agg #[.int .i64 0, u32 0#32, .slice none 0 0], .int .i64 (whyC p l)]) ∨ (whyC p l = 0 ∧ ∃ qv, r = .tuple #[qv, .int .i64 0] ∧ PlanV m' (splitR p l) qv)) := by
  refine WC.of R.chain_Split rfl ?_
  have hLL := light_l hL
  obtain ⟨pv, rfl, hp⟩ := hv
  have hpc := hp.cells
  simp only [RC.chain_Split, planV, go_sem, hp.one]
  have hx1 : Ext m (m.new (.cells [.int .i64 p.frame, u32 p.cores, pv] (some 3))) := Ext.new
  have hb1 : Bk (m.new (.cells [.int .i64 p.frame, u32 p.cores, pv] (some 3))) m.next [.int .i64 p.frame, u32 p.cores, pv] 3 := Bk.new
  have hn1 : (m.new (.cells [.int .i64 p.frame, u32 p.cores, pv] (some 3))).next = m.next + 1 := rfl
  generalize m.new (.cells [.int .i64 p.frame, u32 p.cores, pv] (some 3)) = m1 at hx1 hb1 hn1 ⊢
  have hx2 : Ext m1 (m1.new (.cells [.int .i64 0, u32 0#32, .slice none 0 0] (some 3))) := Ext.new
  have hb2 : Bk (m1.new (.cells [.int .i64 0, u32 0#32, .slice none 0 0] (some 3))) m1.next [.int .i64 0, u32 0#32, .slice none 0 0] 3 := Bk.new
  have hn2 : (m1.new (.cells [.int .i64 0, u32 0#32, .slice none 0 0] (some 3))).next = m1.next + 1 := rfl
  generalize m1.new (.cells [.int .i64 0, u32 0#32, .slice none 0 0] (some 3)) = m2 at hx2 hb2 hn2 ⊢
  have hb12 := hb1.keep hx2
  have hx02 := hx1.trans hx2
  have ne1 : (m.next = m1.next) = False := eq_false (by omega)
  have ne2 : (m1.next = m.next) = False := eq_false (by omega)
  try simp only [go_sem, ruB, hb12.at_, hp.one]
  refine gC.of (why_spec (p := p) (l := l) ⟨pv, rfl, hp.keep hx02⟩ (hs.keep hlt hx02) (hlt.keep hx02) hl hLL) ?_
  rintro _ m3 ⟨rfl, hx3⟩
  have hx03 := hx02.trans hx3
  have hb13 := hb12.keep hx3
  have hb23 := hb2.keep hx3
  by_cases g : whyC p l = 0
  rotate_left
  · have e1 : (whyC p l != 0) = true := by rw [bne_iff_ne]; exact g
    try simp only [go_sem, ruB, e1, hb23.at_, hb13.at_, ne1, ne2]
    exact ⟨hx03.set (by omega), .inl g⟩
  have e1 : (whyC p l != 0) = false := by rw [bne_eq_false_iff_eq]; exact g
  obtain ⟨hR, hk, -, -, -⟩ := why0 g
  try simp only [go_sem, ruB, e1, hb13.at_, hp.one]
  refine gC.of (Rooms_spec (p := p) ⟨pv, rfl, (hp.keep hx03).keep (Ext.bump (n := 7))⟩ hLL) ?_
  rintro rv m4 ⟨hx4, ⟨-, hO⟩ | ⟨hn, -⟩⟩
  rotate_left
  · exact absurd hR hn
  have n4 := hx4.next
  simp only [Mem.bump_next] at n4
  have n3 := hx3.next
  have wq : m4.blk m.next = (m3.bump 7).blk m.next := hx4.same _ (by simp only [Mem.bump_next]; have := hb13.lt; omega)
  have hge := hO.ge
  simp only [Mem.bump_next] at hge
  have hx34 : Ext m3 m4 := Ext.bump.trans hx4
  obtain ⟨wa, wn, wc, rfl⟩ := slice_of hO
  have hb14 := hb13.keep hx34
  have ne3 : (m.next = m3.next + 5) = False := eq_false (by have := hb13.lt; omega)
  try simp only [go_sem, ruB, watch_one, watch_nil, blk_ptr, wq, ↓kfill_ch, hb14.at_, ne3, hp.one]
  have hU5 : Upd m4 (m4.set (m3.next + 5) (some (.cells [.int .i64 p.frame, .slice wa wn wc, .int .i64 0, .int .i64 0] (some 4)))) [m3.next + 5] := Upd.set (by simp)
  have hx5 : Ext m3 (m4.set (m3.next + 5) (some (.cells [.int .i64 p.frame, .slice wa wn wc, .int .i64 0, .int .i64 0] (some 4)))) := hx34.set (by omega)
  have hb5 : Bk (m4.set (m3.next + 5) (some (.cells [.int .i64 p.frame, .slice wa wn wc, .int .i64 0, .int .i64 0] (some 4)))) (m3.next + 5) [.int .i64 p.frame, .slice wa wn wc, .int .i64 0, .int .i64 0] 4 := ⟨by simp [Mem.set], by show m3.next + 5 < m4.next; omega⟩
  have hO5 := hO.updq hU5 (fun x hx => by have := hge x hx; simp; omega)
  generalize m4.set (m3.next + 5) (some (.cells [.int .i64 p.frame, .slice wa wn wc, .int .i64 0, .int .i64 0] (some 4))) = m5 at hU5 hx5 hb5 hO5 ⊢
  have hx05 := hx03.trans hx5
  have hb15 := hb13.keep hx5
  have hb25 := hb23.keep hx5
  have hl13 := hb13.lt
  have hl23 := hb23.lt
  try simp only [go_sem, ruB, hb15.at_, hb13.at_, hp.one]
  refine gC.of (Drop_spec (p := p) (u := 0) ⟨pv, rfl, hp.keep hx05⟩ hLL (by have := hLL.len; have := (light_row hL hR).n; omega) hR.asc) ?_
  rintro _ m6 ⟨le, lw, rfl, hmp, hN⟩
  rw [drop0 hR] at hmp
  have hx6 := hN.pls.ext
  have hx06 := hx05.trans hx6
  have hb16 := hb15.keep hx6
  have hb26 := hb25.keep hx6
  have hb56 := hb5.keep hx6
  have hO6 := hO5.keep hx6
  have ho6 := hN.pls.own
  obtain ⟨xa, xn, xc, rfl⟩ := slice_of ho6
  have lo6 := ho6.sl.one
  have n5 := hx5.next
  have n6 := hx6.next
  have l5 := hb5.lt
  have s6 := (hs.keep hlt hx06).len
  simp only [planV]
  try simp only [go_sem, ruB, hb16.at_, lo6]
  have hU7 : Upd m6 (m6.set m.next (some (.cells [.int .i64 p.frame, u32 p.cores, .slice xa xn xc] (some 3)))) [m.next] := Upd.set (by simp)
  have hX7 : Ext m (m6.set m.next (some (.cells [.int .i64 p.frame, u32 p.cores, .slice xa xn xc] (some 3)))) := hx06.set (Nat.le_refl _)
  have hb17 : Bk (m6.set m.next (some (.cells [.int .i64 p.frame, u32 p.cores, .slice xa xn xc] (some 3)))) m.next [.int .i64 p.frame, u32 p.cores, .slice xa xn xc] 3 := ⟨by simp [Mem.set], hb16.lt⟩
  have hb27 := hb26.upd hU7 (by simp; omega)
  have hb57 := hb56.upd hU7 (by simp; omega)
  have hO7 := hO6.updq hU7 (fun x hx => by have := hge x hx; simp; omega)
  have low : ∀ x, x < m5.next → x ∉ vb (.slice xa xn xc) ∧ ∀ e ∈ le, x ∉ vb e.pv := fun x hx => hN.out (.inl hx)
  have hN7 := (hN.weak hx05).box hU7 (fun x hx => by rw [List.mem_singleton] at hx; rw [hx]; exact Nat.le_refl _) (fun x hx => by rw [List.mem_singleton] at hx; rw [hx]; exact (low _ (by omega)).1) (fun x hx => by rw [List.mem_singleton] at hx; rw [hx]; exact (low _ (by omega)).2)
  generalize m6.set m.next (some (.cells [.int .i64 p.frame, u32 p.cores, .slice xa xn xc] (some 3))) = m7 at hU7 hX7 hb17 hb27 hb57 hO7 hN7 ⊢
  have hOl := SlLt.vb_iff.1 hO5.lt
  try simp only [go_sem, ruB, (hs.keep hlt hX7).len]
  have hcn := cn0 hL g
  have hfr := hR.1
  have hfr2 := hR.2.1
  refine WL.mono (Split_loop (N := m5.next) (j := 0) (s0 := ⟨rmP p, 0, p.places⟩) (f := p.frame) (cs := p.cores) (b4 := m1.next) hs hlt (Ext.refl m) ⟨⟨hb57, hO7.rebase (by simp only [Mem.bump_next]; omega), by omega, fun hm => by have := hge _ hm; omega, fun i hi => by omega, by omega, rmP_len⟩, hb17, hN7, hmp, low, fun x hx => ?_, by have := hU7.next; omega, hX7, Nat.le_refl _⟩ ⟨hfr, hfr2⟩ hcn (fun w hw => (hk.w w hw).2) hl hb27 ?_ ?_) ?_
  · rcases List.mem_cons.1 hx with rfl | hx
    · omega
    rcases List.mem_cons.1 hx with rfl | hx
    · exact l5
    · exact hOl x hx
  · intro hm
    rcases List.mem_cons.1 hm with e | hm
    · omega
    rcases List.mem_cons.1 hm with e | hm
    · omega
    · have := hge _ hm; omega
  · intro hm
    rcases List.mem_cons.1 hm with e | hm
    · omega
    · have := hge _ hm; omega
  rintro _ _ m8 ⟨rfl, ⟨rs, rfl⟩, le8, lv8, j8, hP, hb48⟩
  have ho8 := hP.np.pls.own
  obtain ⟨ya, yn, yc, rfl⟩ := slice_of ho8
  have lo8 := ho8.sl.one
  have bk8 := hP.bk
  try simp only [go_sem, ruB, bk8.at_, hb48.at_, lo8]
  have hU9 : Upd m8 (m8.set m1.next (some (.cells [.int .i64 p.frame, u32 p.cores, .slice ya yn yc] (some 3)))) [m1.next] := Upd.set (by simp)
  refine ⟨hP.x.set (by omega), .inr ⟨g, _, rfl, ?_⟩⟩
  have hN9 := hP.np.box hU9 (fun x hx => by rw [List.mem_singleton] at hx; omega) (fun x hx => by rw [List.mem_singleton] at hx; rw [hx]; exact (hP.off m1.next (by omega)).1) (fun x hx => by rw [List.mem_singleton] at hx; rw [hx]; exact (hP.off m1.next (by omega)).2)
  have hv9 := plan_of (p := ⟨p.frame, p.cores, []⟩) hN9
  rw [hP.q] at hv9
  exact hv9
end Go.Am


/- Chains: the document's Split: tick by tick. -/
set_option linter.unusedVariables false
set_option linter.unusedSimpArgs false
namespace Go.Am
open Classical
variable {m : Mem}

structure RfL (mE mI m' : Mem) (b2 b9 : Nat) (rv : Value) (f : Int) (cs : BitVec 32) (lvv : Value) (S : Ch) (w : Wt) (k : Nat) (pv : Value) (c : Nat) : Prop where
  rm : Own mE m' 1 16 (intsZ S.r) rv
  b2k : Bk m' b2 [.int .i64 f, u32 cs, lvv] 3
  bc : Bk m' b9 [.int .i64 w.1, .int .i64 w.2, .int .i64 0, pv] 4
  o : Own mI m' 2 S.ps.length (S.ps.flatMap pcV) pv
  n : S.ps.length ≤ k
  x : Upd mI m' (vb rv)
  off : b9 ∉ vb pv
  kz : ∀ i, i < c → S.r.getD i 0 = 0
  c16 : c ≤ 16
end Go.Am


/- Chains: the document's Split. -/
set_option linter.unusedVariables false
set_option linter.unusedSimpArgs false
namespace Go.Am
open Classical
variable {m : Mem}

theorem putE_map {l : List PE} {x : PE} {k : Nat} (h : cutE (dropE l x.pl.unit) x.pl.unit k) : ((dropE l x.pl.unit).take k ++ x :: (dropE l x.pl.unit).drop k).map PE.pl = putP (l.map PE.pl) x.pl := by
  obtain ⟨h1, h2, h3⟩ := h
  have hm : (dropE l x.pl.unit).map PE.pl = dropU (l.map PE.pl) x.pl.unit := dropE_map
  have hl : (dropU (l.map PE.pl) x.pl.unit).length = (dropE l x.pl.unit).length := by rw [← hm, List.length_map]
  obtain ⟨k1, k2⟩ := tkw (p := fun y : Pl => decide (y.unit < x.pl.unit)) (L := dropU (l.map PE.pl) x.pl.unit) (j := k) (by omega) (fun i hi hik => by
    have := h2 i (by omega) hik
    simp only [← hm, List.getElem_map]
    simpa using this) (fun hk => by
    have := h3 (by omega)
    simp only [← hm, List.getElem_map]
    simpa using this)
  unfold putP
  rw [k1, k2, List.map_append, List.map_cons, List.map_take, List.map_drop, hm]
structure RpV (mE m : Mem) (b2 b4 : Nat) (rv : Value) (f : Int) (cs : BitVec 32) (s : Cn) (le : List PE) (lv : Value) : Prop where
  rm : Own mE m 1 16 (intsZ s.r) rv
  bk : Bk m b2 [.int .i64 f, u32 cs, lv] 3
  b4k : Bk m b4 [.int .i64 0, u32 0#32, .slice none 0 0] 3
  row : RowE m le lv
  pcs : ∀ e ∈ le, PcV m e.pl.pieces e.pv
  q : le.map PE.pl = s.q
  off : ∀ x ∈ b2 :: b4 :: vb rv, x ∉ vb lv ∧ ∀ e ∈ le, x ∉ vb e.pv
  x : Ext mE m
  ge : ∀ x ∈ b2 :: b4 :: vb rv, mE.next ≤ x ∧ x < m.next
theorem RpV.put {mE m3 m4 : Mem} {b2 b4 : Nat} {rv : Value} {f : Int} {cs : BitVec 32} {s : Cn} {r' : List Int} {t' : Int} {le : List PE} {lv lv4 : Value} {x : PE} {k : Nat} (hr : r'.length = 16)
    (rm : Own mE m3 1 16 (intsZ r') rv) (b2k : Bk m3 b2 [.int .i64 f, u32 cs, lv] 3) (b4k : Bk m3 b4 [.int .i64 0, u32 0#32, .slice none 0 0] 3) (pcs : ∀ e ∈ le, PcV m3 e.pl.pieces e.pv) (hq : le.map PE.pl = s.q) (off : ∀ x ∈ b2 :: b4 :: vb rv, ∀ e ∈ le, x ∉ vb e.pv) (X : Ext mE m3) (ge : ∀ x ∈ b2 :: b4 :: vb rv, mE.next ≤ x ∧ x < m3.next)
    (hx : PcV m3 x.pl.pieces x.pv) (hxo : ∀ y ∈ b2 :: b4 :: vb rv, y ∉ vb x.pv) (hcut : cutE (dropE le x.pl.unit) x.pl.unit k) (ho : Own m3 m4 4 ((dropE le x.pl.unit).length + 1) (((dropE le x.pl.unit).take k ++ x :: (dropE le x.pl.unit).drop k).flatMap peV) lv4) (h34 : Ext m3 m4) (h24 : b2 ≠ b4) (h2r : b2 ∉ vb rv) :
    RpV mE (m4.set b2 (some (.cells [.int .i64 f, u32 cs, lv4] (some 3)))) b2 b4 rv f cs ⟨r', t', putP s.q x.pl⟩ ((dropE le x.pl.unit).take k ++ x :: (dropE le x.pl.unit).drop k) lv4 := by
  have hU : Upd m4 (m4.set b2 (some (.cells [.int .i64 f, u32 cs, lv4] (some 3)))) [b2] := Upd.set (by simp)
  have hlen : ((dropE le x.pl.unit).take k ++ x :: (dropE le x.pl.unit).drop k).length = (dropE le x.pl.unit).length + 1 := by
    have := hcut.1
    simp; omega
  rw [← hlen] at ho
  have hg := ho.ge
  have hb2 : b2 < m3.next := b2k.lt
  have n34 := h34.next
  have mem : ∀ e ∈ (dropE le x.pl.unit).take k ++ x :: (dropE le x.pl.unit).drop k, e = x ∨ e ∈ le := fun e he => by
    rcases List.mem_append.1 he with he | he
    · exact .inr (List.mem_filter.1 (List.mem_of_mem_take he)).1
    · rcases List.mem_cons.1 he with rfl | he
      · exact .inl rfl
      · exact .inr (List.mem_filter.1 (List.mem_of_mem_drop he)).1
  have offn : ∀ y ∈ b2 :: b4 :: vb rv, y ∉ vb lv4 := fun y hy hm => by have := hg y hm; have := (ge y hy).2; omega
  refine ⟨(rm.keep h34).updq hU (fun y hy hm => by rw [List.mem_singleton] at hm; exact h2r (hm ▸ hy)), ⟨by simp [Mem.set], by show b2 < m4.next; omega⟩, (b4k.keep h34).upd hU (by simp; exact h24.symm), ?_, fun e he => ?_, ?_, fun y hy => ⟨offn y hy, fun e he => ?_⟩, (X.trans h34).set (ge b2 (by simp)).1, fun y hy => ⟨(ge y hy).1, by have := (ge y hy).2; show y < m4.next; omega⟩⟩
  · exact (ho.rowE).upd hU (fun y hy hm => by rw [List.mem_singleton] at hm; exact offn b2 (by simp) (hm ▸ hy))
  · rcases mem e he with rfl | he
    · exact (hx.keep h34).upd hU (fun y hy hm => by rw [List.mem_singleton] at hm; exact hxo b2 (by simp) (hm ▸ hy))
    · exact ((pcs e he).keep h34).upd hU (fun y hy hm => by rw [List.mem_singleton] at hm; exact off b2 (by simp) e he (hm ▸ hy))
  · rw [putE_map hcut, hq]
  · rcases mem e he with rfl | he
    · exact hxo y hy
    · exact off y hy e he
end Go.Am


/- Chains: the document's Split, whole. -/
set_option linter.unusedVariables false
set_option linter.unusedSimpArgs false
namespace Go.Am
open Classical
variable {m : Mem}

end Go.Am


/- ChainSplits. -/
set_option linter.unusedVariables false
set_option linter.unusedSimpArgs false
namespace Go.Am
open Classical
variable {m : Mem}

/-- The cut of the first 60. -/
theorem cut60 {l : List Wt} {v : Value} (hs : Sl m 2 l.length (l.flatMap spV) v) (hb : SlLt m v) (hc : Cut 2 m v) : ∃ v', aSub 2 m v none (some (.int .i64 (if (60 : Int) < (l.length : Int) then (60 : Int) else (l.length : Int)))) none = some v' ∧ Sl m 2 (l.take 60).length ((l.take 60).flatMap spV) v' ∧ SlLt m v' := by
  have e2 : (if (60 : Int) < (l.length : Int) then (60 : Int) else (l.length : Int)) = ((min l.length 60 : Nat) : Int) := by
    split <;> omega
  rw [e2]
  obtain ⟨v', a1, a2, a3, a4⟩ := hs.to hc (k := .i64) (i := min l.length 60) (by omega)
  have h : (l.take 60).length = min l.length 60 := by rw [List.length_take]; omega
  have h2 : (l.flatMap spV).take (min l.length 60 * 2) = (l.take 60).flatMap spV := by
    have e : l.flatMap spV = (l.take 60).flatMap spV ++ (l.drop 60).flatMap spV := by rw [← List.flatMap_append, List.take_append_drop]
    rw [e, List.take_left' (by rw [flat_len spV_len, h])]
  rw [h2] at a2
  exact ⟨v', a1, by rw [h]; exact a2, a3 hb⟩
theorem splitR_l {p : PlanD} {l : List Wt} (hL : lightP p = true) (hl : l.length ≤ 60) (hw : whyC p l = 0) : PlanL (splitR p l) := by
  obtain ⟨hR, hk, -, -, -⟩ := why0 hw
  have hS := chF_ok (i := l.length) ⟨hR.1, hR.2.1⟩ (fun w hw => (hk.w w hw).2) (cn0 hL hw) (Nat.le_refl _)
  rw [List.take_length] at hS
  exact hS.row.l (by omega)
end Go.Am


/- Chains, in plain Lean: what holds tick by tick. -/
set_option linter.unusedVariables false
set_option linter.unusedSimpArgs false
namespace Go.Am
open Classical

theorem withB_inB {x : BitVec 64} {t s : Int} (ht : 0 ≤ t ∧ t < 64) : inB (withB x t) s = (decide (s = t) || inB x s) := by
  by_cases h : 0 ≤ s ∧ s < 64
  · obtain ⟨j, rfl⟩ := Int.eq_ofNat_of_zero_le h.1
    rw [inB_nat, inB_nat, withB_bit (by omega), Bool.or_comm]
  · rw [inB_not h, inB_not h]
    have : ¬ s = t := by omega
    simp [this]
theorem addP_cnt {ps : List Pc} {c0 t c s : Int} (ht : 0 ≤ t ∧ t < 64) (h0 : ps.countP (atB c0 t) = 0) : (addP ps c0 t).countP (atB c s) = ps.countP (atB c s) + if (c < 0 ∨ c0 = c) ∧ s = t then 1 else 0 := by
  have key : ∀ w : BitVec 64, inB w t = false → (if atB c s (c0, withB w t) = true then 1 else 0) = (if atB c s (c0, w) = true then 1 else 0) + if (c < 0 ∨ c0 = c) ∧ s = t then 1 else 0 := fun w hw => by
    unfold atB
    simp only [withB_inB ht]
    by_cases e : s = t
    · subst e
      rw [hw]
      by_cases e2 : c < 0 ∨ c0 = c
      · have : (decide (c < 0) || decide (c0 = c)) = true := by simpa using e2
        simp [this, e2]
      · have : (decide (c < 0) || decide (c0 = c)) = false := by simpa using e2
        simp [this, e2]
    · simp [e]
  have z : (if atB c s (c0, 0#64) = true then 1 else 0) = 0 := by
    have : inB 0#64 s = false := by unfold inB; simp
    unfold atB; simp [this]
  have z0 : inB 0#64 t = false := by unfold inB; simp
  rcases List.eq_nil_or_concat ps with rfl | ⟨L, b, rfl⟩
  · rw [addP_new (fun y hy => by cases hy), List.nil_append, List.countP_cons, key _ z0, z]; simp
  · simp only [List.concat_eq_append] at *
    by_cases e : b.1 = c0
    · obtain ⟨b1, b2⟩ := b
      simp only at e
      subst e
      rw [addP_old, List.countP_append, List.countP_append, List.countP_cons, List.countP_cons]
      have hb : inB b2 t = false := by
        rw [List.countP_append, List.countP_cons] at h0
        have : ¬ atB b1 t (b1, b2) = true := by intro h; rw [if_pos h] at h0; omega
        unfold atB at this
        simpa using this
      have := key b2 hb
      simp only [List.countP_nil]
      omega
    · have : addP (L ++ [b]) c0 t = (L ++ [b]) ++ [(c0, withB 0#64 t)] := by
        unfold addP
        rw [List.getLast?_concat]
        simp only []
        rw [if_neg e]
      rw [this, List.countP_append (l₁ := L ++ [b]), List.countP_cons (a := (c0, withB 0#64 t)), key _ z0, z]; simp
/-- So many ticks, up to one. -/
def inArc (f t : Int) (U : Nat) (s : Nat) : Prop := (s : Int) < f ∧ (((s : Int) < t ∧ t ≤ s + U) ∨ (t ≤ s ∧ t + f ≤ s + U))
theorem inArc_zero {f t : Int} {s : Nat} (ht : 0 ≤ t) : ¬ inArc f t 0 s := by unfold inArc; omega
theorem inArc_self {f t : Int} {U : Nat} (h : (U : Int) < f) (ht : 0 ≤ t) : ¬ inArc f t U t.toNat := by unfold inArc; omega
theorem mod_succ {f t : Int} (hf : 2 ≤ f) (ht : 0 ≤ t ∧ t < f) : (t + 1) % f = if t + 1 < f then t + 1 else 0 := by
  split
  · exact Int.emod_eq_of_lt (by omega) (by omega)
  · have : t + 1 = f := by omega
    rw [this, Int.emod_self]
theorem inArc_step {f t : Int} {U s : Nat} (hf : 2 ≤ f) (ht : 0 ≤ t ∧ t < f) (h : (U : Int) < f) : (if inArc f ((t + 1) % f) (U + 1) s then 1 else 0) = (if inArc f t U s then 1 else 0) + if (s : Int) = t then 1 else 0 := by
  rw [mod_succ hf ht]
  have : inArc f (if t + 1 < f then t + 1 else 0) (U + 1) s ↔ (inArc f t U s ∨ (s : Int) = t) := by unfold inArc; split <;> omega
  by_cases e : (s : Int) = t
  · have n : ¬ inArc f t U s := by unfold inArc; omega
    rw [if_pos (this.2 (.inr e)), if_neg n, if_pos e]
  · rw [if_neg e]
    by_cases g : inArc f t U s
    · rw [if_pos (this.2 (.inl g)), if_pos g]
    · rw [if_neg g, if_neg (fun h => (this.1 h).elim g e)]
/-- What is given out, tick by tick. -/
structure TI (f : Int) (has : Nat → Bool) (W : Nat → Nat → Nat) (r : List Int) (t : Int) : Prop where
  ok : ChOk f r t
  cur : fz r < 16 → ∃ U : Nat, (U : Int) + r.getD (fz r) 0 ≤ f ∧ ∀ s, s < 64 → W (fz r) s = if inArc f t U s then 1 else 0
  aft : ∀ c s, fz r < c → c < 16 → s < 64 → W c s = 0
  one : ∀ c s, c < 16 → s < 64 → W c s ≤ 1
  has : ∀ c, c < 16 → has c = false → r.getD c 0 = 0
  le : ∀ c, r.getD c 0 ≤ f
theorem fz_less {r : List Int} {x : Int} (hc : fz r < r.length) : fz r ≤ fz (r.set (fz r) x) ∧ (x ≠ 0 → fz (r.set (fz r) x) = fz r) ∧ (x = 0 → fz r < fz (r.set (fz r) x)) := by
  have h0 : ∀ i, i < fz r → (r.set (fz r) x).getD i 0 = 0 := fun i hi => by rw [set_getD hc, if_neg (by omega)]; exact fz_before hi
  refine ⟨fz_ge h0 (by rw [List.length_set]; omega), fun hx => fz_eq (by rw [List.length_set]; exact hc) h0 (by rw [set_getD hc, if_pos rfl]; exact hx), fun hx => ?_⟩
  have := @fz_ge (r.set (fz r) x) (fz r + 1) (fun i hi => by
    by_cases e : i = fz r
    · rw [e, set_getD hc, if_pos rfl, hx]
    · exact h0 i (by omega)) (by rw [List.length_set]; omega)
  omega
theorem TI.go {f : Int} {has : Nat → Bool} {W W' : Nat → Nat → Nat} {r : List Int} {t t' d : Int} (h : TI f has W r t) (hc : fz r < 16) (hd : 1 ≤ d ∧ d ≤ r.getD (fz r) 0) (ht : 0 ≤ t' ∧ t' < f)
    (hW : ∀ c s, c < 16 → s < 64 → c ≠ fz r → W' c s = W c s)
    (hU : ∀ U : Nat, (U : Int) + r.getD (fz r) 0 ≤ f → (∀ s, s < 64 → W (fz r) s = if inArc f t U s then 1 else 0) → ∃ U' : Nat, (U' : Int) + (r.getD (fz r) 0 - d) ≤ f ∧ ∀ s, s < 64 → W' (fz r) s = if inArc f t' U' s then 1 else 0) :
    TI f has W' (r.set (fz r) (r.getD (fz r) 0 - d)) t' := by
  have hl : fz r < r.length := by rw [h.ok.l]; exact hc
  obtain ⟨f1, f2, f3⟩ := fz_less (x := r.getD (fz r) 0 - d) hl
  obtain ⟨U, u1, u2⟩ := h.cur hc
  obtain ⟨U', v1, v2⟩ := hU U u1 u2
  have n0 := h.ok.n (fz r)
  have gd : ∀ i, (r.set (fz r) (r.getD (fz r) 0 - d)).getD i 0 = if i = fz r then r.getD (fz r) 0 - d else r.getD i 0 := fun i => set_getD hl
  refine ⟨⟨by rw [List.length_set, h.ok.l], fun i => ?_, ht⟩, fun hc' => ?_, fun c s h1 h2 h3 => ?_, fun c s h1 h2 => ?_, fun c h1 h2 => ?_, fun c => ?_⟩
  · rw [gd]
    have := h.ok.n i
    split <;> omega
  · by_cases e : r.getD (fz r) 0 - d = 0
    · have := f3 e
      refine ⟨0, ?_, fun s hs => ?_⟩
      · rw [gd, if_neg (by omega)]; have := h.le (fz (r.set (fz r) (r.getD (fz r) 0 - d))); omega
      · rw [hW _ _ hc' hs (by omega), h.aft _ _ this hc' hs, if_neg (inArc_zero ht.1)]
    · rw [f2 e, gd, if_pos rfl]
      exact ⟨U', v1, v2⟩
  · rw [hW _ _ h2 h3 (by omega)]
    exact h.aft _ _ (by omega) h2 h3
  · by_cases e : c = fz r
    · rw [e, v2 s h2]; split <;> omega
    · rw [hW _ _ h1 h2 e]; exact h.one _ _ h1 h2
  · rw [gd]
    have := h.has c h1 h2
    split
    · rename_i e; rw [e] at this; omega
    · exact this
  · rw [gd]
    have := h.le c
    have := h.le (fz r)
    split <;> omega
theorem TI.tick {f : Int} {has : Nat → Bool} {W W' : Nat → Nat → Nat} {r : List Int} {t : Int} (h : TI f has W r t) (hf : 2 ≤ f) (hc : fz r < 16)
    (hW : ∀ c s, c < 16 → s < 64 → W' c s = W c s + if c = fz r ∧ (s : Int) = t then 1 else 0) : TI f has W' (r.set (fz r) (r.getD (fz r) 0 - 1)) ((t + 1) % f) := by
  have hl : fz r < r.length := by rw [h.ok.l]; exact hc
  have h1 := fz_at hl
  have h2 := h.ok.n (fz r)
  have h3 := h.ok.t
  refine h.go hc (by omega) ⟨Int.emod_nonneg _ (by omega), Int.emod_lt_of_pos _ (by omega)⟩ (fun c s a b e => by rw [hW c s a b, if_neg (fun h => e h.1)]; rfl) fun U u1 u2 => ⟨U + 1, by omega, fun s hs => ?_⟩
  rw [hW _ _ hc hs, u2 s hs, inArc_step hf h3 (by omega)]
  simp
theorem TI.whole {f : Int} {has : Nat → Bool} {W : Nat → Nat → Nat} {r : List Int} {t d : Int} (h : TI f has W r t) (hc : fz r < 16) (hd : 1 ≤ d ∧ d ≤ r.getD (fz r) 0) : TI f has W (r.set (fz r) (r.getD (fz r) 0 - d)) t :=
  h.go hc hd h.ok.t (fun _ _ _ _ _ => rfl) fun U u1 u2 => ⟨U, by omega, u2⟩
theorem TI.free {f : Int} {has : Nat → Bool} {W : Nat → Nat → Nat} {r : List Int} {t : Int} (h : TI f has W r t) (hc : fz r < 16) : W (fz r) t.toNat = 0 ∨ 64 ≤ t.toNat := by
  by_cases g : t.toNat < 64
  · left
    obtain ⟨U, u1, u2⟩ := h.cur hc
    have h1 := fz_at (r := r) (by rw [h.ok.l]; exact hc)
    have h2 := h.ok.n (fz r)
    rw [u2 _ g, if_neg (inArc_self (by omega) h.ok.t.1)]
  · exact .inr (by omega)
theorem TI.eqW {f : Int} {has : Nat → Bool} {W W' : Nat → Nat → Nat} {r : List Int} {t : Int} (h : TI f has W r t) (hW : ∀ c s, c < 16 → s < 64 → W' c s = W c s) : TI f has W' r t :=
  ⟨h.ok, fun hc => by obtain ⟨U, a, b⟩ := h.cur hc; exact ⟨U, a, fun s hs => by rw [hW _ _ hc hs, b s hs]⟩, fun c s a b d => by rw [hW _ _ b d]; exact h.aft c s a b d, fun c s a b => by rw [hW _ _ a b]; exact h.one c s a b, h.has, h.le⟩
end Go.Am


/- Chains, in plain Lean: a unit that is split. -/
set_option linter.unusedVariables false
set_option linter.unusedSimpArgs false
namespace Go.Am
open Classical

theorem S_inc {g g' : Nat → Int} {t : Int} (ht : 0 ≤ t ∧ t < 64) (h : ∀ s, s < 64 → g' s = g s + if (s : Int) = t then 1 else 0) : S g' 64 = S g 64 + 1 := by
  rw [S_congr h, S_add]
  have : S (fun s => if (s : Int) = t then (1 : Int) else 0) 64 = S (fun s => if s = t.toNat then (1 : Int) else 0) 64 := S_congr fun s hs => by
    by_cases e : (s : Int) = t
    · rw [if_pos e, if_pos (by omega)]
    · rw [if_neg e, if_neg (by omega)]
  rw [this, S_one (by omega)]
structure UI (f : Int) (has : Nat → Bool) (r0 : List Int) (Wq : Nat → Nat → Nat) (n : Nat) (s : Ch) : Prop where
  ti : TI f has (fun c x => Wq c x + s.ps.countP (atB (c : Nat) (x : Nat))) s.r s.t
  sm : ∀ c : Nat, c < 16 → S (fun x => ((s.ps.countP (atB (c : Nat) (x : Nat)) : Nat) : Int)) 64 + s.r.getD c 0 = r0.getD c 0
  arc : ∀ x : Nat, x < 64 → s.ps.countP (atB (-1) (x : Nat)) = if inArc f s.t n x then 1 else 0
  sa : S (fun x => ((s.ps.countP (atB (-1) (x : Nat)) : Nat) : Int)) 64 = n
  asc : s.ps.Pairwise fun a b => a.1 < b.1
  cs : ∀ y ∈ s.ps, 0 ≤ y.1 ∧ y.1 ≤ (fz s.r : Nat) ∧ y.1 < 16 ∧ has y.1.toNat = true ∧ y.2 ≠ 0#64
  lo : fz r0 ≤ fz s.r ∧ ∀ y ∈ s.ps, ((fz r0 : Nat) : Int) ≤ y.1
  two : (n = 0 ∧ s.ps = [] ∧ s.r = r0) ∨ (1 ≤ n ∧ s.ps.length = 1 ∧ s.r.getD (fz r0) 0 + n = r0.getD (fz r0) 0 ∧ ∀ y ∈ s.ps, y.1 = ((fz r0 : Nat) : Int)) ∨ 2 ≤ s.ps.length
theorem withB_ne {x : BitVec 64} {t : Int} (ht : 0 ≤ t ∧ t < 64) : withB x t ≠ 0#64 := fun h => by
  have h1 := withB_inB (x := x) (s := t) ht
  rw [h] at h1
  have : inB 0#64 t = false := by unfold inB; simp
  rw [this] at h1
  simp at h1
theorem UI.nil {f : Int} {has : Nat → Bool} {r : List Int} {t : Int} {W : Nat → Nat → Nat} (h : TI f has W r t) : UI f has r W 0 ⟨r, t, []⟩ :=
  ⟨h.eqW fun _ _ _ _ => by simp, fun c hc => by simp [S_zero], fun x hx => by rw [if_neg (inArc_zero h.ok.t.1)]; rfl, by simp [S_zero], .nil, fun y hy => (by cases hy), ⟨Nat.le_refl _, fun y hy => (by cases hy)⟩, .inl ⟨rfl, rfl, rfl⟩⟩
theorem UI.step {f : Int} {has : Nat → Bool} {r0 : List Int} {W : Nat → Nat → Nat} {n : Nat} {s : Ch} (h : UI f has r0 W n s) (hf : 2 ≤ f ∧ f ≤ 64) (hn : (n : Int) < f) (hc : fz s.r < 16) : UI f has r0 W (n + 1) (stC f s) := by
  obtain ⟨r, t, ps⟩ := s
  obtain ⟨ti, sm, arc, sa, asc, cs, lo, two⟩ := h
  simp only at ti sm arc sa asc cs lo two hc
  have hl : fz r < r.length := by rw [ti.ok.l]; exact hc
  have htt := ti.ok.t
  have t64 : 0 ≤ t ∧ t < 64 := by omega
  have hrn := fz_at hl
  have hrb := ti.ok.n (fz r)
  have h0 : ps.countP (atB (fz r : Nat) t) = 0 := by
    rcases ti.free hc with e | e
    · rw [show ((t.toNat : Nat) : Int) = t by omega] at e; omega
    · omega
  have cnt : ∀ c s : Int, (addP ps (fz r : Nat) t).countP (atB c s) = ps.countP (atB c s) + if (c < 0 ∨ ((fz r : Nat) : Int) = c) ∧ s = t then 1 else 0 := fun c s => addP_cnt t64 h0
  have hhas : has (fz r) = true := by
    cases e : has (fz r) with
    | true => rfl
    | false => exact absurd (ti.has _ hc e) hrn
  obtain ⟨f1, f2, f3⟩ := fz_less (x := r.getD (fz r) 0 - 1) hl
  have gd : ∀ i, (r.set (fz r) (r.getD (fz r) 0 - 1)).getD i 0 = if i = fz r then r.getD (fz r) 0 - 1 else r.getD i 0 := fun i => set_getD hl
  refine ⟨?_, fun c hc' => ?_, fun x hx => ?_, ?_, ?_, ?_, ⟨Nat.le_trans lo.1 f1, fun y hy => ?_⟩, ?_⟩
  · refine ti.tick hf.1 hc fun c s a b => ?_
    show W c s + (addP ps (fz r : Nat) t).countP _ = _
    rw [cnt]
    have : ((((c : Nat) : Int) < 0 ∨ ((fz r : Nat) : Int) = (c : Nat)) ∧ ((s : Nat) : Int) = t) = (c = fz r ∧ ((s : Nat) : Int) = t) := propext (by omega)
    simp only [this]
    omega
  · show S (fun x => (((addP ps (fz r : Nat) t).countP (atB (c : Nat) (x : Nat)) : Nat) : Int)) 64 + (r.set (fz r) (r.getD (fz r) 0 - 1)).getD c 0 = _
    rw [gd, ← sm c hc']
    by_cases e : c = fz r
    · subst e
      rw [if_pos rfl, S_inc (g := fun x => ((ps.countP (atB (fz r : Nat) (x : Nat)) : Nat) : Int)) t64 fun s hs => by
        rw [cnt]
        by_cases e2 : ((s : Nat) : Int) = t
        · rw [if_pos ⟨.inr rfl, e2⟩, if_pos e2]; omega
        · rw [if_neg (fun q => e2 q.2), if_neg e2]; omega]
      omega
    · rw [if_neg e, S_congr (g := fun x => ((ps.countP (atB (c : Nat) (x : Nat)) : Nat) : Int)) fun s hs => by
        rw [cnt, if_neg (by omega), Nat.add_zero]]
  · show (addP ps (fz r : Nat) t).countP _ = if inArc f ((t + 1) % f) (n + 1) x then 1 else 0
    rw [cnt, inArc_step hf.1 htt hn, arc x hx]
    have : (((-1 : Int) < 0 ∨ ((fz r : Nat) : Int) = -1) ∧ ((x : Nat) : Int) = t) = (((x : Nat) : Int) = t) := propext (by omega)
    simp only [this]
  · refine Eq.trans (S_congr (g := fun x => (((addP ps (fz r : Nat) t).countP (atB (-1) (x : Nat)) : Nat) : Int)) fun s hs => rfl) ?_
    rw [S_inc (g := fun x => ((ps.countP (atB (-1) (x : Nat)) : Nat) : Int)) t64 fun s hs => by
        rw [cnt]
        by_cases e2 : ((s : Nat) : Int) = t
        · rw [if_pos ⟨.inl (by omega), e2⟩, if_pos e2]; omega
        · rw [if_neg (fun q => e2 q.2), if_neg e2]; omega, sa]
    omega
  · show (addP ps (fz r : Nat) t).Pairwise _
    rcases List.eq_nil_or_concat ps with rfl | ⟨L, b, rfl⟩
    · rw [addP_new (fun y hy => by cases hy)]; simp
    · simp only [List.concat_eq_append] at *
      obtain ⟨b1, b2⟩ := b
      rw [List.pairwise_append] at asc
      have hb := (cs (b1, b2) (by simp)).2.1
      simp only at hb
      by_cases e : b1 = ((fz r : Nat) : Int)
      · subst e
        rw [addP_old, List.pairwise_append]
        exact ⟨asc.1, by simp, fun x hx y hy => by
          have := asc.2.2 x hx _ (List.mem_singleton.2 rfl)
          rw [List.mem_singleton] at hy; subst hy; exact this⟩
      · have e2 : addP (L ++ [(b1, b2)]) (fz r : Nat) t = (L ++ [(b1, b2)]) ++ [(((fz r : Nat) : Int), withB 0#64 t)] := by
          unfold addP
          rw [List.getLast?_concat]
          simp only []
          rw [if_neg e]
        rw [e2, List.pairwise_append]
        refine ⟨by rw [List.pairwise_append]; exact asc, by simp, fun x hx y hy => ?_⟩
        rw [List.mem_singleton] at hy; subst hy
        rcases List.mem_append.1 hx with hx | hx
        · have := asc.2.2 x hx _ (List.mem_singleton.2 rfl); simp only at this ⊢; omega
        · rw [List.mem_singleton] at hx; subst hx; simp only; omega
  · intro y hy
    have hy' : y ∈ addP ps (fz r : Nat) t := hy
    show 0 ≤ y.1 ∧ y.1 ≤ (fz (r.set (fz r) (r.getD (fz r) 0 - 1)) : Nat) ∧ _
    have new : ∀ w : BitVec 64, y = (((fz r : Nat) : Int), withB w t) → 0 ≤ y.1 ∧ y.1 ≤ (fz (r.set (fz r) (r.getD (fz r) 0 - 1)) : Nat) ∧ y.1 < 16 ∧ has y.1.toNat = true ∧ y.2 ≠ 0#64 := fun w e => by
      subst e
      exact ⟨by simp only; omega, by simp only; omega, by simp only; omega, by simpa using hhas, withB_ne t64⟩
    have old : y ∈ ps → 0 ≤ y.1 ∧ y.1 ≤ (fz (r.set (fz r) (r.getD (fz r) 0 - 1)) : Nat) ∧ y.1 < 16 ∧ has y.1.toNat = true ∧ y.2 ≠ 0#64 := fun e => by
      have := cs y e
      exact ⟨this.1, by omega, this.2.2⟩
    unfold addP at hy'
    split at hy'
    · split at hy'
      · rcases List.mem_append.1 hy' with hy' | hy'
        · exact old (List.dropLast_subset _ hy')
        · exact new _ (List.mem_singleton.1 hy')
      · rcases List.mem_append.1 hy' with hy' | hy'
        · exact old hy'
        · exact new _ (List.mem_singleton.1 hy')
    · exact new _ (List.mem_singleton.1 hy')
  · have hy' : y ∈ addP ps (fz r : Nat) t := hy
    have new : ∀ w : BitVec 64, y = (((fz r : Nat) : Int), withB w t) → ((fz r0 : Nat) : Int) ≤ y.1 := fun w e => by
      subst e
      have := lo.1
      simp only; omega
    unfold addP at hy'
    split at hy'
    · split at hy'
      · rcases List.mem_append.1 hy' with hy' | hy'
        · exact lo.2 _ (List.dropLast_subset _ hy')
        · exact new _ (List.mem_singleton.1 hy')
      · rcases List.mem_append.1 hy' with hy' | hy'
        · exact lo.2 _ hy'
        · exact new _ (List.mem_singleton.1 hy')
    · exact new _ (List.mem_singleton.1 hy')
  · show (_ ∨ (1 ≤ n + 1 ∧ (addP ps (fz r : Nat) t).length = 1 ∧ (r.set (fz r) (r.getD (fz r) 0 - 1)).getD (fz r0) 0 + ((n + 1 : Nat) : Int) = r0.getD (fz r0) 0 ∧ ∀ y ∈ addP ps (fz r : Nat) t, y.1 = ((fz r0 : Nat) : Int)) ∨ 2 ≤ (addP ps (fz r : Nat) t).length)
    rcases two with ⟨rfl, rfl, rfl⟩ | ⟨a1, a2, a3, a4⟩ | a
    · refine .inr (.inl ⟨by omega, ?_, ?_, ?_⟩)
      · rw [addP_new (fun y hy => by cases hy)]; rfl
      · rw [gd, if_pos rfl]; omega
      · rw [addP_new (fun y hy => by cases hy)]; simp
    · obtain ⟨b, rfl⟩ := List.length_eq_one_iff.1 a2
      obtain ⟨b1, b2⟩ := b
      have e0 := a4 (b1, b2) (by simp)
      simp only at e0
      by_cases e : b1 = ((fz r : Nat) : Int)
      · have e1 : fz r0 = fz r := by omega
        subst e
        have e2 := @addP_old [] ((fz r : Nat) : Int) t b2
        rw [List.nil_append, List.nil_append] at e2
        refine .inr (.inl ⟨by omega, by rw [e2]; rfl, ?_, ?_⟩)
        · rw [gd, if_pos e1]; rw [e1] at a3 ⊢; omega
        · rw [e2, e1]; simp
      · refine .inr (.inr ?_)
        unfold addP
        simp [e]
    · refine .inr (.inr ?_)
      unfold addP
      split
      · rename_i y hy
        split
        · simp; omega
        · simp; omega
      · rename_i hy
        rw [List.getLast?_eq_none_iff.1 hy] at a; simp at a
theorem UI.stN {f : Int} {has : Nat → Bool} {r0 : List Int} {W : Nat → Nat → Nat} {s : Ch} (h : UI f has r0 W 0 s) (hf : 2 ≤ f ∧ f ≤ 64) : ∀ {n : Nat}, (n : Int) ≤ f → (n : Int) ≤ s.r.sum → UI f has r0 W n (stN f n s)
  | 0, _, _ => h
  | n + 1, h1, h2 => by
    have ih := @UI.stN f has r0 W s h hf n (by omega) (by omega)
    obtain ⟨g1, g2⟩ := @stN_ok f hf.1 n s h.ti.ok (by omega)
    have hz := sum_fz (r := (Go.Am.stN f n s).r) (by omega)
    rw [g1.l] at hz
    exact ih.step hf (by omega) hz
end Go.Am


/- Chains, in plain Lean: the row, want by want. -/
set_option linter.unusedVariables false
set_option linter.unusedSimpArgs false
namespace Go.Am
open Classical

theorem sumW_perm {a b : List Wt} (h : a.Perm b) : sumW a = sumW b := by
  induction h with
  | nil => rfl
  | cons x _ ih => rw [sumW_cons, sumW_cons, ih]
  | swap x y l => simp only [sumW_cons]; omega
  | trans _ _ h1 h2 => rw [h1, h2]
theorem cntL_perm {a b : List Pl} (h : a.Perm b) {c t : Int} : cntL a c t = cntL b c t := by
  induction h with
  | nil => rfl
  | cons x _ ih => rw [cntL_cons, cntL_cons, ih]
  | swap x y l => simp only [cntL_cons]; omega
  | trans _ _ h1 h2 => rw [h1, h2]
theorem whL_perm {a b : List Pl} (h : a.Perm b) {c : Int} : sumW (whL a c) = sumW (whL b c) := sumW_perm ((h.filter _).map _)
theorem whL_cons {x : Pl} {l : List Pl} {c : Int} : sumW (whL (x :: l) c) = (if isWh c x = true then x.share else 0) + sumW (whL l c) := by
  unfold whL
  rw [List.filter_cons]
  split
  · rw [List.map_cons, sumW_cons]; rfl
  · omega
theorem csP_mono {p : PlanD} {a b : Nat} (h : a ≤ b) : (csP p a).length ≤ (csP p b).length := by
  induction b with
  | zero => have : a = 0 := by omega
            rw [this]; exact Nat.le_refl _
  | succ b ih =>
    by_cases e : a = b + 1
    · rw [e]; exact Nat.le_refl _
    · have := ih (by omega)
      rw [csP_succ, List.length_append]; omega
theorem csP_one {p : PlanD} {a : Nat} (h : hasC p (a : Nat) = true) : (csP p (a + 1)).length = (csP p a).length + 1 := by
  rw [csP_succ, if_pos h, List.length_append]; rfl
structure CI (p : PlanD) (l : List Wt) (i : Nat) (s : Cn) : Prop where
  ti : TI p.frame (fun c => hasC p (c : Nat)) (fun c x => cntL s.q (c : Nat) (x : Nat)) s.r s.t
  ld : ∀ c : Nat, c < 16 → hasC p (c : Nat) = true → S (fun x => ((cntL s.q (c : Nat) (x : Nat) : Nat) : Int)) 64 + sumW (whL s.q (c : Nat)) + s.r.getD c 0 = p.frame
  asc : Asc s.q
  pl : ∀ x ∈ s.q, refPlaceP p x
  sp : s.q.countP isSp = 0 ∨ ∃ c : Nat, c < 16 ∧ hasC p (c : Nat) = true ∧ c ≤ fz s.r ∧ s.q.countP isSp ≤ (csP p c).length
  full : ∀ x ∈ s.q, ∀ y ∈ x.pieces, ∀ z ∈ x.pieces, y.1 < z.1 → s.r.getD y.1.toNat 0 = 0
  old : ∀ x ∈ p.places, x ∈ s.q
  new : ∀ j (h : j < l.length), j < i → ∃ x ∈ s.q, x.unit = l[j].1 ∧ x.share = l[j].2
  len : s.q.length = p.places.length + i
  un : ∀ x ∈ s.q, x ∈ p.places ∨ ∃ j, ∃ h : j < l.length, j < i ∧ x.unit = l[j].1
theorem nosp_cnt {l : List Pl} (h : l.countP isSp = 0) {c t : Int} : cntL l c t = 0 := by
  induction l with
  | nil => rfl
  | cons x l ih =>
    rw [List.countP_cons] at h
    have hx : ¬ isSp x = true := fun e => by rw [if_pos e] at h; omega
    have : x.pieces = [] := List.eq_nil_of_length_eq_zero (by unfold isSp at hx; simp at hx; simp [hx])
    rw [cntL_cons, this, ih (by omega)]; rfl
theorem CI.start {p : PlanD} {l : List Wt} (hR : RightP p) (hL : PlanL p) (hs : p.places.countP isSp = 0) : CI p l 0 ⟨rmP p, 0, p.places⟩ := by
  obtain ⟨h1, h2⟩ := rm_ok hR hL
  have key : ∀ i, (rmP p).getD i 0 = if i < 16 then roomP p i else 0 := fun i => by
    unfold rmP
    by_cases g : i < 16
    · rw [if_pos g]; simp [List.getD, g]
    · rw [if_neg g]; simp [List.getD, g]
  refine ⟨⟨h1, fun hc => ⟨0, by have := h2 (fz (rmP p)); simp only; omega, fun s hs' => ?_⟩, fun c s _ _ _ => nosp_cnt hs, fun c s _ _ => ?_, fun c hc hh => ?_, h2⟩, fun c hc hh => ?_, hR.asc, fun x hx => hR.place hx, .inl hs, fun x hx y hy => ?_, fun x hx => hx, fun j h hj => by omega, rfl, fun x hx => .inl hx⟩
  · show cntL p.places _ _ = _
    rw [nosp_cnt hs, if_neg (inArc_zero (Int.le_refl _))]
  · show cntL p.places _ _ ≤ 1
    rw [nosp_cnt hs]; omega
  · show (rmP p).getD c 0 = 0
    rw [key, if_pos hc]
    have hh' : hasC p ((c : Nat) : Int) = false := hh
    unfold roomP
    rw [if_neg (by rw [hh']; simp)]
  · show S (fun x => ((cntL p.places (c : Nat) (x : Nat) : Nat) : Int)) 64 + sumW (whL p.places (c : Nat)) + (rmP p).getD c 0 = _
    rw [key, if_pos hc, hR.room]
    unfold roomR
    rw [if_pos hh, hR.load hc]
    unfold loadS
    omega
  · exfalso
    have : ¬ isSp x = true := by
      rw [List.countP_eq_zero] at hs; exact hs x hx
    have : x.pieces = [] := List.eq_nil_of_length_eq_zero (by unfold isSp at this; simp at this; simp [this])
    rw [this] at hy; cases hy
theorem pieces_pcOk {p : PlanD} {ps : List Pc} (hasc : ps.Pairwise fun a b => a.1 < b.1) (cs : ∀ y ∈ ps, 0 ≤ y.1 ∧ hasC p (y.1.toNat : Nat) = true ∧ y.2 ≠ 0#64) : ∀ i, i < ps.length → pcOk p ps i := fun i hi => by
  have h := cs _ (List.getElem_mem hi)
  refine ⟨hi, ?_, fun h0 => ?_, h.2.2⟩
  · have e : ((ps[i].1.toNat : Nat) : Int) = ps[i].1 := by omega
    rw [← e]; exact h.2.1
  · exact (List.pairwise_iff_getElem.1 hasc) (i - 1) i (by omega) hi (by omega)
theorem sumA_S' {ps : List Pc} {x : Pl} (h : x.pieces = ps) : (sumA x 64 : Int) = S (fun s => ((ps.countP (atB (-1) (s : Nat)) : Nat) : Int)) 64 := by
  rw [sumA_S]
  exact S_congr fun s _ => by unfold cntA; rw [h]
set_option maxHeartbeats 4000000 in
theorem CI.step {p : PlanD} {l : List Wt} {i : Nat} {s : Cn} (h : CI p l i s) (hi : i < l.length) (hk : LOk p.frame l) (hno : ¬ ∃ w ∈ l, hasU p.places w.1) (hs : l[i].2 ≤ s.r.sum) : CI p l (i + 1) (stpC p.frame s l[i]) := by
  obtain ⟨r, t, q⟩ := s
  obtain ⟨ti, ld, asc, pl, sp, full, old, new, len, un⟩ := h
  simp only at ti ld asc pl sp full old new len un hs
  have hw := hk.w _ (List.getElem_mem hi)
  have hu : ∀ k (hk : k < q.length), q[k].unit ≠ l[i].1 := fun k hk' e => by
    rcases un _ (List.getElem_mem hk') with g | ⟨j, hj, hji, g⟩
    · obtain ⟨k2, hk2, e2⟩ := List.getElem_of_mem g
      exact hno ⟨_, List.getElem_mem hi, k2, hk2, by rw [e2, e]⟩
    · exact (List.pairwise_iff_getElem.1 hk.u) j i hj hi hji (by rw [← g, e])
  have hfr := hk.fr
  have hz := sum_fz (r := r) (by omega)
  have hzl := ti.ok.l
  have hz16 : fz r < 16 := by omega
  have hrn := fz_at hz
  have hrb := ti.ok.n (fz r)
  have hhas : hasC p ((fz r : Nat) : Int) = true := by
    cases e : hasC p ((fz r : Nat) : Int) with
    | true => rfl
    | false => exact absurd (ti.has _ hz16 e) hrn
  obtain ⟨x, hx⟩ : ∃ x, (plcC p.frame r t l[i]).1 = x := ⟨_, rfl⟩
  have hxu : x.unit = l[i].1 ∧ x.share = l[i].2 := by rw [← hx]; exact plcC_unit
  have hp : (putP q x).Perm (x :: q) := by
    have := @putP_perm q x
    rwa [hxu.1, dropU_not hu] at this
  have hst : stpC p.frame ⟨r, t, q⟩ l[i] = ⟨(plcC p.frame r t l[i]).2.1, (plcC p.frame r t l[i]).2.2, putP q x⟩ := by unfold stpC; rw [hx]
  have hrle := fun k => plcC_le (f := p.frame) (r := r) (t := t) (w := l[i]) (by omega) k
  obtain ⟨hok', -⟩ := plcC_ok (r := r) (t := t) (w := l[i]) hfr.1 ti.ok hw.2.1 hs
  rw [hst]
  generalize hr' : (plcC p.frame r t l[i]).2.1 = r' at *
  generalize ht' : (plcC p.frame r t l[i]).2.2 = t' at *
  have mem : ∀ y, y ∈ putP q x ↔ y = x ∨ y ∈ q := fun y => by rw [hp.mem_iff, List.mem_cons]
  have rest : TI p.frame (fun c => hasC p (c : Nat)) (fun c k => cntL (x :: q) (c : Nat) (k : Nat)) r' t' →
      (∀ c : Nat, c < 16 → hasC p (c : Nat) = true → S (fun k => ((cntL (x :: q) (c : Nat) (k : Nat) : Nat) : Int)) 64 + sumW (whL (x :: q) (c : Nat)) + r'.getD c 0 = p.frame) → refPlaceP p x →
      ((x :: q).countP isSp = 0 ∨ ∃ c : Nat, c < 16 ∧ hasC p (c : Nat) = true ∧ c ≤ fz r' ∧ (x :: q).countP isSp ≤ (csP p c).length) →
      (∀ y ∈ x.pieces, ∀ z ∈ x.pieces, y.1 < z.1 → r'.getD y.1.toNat 0 = 0) → CI p l (i + 1) ⟨r', t', putP q x⟩ := fun a b c d e => by
    refine ⟨a.eqW fun c s _ _ => cntL_perm hp, fun k k1 k2 => ?_, putP_asc asc, fun y hy => ?_, ?_, fun y hy => ?_, fun y hy => (mem y).2 (.inr (old y hy)), fun j hj hji => ?_, ?_, fun y hy => ?_⟩
    · show S (fun k' => ((cntL (putP q x) (k : Nat) (k' : Nat) : Nat) : Int)) 64 + sumW (whL (putP q x) (k : Nat)) + r'.getD k 0 = p.frame
      rw [whL_perm hp, S_congr (g := fun k' => ((cntL (x :: q) (k : Nat) (k' : Nat) : Nat) : Int)) fun s _ => by rw [cntL_perm hp]]
      exact b k k1 k2
    · rcases (mem y).1 hy with rfl | hy
      · exact c
      · exact pl y hy
    · show (putP q x).countP isSp = 0 ∨ _
      rw [hp.countP_eq]; exact d
    · rcases (mem y).1 hy with rfl | hy
      · exact e
      · intro u hu' v hv huv
        have h1 := full y hy u hu' v hv huv
        have h2 := hrle u.1.toNat
        have h3 := hok'.n u.1.toNat
        show r'.getD _ 0 = 0
        omega
    · by_cases e : j = i
      · subst e; exact ⟨x, (mem x).2 (.inl rfl), hxu⟩
      · obtain ⟨y, hy, h1⟩ := new j hj (by omega)
        exact ⟨y, (mem y).2 (.inr hy), h1⟩
    · show (putP q x).length = _
      rw [hp.length_eq, List.length_cons, len]; omega
    · rcases (mem y).1 hy with rfl | hy
      · exact .inr ⟨i, hi, by omega, hxu.1⟩
      · rcases un y hy with g | ⟨j, hj, hji, g⟩
        · exact .inl g
        · exact .inr ⟨j, hj, by omega, g⟩
  by_cases g : l[i].2 ≤ r.getD (fz r) 0
  · have hX : plcC p.frame r t l[i] = (⟨l[i].1, l[i].2, (fz r : Nat), []⟩, r.set (fz r) (r.getD (fz r) 0 - l[i].2), t) := by unfold plcC; rw [if_pos g]
    rw [hX] at hx hr' ht'
    simp only at hx hr' ht'
    subst hx hr' ht'
    have hns : isSp ⟨l[i].1, l[i].2, (fz r : Nat), []⟩ = false := rfl
    refine rest ((ti.whole hz16 ⟨hw.2.1, g⟩).eqW fun c s _ _ => ?_) (fun c hc hh => ?_) ⟨hw.1, hw.2.1, hw.2.2, fun _ => hhas, fun e => absurd rfl e⟩ ?_ (fun y hy => by cases hy)
    · rw [cntL_cons]; simp
    · have h0 := ld c hc hh
      have e0 : S (fun k => ((cntL (⟨l[i].1, l[i].2, (fz r : Nat), []⟩ :: q) (c : Nat) (k : Nat) : Nat) : Int)) 64 = S (fun k => ((cntL q (c : Nat) (k : Nat) : Nat) : Int)) 64 := S_congr fun s _ => by rw [cntL_cons]; simp
      rw [e0, whL_cons, set_getD hz]
      by_cases e : c = fz r
      · subst e
        have : isWh ((fz r : Nat) : Int) ⟨l[i].1, l[i].2, (fz r : Nat), []⟩ = true := by unfold isWh; rw [hns]; simp
        rw [if_pos this, if_pos rfl]; simp only; omega
      · have : ¬ isWh ((c : Nat) : Int) ⟨l[i].1, l[i].2, (fz r : Nat), []⟩ = true := by unfold isWh; rw [hns]; simp; omega
        rw [if_neg this, if_neg e]; omega
    · rw [List.countP_cons, hns]
      rcases sp with e | ⟨c, c1, c2, c3, c4⟩
      · exact .inl (by simpa using e)
      · exact .inr ⟨c, c1, c2, Nat.le_trans c3 (fz_less hz).1, by simpa using c4⟩
  · have hX : plcC p.frame r t l[i] = (⟨l[i].1, l[i].2, 0, (stN p.frame l[i].2.toNat ⟨r, t, []⟩).ps⟩, (stN p.frame l[i].2.toNat ⟨r, t, []⟩).r, (stN p.frame l[i].2.toNat ⟨r, t, []⟩).t) := by unfold plcC; rw [if_neg g]
    rw [hX] at hx hr' ht'
    simp only at hx hr' ht'
    subst hx hr' ht'
    have hU : UI p.frame (fun c => hasC p (c : Nat)) r (fun c x => cntL q (c : Nat) (x : Nat)) l[i].2.toNat (stN p.frame l[i].2.toNat ⟨r, t, []⟩) := UI.stN (UI.nil ti) hfr (by omega) (by simp only; omega)
    generalize stN p.frame l[i].2.toNat ⟨r, t, []⟩ = X at *
    have tw : 2 ≤ X.ps.length := by
      rcases hU.two with ⟨a, -, -⟩ | ⟨-, -, a, -⟩ | a
      · omega
      · have := (hok'.n (fz r)).1
        omega
      · exact a
    have hsp : isSp ⟨l[i].1, l[i].2, 0, X.ps⟩ = true := by unfold isSp; exact decide_eq_true (by simp only; omega)
    have lt01 := (List.pairwise_iff_getElem.1 hU.asc) 0 1 (by omega) (by omega) (by omega)
    have c0 := hU.lo.2 _ (List.getElem_mem (show 0 < X.ps.length by omega))
    have c1 := hU.cs _ (List.getElem_mem (show 1 < X.ps.length by omega))
    refine rest (hU.ti.eqW fun c s _ _ => ?_) (fun c hc hh => ?_) ⟨hw.1, hw.2.1, hw.2.2, fun e => by simp only at e; omega, fun _ => ⟨pieces_pcOk hU.asc fun y hy => ⟨(hU.cs y hy).1, (hU.cs y hy).2.2.2⟩, fun k hk' => ?_, tw, rfl, ?_⟩⟩ ?_ (fun y hy z hz' hyz => ?_)
    · rw [cntL_cons]; simp only; omega
    · have h0 := ld c hc hh
      have h1 := hU.sm c hc
      have e0 : S (fun k => ((cntL (⟨l[i].1, l[i].2, 0, X.ps⟩ :: q) (c : Nat) (k : Nat) : Nat) : Int)) 64 = S (fun k => ((X.ps.countP (atB (c : Nat) (k : Nat)) : Nat) : Int)) 64 + S (fun k => ((cntL q (c : Nat) (k : Nat) : Nat) : Int)) 64 := by
        rw [← S_add]
        exact S_congr fun s _ => by rw [cntL_cons]; simp only; omega
      have : ¬ isWh ((c : Nat) : Int) ⟨l[i].1, l[i].2, 0, X.ps⟩ = true := by unfold isWh; rw [hsp]; simp
      rw [e0, whL_cons, if_neg this]; omega
    · have := hU.arc k hk'
      show X.ps.countP _ ≤ 1 ∧ (0 < X.ps.countP _ → _)
      rw [this]
      by_cases e : inArc p.frame X.t l[i].2.toNat k
      · rw [if_pos e]; exact ⟨Nat.le_refl _, fun _ => e.1⟩
      · rw [if_neg e]; exact ⟨by omega, fun h => by omega⟩
    · rw [sumA_S' rfl, hU.sa]; simp only; omega
    · right
      refine ⟨X.ps[1].1.toNat, by omega, c1.2.2.2.1, by omega, ?_⟩
      rw [List.countP_cons, if_pos hsp]
      have m1 := csP_mono (p := p) (a := fz r + 1) (b := X.ps[1].1.toNat) (by omega)
      have m2 := csP_one hhas
      rcases sp with e | ⟨c, d1, d2, d3, d4⟩
      · omega
      · have := csP_mono (p := p) d3; omega
    · have h1 := hU.cs z hz'
      have h2 := hU.cs y hy
      exact fz_before (by omega)
end Go.Am


/- Chains, in plain Lean: the plan behind it is right. -/
set_option linter.unusedVariables false
set_option linter.unusedSimpArgs false
namespace Go.Am
open Classical

theorem CI.run {p : PlanD} {l : List Wt} {n : Nat} {s : Cn} (hk : LOk p.frame l) (hno : ¬ ∃ w ∈ l, hasU p.places w.1) (h : CI p l 0 s) (hc : CnOk p.frame s n (sumW l)) : ∀ {i : Nat}, i ≤ l.length → CI p l i (chF p.frame s (l.take i))
  | 0, _ => h
  | i + 1, hi => by
    have ih := @CI.run p l n s hk hno h hc i (by omega)
    have hS := chF_ok hk.fr (fun w hw => (hk.w w hw).2) hc (i := i) (by omega)
    have hdr : l.drop i = l[i] :: l.drop (i + 1) := List.drop_eq_getElem_cons (by omega)
    have hpos := @sumW_pos (l.drop (i + 1)) fun w hw' => (hk.w w (List.mem_of_mem_drop hw')).2.1
    have hsm := hS.sm
    rw [hdr, sumW_cons] at hsm
    rw [chF_succ (by omega)]
    exact ih.step (by omega) hk hno (by omega)
theorem splitR_CI {p : PlanD} {l : List Wt} (hL : lightP p = true) (hw : whyC p l = 0) : CI p l l.length (chF p.frame ⟨rmP p, 0, p.places⟩ l) := by
  obtain ⟨hR, hk, hno, hsp, -⟩ := why0 hw
  have := CI.run hk hno (CI.start (l := l) hR (light_l hL) hsp) (cn0 hL hw) (Nat.le_refl l.length)
  rwa [List.take_length] at this
theorem load_of {p : PlanD} {c : Nat} (h : ∀ t : Nat, t < 64 → cntL p.places (c : Nat) (t : Nat) ≤ 1) : loadR p c = loadS p c := by
  unfold loadR loadS
  rw [tks_S]
  congr 1
  refine S_congr fun t ht => ?_
  rw [windows_same]
  have h1 := h t ht
  have h2 := cntL_pos (l := p.places) (c := c) ht
  split
  · rename_i e; rw [← h2] at e; omega
  · rename_i e; rw [← h2] at e; omega
theorem splitR_room {p : PlanD} {l : List Wt} {s : Cn} (h : CI p l l.length s) {c : Nat} (hc : c < 16) (hh : hasC p (c : Nat) = true) : loadR ⟨p.frame, p.cores, s.q⟩ c = p.frame - s.r.getD c 0 := by
  rw [load_of fun t ht => h.ti.one c t hc ht]
  have := h.ld c hc hh
  unfold loadS
  show S (fun x => ((cntL s.q (c : Nat) (x : Nat) : Nat) : Int)) 64 + sumW (whL s.q (c : Nat)) = _
  omega
theorem splitR_right {p : PlanD} {l : List Wt} {s : Cn} (hR : RightP p) (h : CI p l l.length s) : RightP ⟨p.frame, p.cores, s.q⟩ := by
  refine ⟨hR.1, hR.2.1, hR.2.2.1, hR.2.2.2.1, fun i hi => ⟨hi, h.pl _ (List.getElem_mem hi), fun h0 => h.asc (i - 1) i (by omega) hi⟩, fun c hc t ht => h.ti.one c t hc ht, ?_, fun c hc => ?_⟩
  · show s.q.countP isSp < (csP p 16).length
    rcases h.sp with e | ⟨c, c1, c2, c3, c4⟩
    · have := hR.2.2.2.2.2.2.1; omega
    · have m1 := csP_mono (p := p) (a := c + 1) (b := 16) (by omega)
      have m2 := csP_one c2
      omega
  · have hc' : c ∈ csP p 16 := hc
    rw [csP_mem] at hc'
    rw [splitR_room h hc'.1 hc'.2]
    have := h.ti.ok.n c
    show p.frame - _ ≤ p.frame
    omega
theorem splitR_full {p : PlanD} {l : List Wt} {s : Cn} (h : CI p l l.length s) {x : Pl} (hx : x ∈ s.q) {i : Nat} (hi : i + 1 < x.pieces.length) : roomR ⟨p.frame, p.cores, s.q⟩ (x.pieces[i]'(by omega)).1 = 0 := by
  have hpl := (h.pl x hx).2.2.2.2 (by omega)
  obtain ⟨_, h1, -, -⟩ := hpl.1 i (by omega)
  obtain ⟨_, -, h2, -⟩ := hpl.1 (i + 1) hi
  have h3 := h2 (by omega)
  obtain ⟨r0, r1⟩ := hasC_range h1
  have h4 := h.full x hx _ (List.getElem_mem (show i < x.pieces.length by omega)) _ (List.getElem_mem hi) (by simpa using h3)
  obtain ⟨n, hn⟩ := Int.eq_ofNat_of_zero_le r0
  unfold roomR
  have hh : hasC ⟨p.frame, p.cores, s.q⟩ (x.pieces[i]'(by omega)).1 = true := h1
  rw [if_pos hh]
  rw [hn] at h4 h1 ⊢
  rw [splitR_room h (by omega) h1]
  rw [show ((n : Nat) : Int).toNat = n by omega] at h4
  rw [h4]
  show p.frame - (p.frame - 0) = 0
  omega
theorem find_old {p : PlanD} {l : List Wt} {s : Cn} (h : CI p l l.length s) {x : Pl} (hx : x ∈ p.places) : hasU s.q x.unit ∧ findP s.q x.unit = x := by
  obtain ⟨i, hi, e⟩ := List.getElem_of_mem (h.old x hx)
  exact ⟨⟨i, hi, by rw [e]⟩, by rw [findP_at h.asc hi (by rw [e]), e]⟩
theorem find_new {p : PlanD} {l : List Wt} {s : Cn} (h : CI p l l.length s) {j : Nat} (hj : j < l.length) : hasU s.q l[j].1 ∧ (findP s.q l[j].1).share = l[j].2 := by
  obtain ⟨x, hx, h1, h2⟩ := h.new j hj hj
  obtain ⟨i, hi, e⟩ := List.getElem_of_mem hx
  exact ⟨⟨i, hi, by rw [e, h1]⟩, by rw [findP_at h.asc hi (by rw [e, h1]), e, h2]⟩
end Go.Am
