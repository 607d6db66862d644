/- Parts of the proofs of the statements of this seat: LocalW5, LocalX1, LocalX2, WLocalRest. No conditions. -/
import Derived.Test.YtndiggibkngjlaaLocalRestPart7
import Derived.Test.YtndiggibkngjlaaLocalRestPart3
set_option linter.unusedVariables false
set_option linter.unusedSimpArgs false

/- A local: made for the laws. -/
set_option linter.unusedVariables false
set_option linter.unusedSimpArgs false
namespace Go.Am
variable {m : Mem}

def sumW : List Sp → Int
  | [] => 0
  | w :: r => w.2 + sumW r
theorem sumW_perm {l l' : List Sp} (h : l.Perm l') : sumW l = sumW l' := by
  induction h with
  | nil => rfl
  | cons x _ ih => simp only [sumW, ih]
  | swap x y l => simp only [sumW]; omega
  | trans _ _ h1 h2 => exact h1.trans h2
theorem sumW_wts : ∀ {L : List En}, sumW (wts L) = sumN sI L
  | [] => rfl
  | e :: L => by
    show e.s + sumW (wts L) = e.s + sumN sI L
    rw [sumW_wts]
theorem sumW_nn {l : List Sp} (h : ∀ w ∈ l, 0 ≤ w.2) : 0 ≤ sumW l := by
  induction l with
  | nil => exact Int.le_refl _
  | cons w l ih =>
    have := h w (by simp)
    have := ih fun x hx => h x (by simp [hx])
    show 0 ≤ w.2 + sumW l
    omega

theorem totO_sum : ∀ {l : List Sp} {n : Int}, (∀ w ∈ l, 0 ≤ w.2 ∧ w.2 ≤ 1000) → 0 ≤ n → n + 1000 * l.length ≤ 1000000000 → totO n l = some (n + sumW l)
  | [], n, _, _, _ => by show some n = some (n + 0); rw [Int.add_zero]
  | w :: l, n, h, hn, hb => by
    have hw := h w (by simp)
    simp only [List.length_cons] at hb
    rw [totO, if_pos (by unfold inR; omega), totO_sum (fun x hx => h x (by simp [hx])) (by omega) (by omega)]
    show some (n + w.2 + sumW l) = some (n + (w.2 + sumW l))
    congr 1; omega

theorem chkF_zero {f : Int} : ∀ {l pre : List Sp}, chkF f pre l = 0 → (∀ w ∈ l, isU w.1 ∧ 1 ≤ w.2 ∧ w.2 ≤ f) ∧ (l.map Prod.fst).Nodup ∧ ∀ w ∈ l, ∀ p ∈ pre, p.1 ≠ w.1
  | [], pre, _ => by simp
  | w :: l, pre, h => by
    rw [chkF] at h
    split at h
    · cases h
    · rename_i h1
      split at h
      · cases h
      · rename_i h2
        split at h
        · cases h
        · rename_i h3
          obtain ⟨k1, k2, k3⟩ := chkF_zero h
          refine ⟨fun x hx => ?_, ?_, fun x hx p hp => ?_⟩
          · rcases List.mem_cons.1 hx with rfl | hx
            · exact ⟨Classical.not_not.1 h1, by omega, by omega⟩
            · exact k1 x hx
          · rw [List.map_cons, List.nodup_cons]
            refine ⟨fun hm => ?_, k2⟩
            obtain ⟨y, hy, e⟩ := List.mem_map.1 hm
            exact k3 y hy w (by simp) e.symm
          · rcases List.mem_cons.1 hx with rfl | hx
            · intro e; exact h3 ⟨p, hp, e⟩
            · exact k3 x hx p (by simp [hp])

theorem newE_zero {f : Int} {l : List Sp} (h : newE f l = 0) (hl : l.length ≤ 1000) : 2 ≤ f ∧ f ≤ 64 ∧ (∀ w ∈ l, isU w.1 ∧ 1 ≤ w.2 ∧ w.2 ≤ f) ∧ (l.map Prod.fst).Nodup ∧ sumW l ≤ f := by
  unfold newE at h
  split at h
  · rename_i hc
    unfold chkA at hc
    split at hc
    · cases hc
    · rename_i hf
      obtain ⟨k1, k2, k3⟩ := chkF_zero hc
      have ht := totO_sum (n := 0) (l := l) (fun w hw => by have := k1 w hw; omega) (by omega) (by omega)
      rw [ht] at h
      simp only at h
      split at h
      · cases h
      · exact ⟨by omega, by omega, k1, k2, by omega⟩
  · rename_i hc; exact absurd h hc

theorem ref15Check {l : List Sp} {v : Value} {f : Int} (hs : Sl m 2 l.length (l.flatMap spV) v) (hl : l.length ≤ 1000) (hr : ∀ w ∈ l, inR w.2) :
    WC R F.ref15_Check [.int .i64 f, v] m fun r m' => r = .int .i64 (newE f l) ∧ m' = m := by
  refine WC.of R.ref15_Check rfl ?_
  simp only [RC.ref15_Check, go_sem, Bool.false_and, new_set, Int.reduceBEq, Int.reduceBNe, Int.reduceNeg, not_true_eq_false, beq_self_eq_true, bne_self_eq_false, Bool.false_eq_true, if_false, if_true, Int.cast_ofNat_Int, decide_true, decide_false, reduceCtorEq, Nat.reduceEqDiff, Nat.reduceAdd, ne_eq, not_false_eq_true, Option.map_some, Option.bind_some, Option.map_none, Option.bind_none, true_and, and_true, Bool.not_true, Bool.not_false, Nat.reduceLeDiff, Nat.reduceMul, Nat.reduceSub, Nat.le_refl, Int.reduceToNat, Int.reduceLT, Int.reduceLE, Nat.one_mul, Nat.mul_one]
  refine gC.of (refCheck hs (by omega)) ?_
  rintro _ _ ⟨rfl, hm⟩
  subst hm
  by_cases g1 : chkA f l = 0
  · have e1 : (chkA f l != 0) = false := by rw [g1]; rfl
    simp only [go_sem, Bool.false_and, new_set, Int.reduceBEq, Int.reduceBNe, Int.reduceNeg, not_true_eq_false, beq_self_eq_true, bne_self_eq_false, Bool.false_eq_true, if_false, if_true, Int.cast_ofNat_Int, decide_true, decide_false, reduceCtorEq, Nat.reduceEqDiff, Nat.reduceAdd, ne_eq, not_false_eq_true, Option.map_some, Option.bind_some, Option.map_none, Option.bind_none, true_and, and_true, Bool.not_true, Bool.not_false, Nat.reduceLeDiff, Nat.reduceMul, Nat.reduceSub, Nat.le_refl, Int.reduceToNat, Int.reduceLT, Int.reduceLE, Nat.one_mul, Nat.mul_one, e1]
    refine gC.of (refTotal hs (by omega) hr) ?_
    rintro _ _ ⟨⟨n, ht, rfl⟩ | ⟨ht, rfl⟩, hm⟩ <;> subst hm
    · have hE : newE f l = if f < n then 12 else 0 := by unfold newE; rw [if_pos g1, ht]
      by_cases g2 : f < n
      · have e3 : decide (f < n) = true := decide_eq_true g2
        rw [if_pos g2] at hE
        simp only [go_sem, Bool.false_and, new_set, Int.reduceBEq, Int.reduceBNe, Int.reduceNeg, not_true_eq_false, beq_self_eq_true, bne_self_eq_false, Bool.false_eq_true, if_false, if_true, Int.cast_ofNat_Int, decide_true, decide_false, reduceCtorEq, Nat.reduceEqDiff, Nat.reduceAdd, ne_eq, not_false_eq_true, Option.map_some, Option.bind_some, Option.map_none, Option.bind_none, true_and, and_true, Bool.not_true, Bool.not_false, Nat.reduceLeDiff, Nat.reduceMul, Nat.reduceSub, Nat.le_refl, Int.reduceToNat, Int.reduceLT, Int.reduceLE, Nat.one_mul, Nat.mul_one, aExt0, aExt1, e3]
        rw [hE]
      · have e3 : decide (f < n) = false := decide_eq_false g2
        rw [if_neg g2] at hE
        simp only [go_sem, Bool.false_and, new_set, Int.reduceBEq, Int.reduceBNe, Int.reduceNeg, not_true_eq_false, beq_self_eq_true, bne_self_eq_false, Bool.false_eq_true, if_false, if_true, Int.cast_ofNat_Int, decide_true, decide_false, reduceCtorEq, Nat.reduceEqDiff, Nat.reduceAdd, ne_eq, not_false_eq_true, Option.map_some, Option.bind_some, Option.map_none, Option.bind_none, true_and, and_true, Bool.not_true, Bool.not_false, Nat.reduceLeDiff, Nat.reduceMul, Nat.reduceSub, Nat.le_refl, Int.reduceToNat, Int.reduceLT, Int.reduceLE, Nat.one_mul, Nat.mul_one, aExt0, aExt1, e3]
        rw [hE]
    · exfalso
      have hc := g1
      unfold chkA at hc
      split at hc
      · cases hc
      · obtain ⟨k1, -, -⟩ := chkF_zero hc
        rw [totO_sum (n := 0) (fun w hw => by have := k1 w hw; omega) (by omega) (by omega)] at ht
        cases ht
  · have hE : newE f l = chkA f l := by unfold newE; rw [if_neg g1]
    have e1 : (chkA f l != 0) = true := by rw [bne_iff_ne]; exact g1
    simp only [go_sem, Bool.false_and, new_set, Int.reduceBEq, Int.reduceBNe, Int.reduceNeg, not_true_eq_false, beq_self_eq_true, bne_self_eq_false, Bool.false_eq_true, if_false, if_true, Int.cast_ofNat_Int, decide_true, decide_false, reduceCtorEq, Nat.reduceEqDiff, Nat.reduceAdd, ne_eq, not_false_eq_true, Option.map_some, Option.bind_some, Option.map_none, Option.bind_none, true_and, and_true, Bool.not_true, Bool.not_false, Nat.reduceLeDiff, Nat.reduceMul, Nat.reduceSub, Nat.le_refl, Int.reduceToNat, Int.reduceLT, Int.reduceLE, Nat.one_mul, Nat.mul_one, e1]
    rw [hE]

theorem wts_keys {L : List En} : wts L = keys L := rfl
theorem keys_ent {l : List Sp} : keys (l.map ent) = l := by
  unfold keys; rw [List.map_map]
  have : (fun e : En => (e.u, e.s)) ∘ ent = id := by funext w; rfl
  rw [this, List.map_id]
theorem keys_perm {L L' : List En} (h : L.Perm L') : (keys L).Perm (keys L') := h.map _

theorem locTotal {m0 : Mem} {b : Nat} {L : List En} {lv : Value} (h : LocV m0 m b L lv) (hl : L.length ≤ 1000) (hS : ∀ e ∈ L, 0 ≤ e.s ∧ e.s ≤ 1000) :
    WC R F.local_Local_Total [.pointer (some ⟨b, 0, none⟩)] m fun r m' => r = .int .i64 (sumN sI L) ∧ Ext m m' := by
  refine WC.of R.local_Local_Total rfl ?_
  simp only [RC.local_Local_Total, go_sem, Bool.false_and, new_set, Int.reduceBEq, Int.reduceBNe, Int.reduceNeg, not_true_eq_false, beq_self_eq_true, bne_self_eq_false, Bool.false_eq_true, if_false, if_true, Int.cast_ofNat_Int, decide_true, decide_false, reduceCtorEq, Nat.reduceEqDiff, Nat.reduceAdd, ne_eq, not_false_eq_true, Option.map_some, Option.bind_some, Option.map_none, Option.bind_none, true_and, and_true, Bool.not_true, Bool.not_false, Nat.reduceLeDiff, Nat.reduceMul, Nat.reduceSub, Nat.le_refl, Int.reduceToNat, Int.reduceLT, Int.reduceLE, Nat.one_mul, Nat.mul_one]
  refine gC.of (locWants h (by omega)) ?_
  rintro wv m1 ⟨ho, hx1⟩
  have hw : (wts L).length = L.length := by simp [wts]
  have hb : ∀ w ∈ wts L, 0 ≤ w.2 ∧ w.2 ≤ 1000 := fun w hw => by
    obtain ⟨e, he, rfl⟩ := List.mem_map.1 hw
    exact hS e he
  simp only [go_sem, Bool.false_and, new_set, Int.reduceBEq, Int.reduceBNe, Int.reduceNeg, not_true_eq_false, beq_self_eq_true, bne_self_eq_false, Bool.false_eq_true, if_false, if_true, Int.cast_ofNat_Int, decide_true, decide_false, reduceCtorEq, Nat.reduceEqDiff, Nat.reduceAdd, ne_eq, not_false_eq_true, Option.map_some, Option.bind_some, Option.map_none, Option.bind_none, true_and, and_true, Bool.not_true, Bool.not_false, Nat.reduceLeDiff, Nat.reduceMul, Nat.reduceSub, Nat.le_refl, Int.reduceToNat, Int.reduceLT, Int.reduceLE, Nat.one_mul, Nat.mul_one]
  refine gC.of (orTotal ho.sl ho.lt (by omega) (fun w hw => by have := hb w hw; unfold inR; omega)) ?_
  have ht := totO_sum (n := 0) (l := wts L) hb (by omega) (by omega)
  rintro _ m2 ⟨⟨n, hn, rfl⟩ | ⟨hn, rfl⟩, hx2⟩
  · rw [ht] at hn
    have : n = sumN sI L := by rw [← sumW_wts]; have := Option.some.inj hn; omega
    subst this
    simp only [go_sem, Bool.false_and, new_set, Int.reduceBEq, Int.reduceBNe, Int.reduceNeg, not_true_eq_false, beq_self_eq_true, bne_self_eq_false, Bool.false_eq_true, if_false, if_true, Int.cast_ofNat_Int, decide_true, decide_false, reduceCtorEq, Nat.reduceEqDiff, Nat.reduceAdd, ne_eq, not_false_eq_true, Option.map_some, Option.bind_some, Option.map_none, Option.bind_none, true_and, and_true, Bool.not_true, Bool.not_false, Nat.reduceLeDiff, Nat.reduceMul, Nat.reduceSub, Nat.le_refl, Int.reduceToNat, Int.reduceLT, Int.reduceLE, Nat.one_mul, Nat.mul_one, aExt0, aExt1]
    exact hx1.trans hx2
  · rw [ht] at hn; cases hn

theorem pick_g {L : List En} {off : Int → Bool} {K : Nat} (hs : ∀ e ∈ L, 0 < e.s) (h : ∀ e ∈ L, e.g ≤ K) : ∀ e ∈ pick L off, e.g ≤ K + 1 := by
  have sp := bst_spec (off := off) hs L.length (Nat.le_refl _)
  intro e he
  cases hb : bst L off L.length with
  | none =>
    have : pick L off = L := by unfold pick; rw [hb]
    rw [this] at he
    have := h e he; omega
  | some b =>
    rw [hb] at sp
    rw [pick_some hb sp.1] at he
    rcases List.mem_or_eq_of_mem_set he with h1 | h1
    · have := h e h1; omega
    · have := h _ (List.getElem_mem sp.1)
      rw [h1]; show L[b].g + 1 ≤ K + 1; omega

/-- Bounds of all. -/
structure Bd (L : List En) (K : Nat) : Prop where
  s : ∀ e ∈ L, 0 < e.s ∧ e.s ≤ 64
  g : ∀ e ∈ L, e.g ≤ K
theorem Bd.pos {L : List En} {K : Nat} (h : Bd L K) : ∀ e ∈ L, 0 < e.s := fun e he => (h.s e he).1
theorem Bd.sm {L : List En} {K : Nat} (h : Bd L K) (hK : K < 900000) : ∀ e ∈ L, Sm e := fun e he => ⟨(h.s e he).1, by have := (h.s e he).2; omega, by have := h.g e he; omega⟩
theorem Bd.pick {L : List En} {K : Nat} {off : Int → Bool} (h : Bd L K) : Bd (pick L off) (K + 1) := by
  refine ⟨fun e he => ?_, pick_g h.pos h.g⟩
  have hk := pick_keys (off := off) h.pos
  have : (e.u, e.s) ∈ keys L := by rw [← hk]; exact List.mem_map.2 ⟨e, he, rfl⟩
  obtain ⟨e', he', heq⟩ := List.mem_map.1 this
  have := h.s e' he'
  have : e'.s = e.s := congrArg Prod.snd heq
  omega

/-- A local of a law: nobody got anything yet. -/
structure MadeL (l : List Sp) (L : List En) : Prop where
  perm : (keys L).Perm l
  zero : ∀ e ∈ L, e.g = 0
  bd : Bd L 0

theorem locMade {l : List Sp} {v : Value} {f : Int} (hs : Sl m 2 l.length (l.flatMap spV) v) (hb : SlLt m v) (hl : l.length ≤ 80) (hr : ∀ w ∈ l, inR w.2) :
    WC R F.law15_made [.int .i64 f, v] m fun r m' => (newE f l ≠ 0 ∧ r = .tuple #[.pointer none, .bool false] ∧ Ext m m') ∨
      (newE f l = 0 ∧ ∃ b L lv, r = .tuple #[.pointer (some ⟨b, 0, none⟩), .bool true] ∧ LocV m m' b L lv ∧ MadeL l L) := by
  refine WC.of R.law15_made rfl ?_
  simp only [RC.law15_made, go_sem, Bool.false_and, new_set, Int.reduceBEq, Int.reduceBNe, Int.reduceNeg, not_true_eq_false, beq_self_eq_true, bne_self_eq_false, Bool.false_eq_true, if_false, if_true, Int.cast_ofNat_Int, decide_true, decide_false, reduceCtorEq, Nat.reduceEqDiff, Nat.reduceAdd, ne_eq, not_false_eq_true, Option.map_some, Option.bind_some, Option.map_none, Option.bind_none, true_and, and_true, Bool.not_true, Bool.not_false, Nat.reduceLeDiff, Nat.reduceMul, Nat.reduceSub, Nat.le_refl, Int.reduceToNat, Int.reduceLT, Int.reduceLE, Nat.one_mul, Nat.mul_one]
  refine gC.of (locNew hs hb (by omega) hr) ?_
  rintro _ m1 (⟨hE, rfl, hx⟩ | ⟨hE, b, L, lv, rfl, hV, hp, -⟩)
  · have e1 : (newE f l != 0) = true := by rw [bne_iff_ne]; exact hE
    simp only [go_sem, Bool.false_and, new_set, Int.reduceBEq, Int.reduceBNe, Int.reduceNeg, not_true_eq_false, beq_self_eq_true, bne_self_eq_false, Bool.false_eq_true, if_false, if_true, Int.cast_ofNat_Int, decide_true, decide_false, reduceCtorEq, Nat.reduceEqDiff, Nat.reduceAdd, ne_eq, not_false_eq_true, Option.map_some, Option.bind_some, Option.map_none, Option.bind_none, true_and, and_true, Bool.not_true, Bool.not_false, Nat.reduceLeDiff, Nat.reduceMul, Nat.reduceSub, Nat.le_refl, Int.reduceToNat, Int.reduceLT, Int.reduceLE, Nat.one_mul, Nat.mul_one, aExt0, aExt1, e1]
    exact .inl ⟨hE, hx⟩
  · have e1 : ((0 : Int) != 0) = false := rfl
    obtain ⟨f1, f2, k1, k2, k3⟩ := newE_zero hE (by omega)
    have hkp : (keys L).Perm l := by have := keys_perm hp; rw [keys_ent] at this; exact this
    have hLl : L.length = l.length := by rw [hp.length_eq, List.length_map]
    have hSm : ∀ e ∈ L, 0 < e.s ∧ e.s ≤ 64 := fun e he => by
      have : (e.u, e.s) ∈ l := hkp.mem_iff.1 (List.mem_map.2 ⟨e, he, rfl⟩)
      have := k1 _ this
      simp only at this; omega
    have hg0 : ∀ e ∈ L, e.g = 0 := fun e he => by
      obtain ⟨w, -, rfl⟩ := List.mem_map.1 (hp.mem_iff.1 he); rfl
    have pos : ∀ e ∈ L, 0 < e.s := fun e he => (hSm e he).1
    have hB : Bd L 0 := ⟨hSm, fun e he => by rw [hg0 e he]; exact Nat.le_refl _⟩
    have e2 : aEq .ptr (.pointer (some ⟨b, 0, none⟩)) (.pointer none) = some false := rfl
    simp only [go_sem, Bool.false_and, new_set, Int.reduceBEq, Int.reduceBNe, Int.reduceNeg, not_true_eq_false, beq_self_eq_true, bne_self_eq_false, Bool.false_eq_true, if_false, if_true, Int.cast_ofNat_Int, decide_true, decide_false, reduceCtorEq, Nat.reduceEqDiff, Nat.reduceAdd, ne_eq, not_false_eq_true, Option.map_some, Option.bind_some, Option.map_none, Option.bind_none, true_and, and_true, Bool.not_true, Bool.not_false, Nat.reduceLeDiff, Nat.reduceMul, Nat.reduceSub, Nat.le_refl, Int.reduceToNat, Int.reduceLT, Int.reduceLE, Nat.one_mul, Nat.mul_one, aExt0, aExt1, e1, e2]
    refine gC.of (locPick (off := []) hV (hB.sm (by omega)) (by omega) (.nil rfl rfl) trivial (by simp)) ?_
    rintro _ m2 ⟨-, hV2⟩
    have hk2 := pick_keys (off := offF []) pos
    have hB2 := hB.pick (off := offF [])
    have hl2 := keys_len hk2
    simp only [go_sem, Bool.false_and, new_set, Int.reduceBEq, Int.reduceBNe, Int.reduceNeg, not_true_eq_false, beq_self_eq_true, bne_self_eq_false, Bool.false_eq_true, if_false, if_true, Int.cast_ofNat_Int, decide_true, decide_false, reduceCtorEq, Nat.reduceEqDiff, Nat.reduceAdd, ne_eq, not_false_eq_true, Option.map_some, Option.bind_some, Option.map_none, Option.bind_none, true_and, and_true, Bool.not_true, Bool.not_false, Nat.reduceLeDiff, Nat.reduceMul, Nat.reduceSub, Nat.le_refl, Int.reduceToNat, Int.reduceLT, Int.reduceLE, Nat.one_mul, Nat.mul_one]
    refine gC.of (locPick (off := []) hV2 (hB2.sm (by omega)) (by omega) (.nil rfl rfl) trivial (by simp)) ?_
    rintro _ m3 ⟨-, hV3⟩
    have hk3 := pick_keys (off := offF []) hB2.pos
    have hB3 := hB2.pick (off := offF [])
    have hl3 := keys_len hk3
    simp only [go_sem, Bool.false_and, new_set, Int.reduceBEq, Int.reduceBNe, Int.reduceNeg, not_true_eq_false, beq_self_eq_true, bne_self_eq_false, Bool.false_eq_true, if_false, if_true, Int.cast_ofNat_Int, decide_true, decide_false, reduceCtorEq, Nat.reduceEqDiff, Nat.reduceAdd, ne_eq, not_false_eq_true, Option.map_some, Option.bind_some, Option.map_none, Option.bind_none, true_and, and_true, Bool.not_true, Bool.not_false, Nat.reduceLeDiff, Nat.reduceMul, Nat.reduceSub, Nat.le_refl, Int.reduceToNat, Int.reduceLT, Int.reduceLE, Nat.one_mul, Nat.mul_one]
    refine gC.of (locBegin hV3 (by omega)) ?_
    rintro _ m4 hV4
    simp only [go_sem, Bool.false_and, new_set, Int.reduceBEq, Int.reduceBNe, Int.reduceNeg, not_true_eq_false, beq_self_eq_true, bne_self_eq_false, Bool.false_eq_true, if_false, if_true, Int.cast_ofNat_Int, decide_true, decide_false, reduceCtorEq, Nat.reduceEqDiff, Nat.reduceAdd, ne_eq, not_false_eq_true, Option.map_some, Option.bind_some, Option.map_none, Option.bind_none, true_and, and_true, Bool.not_true, Bool.not_false, Nat.reduceLeDiff, Nat.reduceMul, Nat.reduceSub, Nat.le_refl, Int.reduceToNat, Int.reduceLT, Int.reduceLE, Nat.one_mul, Nat.mul_one]
    have hkz : ∀ L : List En, keys (L.map fun e => { e with g := 0 }) = keys L := fun L => by unfold keys; rw [List.map_map]; rfl
    refine .inr ⟨hE, b, _, lv, rfl, hV4, ?_, fun e he => ?_, ⟨fun e he => ?_, fun e he => ?_⟩⟩
    · rw [hkz, hk3, hk2]; exact hkp
    · obtain ⟨e', -, rfl⟩ := List.mem_map.1 he; rfl
    · obtain ⟨e', he', rfl⟩ := List.mem_map.1 he; exact hB3.s e' he'
    · obtain ⟨e', -, rfl⟩ := List.mem_map.1 he; exact Nat.le_refl _
end Go.Am


/- LocalJust. -/
set_option linter.unusedVariables false
set_option linter.unusedSimpArgs false
namespace Go.Am
variable {m : Mem}

theorem w_read {m : Mem} {v : Value} (h : Rd m (.sl [.int .i64, .int .i64]) v) : ∃ l : List Sp, Sl m 2 l.length (l.flatMap spV) v ∧ SlLt m v ∧ Cut 2 m v ∧ ∀ w ∈ l, inR w.1 ∧ inR w.2 := by
  obtain ⟨l, h1, h2, -⟩ := Rd.slice (f := fun (s : { s : Sp // inR s.1 ∧ inR s.2 }) => spV s.1) (fun cs hc => by
    obtain ⟨c, r, rfl, h1, h2⟩ := hc.one
    obtain ⟨d, r2, rfl, h3, h4⟩ := h2.one
    cases h4.none
    obtain ⟨a, rfl, a1, a2⟩ := h1.i64
    obtain ⟨b, rfl, b1, b2⟩ := h3.i64
    exact ⟨⟨(a, b), ⟨a1, a2⟩, b1, b2⟩, rfl⟩) h
  refine ⟨l.map Subtype.val, ?_, h2, h.free.cut, fun w hw => ?_⟩
  · rw [List.length_map, List.flatMap_map]
    exact h1
  · obtain ⟨s, -, rfl⟩ := List.mem_map.1 hw
    exact s.2

/-- The first ones of an argument. -/
theorem cutTo {l : List Sp} {v : Value} {N : Nat} (hs : Sl m 2 l.length (l.flatMap spV) v) (hb : SlLt m v) (hc : Cut 2 m v) :
    ∃ v', aSub 2 m v none (some (.int .i64 ((min l.length N : Nat) : Int))) none = some v' ∧ Sl m 2 (l.take N).length ((l.take N).flatMap spV) v' ∧ SlLt m v' ∧ (l.take N).length ≤ N := by
  obtain ⟨v', a1, a2, a3, a4⟩ := hs.to hc (k := .i64) (i := min l.length N) (by omega)
  have h : (l.take N).length = min l.length N := by rw [List.length_take]; omega
  have h2 : (l.flatMap spV).take (min l.length N * 2) = (l.take N).flatMap spV := by
    have e : l.flatMap spV = (l.take N).flatMap spV ++ (l.drop N).flatMap spV := by rw [← List.flatMap_append, List.take_append_drop]
    rw [e, List.take_left' (by rw [flat_len spV_len, h])]
  rw [h2, ← h] at a2
  exact ⟨v', a1, a2, a3 hb, by rw [h]; omega⟩

theorem same_unit : ∀ {l : List Sp}, (l.map Prod.fst).Nodup → ∀ {x y : Sp}, x ∈ l → y ∈ l → x.1 = y.1 → x = y
  | [], _, _, _, h, _, _ => by simp at h
  | w :: l, hn, x, y, hx, hy, e => by
    rw [List.map_cons, List.nodup_cons] at hn
    rcases List.mem_cons.1 hx with h1 | h1 <;> rcases List.mem_cons.1 hy with h2 | h2
    · rw [h1, h2]
    · exact absurd (List.mem_map.2 ⟨y, h2, by rw [← e, h1]⟩) hn.1
    · exact absurd (List.mem_map.2 ⟨x, h1, by rw [e, h2]⟩) hn.1
    · exact same_unit hn.2 h1 h2 e

/-- Behind some picks, with nobody off. -/
structure Picks (l : List Sp) (L : List En) (t : Nat) : Prop where
  perm : (keys L).Perm l
  fair : ∀ i, i < L.length → Fair L i
  sum : sumN gI L = t
  bd : Bd L t
theorem Picks.start {l : List Sp} {L : List En} (h : MadeL l L) : Picks l L 0 := by
  refine ⟨h.perm, fun i hi hi' j hj => ?_, ?_, h.bd⟩
  · rw [h.zero _ (List.getElem_mem hj), h.zero _ (List.getElem_mem hi)]
    have := (h.bd.s _ (List.getElem_mem hj)).1
    simp; omega
  · rw [sumN_congr (g := fun _ => 0) fun e he => by show (e.g : Int) = 0; rw [h.zero e he]; rfl, sumN_const]; simp
theorem Picks.pick {l : List Sp} {L : List En} {t : Nat} (h : Picks l L t) (h0 : 0 < L.length) : Picks l (pick L (offF [])) (t + 1) ∧ ∃ b, bst L (offF []) L.length = some b := by
  have hk := pick_keys (off := offF []) h.bd.pos
  have hl := keys_len hk
  obtain ⟨-, hs, hb⟩ := pick_fair (off := offF []) h.bd.pos h0 rfl (h.fair 0 h0)
  refine ⟨⟨by rw [hk]; exact h.perm, fun i hi => (pick_fair (off := offF []) h.bd.pos (by omega) rfl (h.fair i (by omega))).1, by rw [hs, h.sum]; omega, h.bd.pick⟩, hb⟩
theorem Picks.total {l : List Sp} {L : List En} {t : Nat} (h : Picks l L t) : sumN sI L = sumW l := by
  rw [← sumW_wts, wts_keys]; exact sumW_perm h.perm
theorem Picks.len {l : List Sp} {L : List En} {t : Nat} (h : Picks l L t) : L.length = l.length := by
  have := h.perm.length_eq; simpa [keys] using this
/-- Each want is there. -/
theorem Picks.there {l : List Sp} {L : List En} {t : Nat} (h : Picks l L t) {w : Sp} (hw : w ∈ l) : ∃ e ∈ L, e.u = w.1 := by
  obtain ⟨e, he, heq⟩ := List.mem_map.1 (h.perm.mem_iff.2 hw)
  exact ⟨e, he, congrArg Prod.fst heq⟩
theorem Picks.share {l : List Sp} {L : List En} {t : Nat} (h : Picks l L t) (hn : (l.map Prod.fst).Nodup) {w : Sp} (hw : w ∈ l) {i : Nat} (hi : i < L.length) (e : L[i].u = w.1) : L[i].s = w.2 := by
  have h1 : (L[i].u, L[i].s) ∈ l := h.perm.mem_iff.1 (List.mem_map.2 ⟨L[i], List.getElem_mem hi, rfl⟩)
  have := same_unit hn h1 hw e
  exact congrArg Prod.snd this

set_option maxHeartbeats 2000000 in
theorem LocalJust_spec {l : List Sp} {v : Value} {f : Int} (hs : Sl m 2 l.length (l.flatMap spV) v) (hb : SlLt m v) (hc : Cut 2 m v) (hr : ∀ w ∈ l, inR w.1 ∧ inR w.2) : WC R F.law15_LocalJust [.int .i64 f, v] m fun r _ => r = .bool true := by
  refine WC.of R.law15_LocalJust rfl ?_
  simp only [RC.law15_LocalJust, go_sem, Bool.false_and, new_set, Int.reduceBEq, Int.reduceBNe, Int.reduceNeg, not_true_eq_false, beq_self_eq_true, bne_self_eq_false, Bool.false_eq_true, if_false, if_true, Int.cast_ofNat_Int, decide_true, decide_false, reduceCtorEq, Nat.reduceEqDiff, Nat.reduceAdd, ne_eq, not_false_eq_true, Option.map_some, Option.bind_some, Option.map_none, Option.bind_none, true_and, and_true, Bool.not_true, Bool.not_false, Nat.reduceLeDiff, Nat.reduceMul, Nat.reduceSub, Nat.le_refl, Int.reduceToNat, Int.reduceLT, Int.reduceLE, Nat.one_mul, Nat.mul_one, hs.len]
  have e : (if (80 : Int) < l.length then (80 : Int) else l.length) = ((min l.length 80 : Nat) : Int) := by
    split <;> omega
  obtain ⟨v', a1, hs', hb', hL⟩ := cutTo (N := 80) hs hb hc
  have hrL : ∀ w ∈ l.take 80, inR w.2 := fun w hw => (hr w (List.mem_of_mem_take hw)).2
  generalize l.take 80 = l' at hs' hL hrL
  simp only [go_sem, Bool.false_and, new_set, Int.reduceBEq, Int.reduceBNe, Int.reduceNeg, not_true_eq_false, beq_self_eq_true, bne_self_eq_false, Bool.false_eq_true, if_false, if_true, Int.cast_ofNat_Int, decide_true, decide_false, reduceCtorEq, Nat.reduceEqDiff, Nat.reduceAdd, ne_eq, not_false_eq_true, Option.map_some, Option.bind_some, Option.map_none, Option.bind_none, true_and, and_true, Bool.not_true, Bool.not_false, Nat.reduceLeDiff, Nat.reduceMul, Nat.reduceSub, Nat.le_refl, Int.reduceToNat, Int.reduceLT, Int.reduceLE, Nat.one_mul, Nat.mul_one, e, a1]
  refine gC.of (locMade hs' hb' hL hrL) ?_
  rintro _ m1 (⟨hE, rfl, hx⟩ | ⟨hE, b, L, lv, rfl, hV, hM⟩)
  · simp only [go_sem, Bool.false_and, new_set, Int.reduceBEq, Int.reduceBNe, Int.reduceNeg, not_true_eq_false, beq_self_eq_true, bne_self_eq_false, Bool.false_eq_true, if_false, if_true, Int.cast_ofNat_Int, decide_true, decide_false, reduceCtorEq, Nat.reduceEqDiff, Nat.reduceAdd, ne_eq, not_false_eq_true, Option.map_some, Option.bind_some, Option.map_none, Option.bind_none, true_and, and_true, Bool.not_true, Bool.not_false, Nat.reduceLeDiff, Nat.reduceMul, Nat.reduceSub, Nat.le_refl, Int.reduceToNat, Int.reduceLT, Int.reduceLE, Nat.one_mul, Nat.mul_one, aExt0, aExt1]
    refine gC.of (ref15Check (hs'.keep hb' hx) (by omega) hrL) ?_
    rintro _ _ ⟨rfl, hm⟩
    subst hm
    have e1 : (newE f l' != 0) = true := by rw [bne_iff_ne]; exact hE
    simp only [go_sem, Bool.false_and, new_set, Int.reduceBEq, Int.reduceBNe, Int.reduceNeg, not_true_eq_false, beq_self_eq_true, bne_self_eq_false, Bool.false_eq_true, if_false, if_true, Int.cast_ofNat_Int, decide_true, decide_false, reduceCtorEq, Nat.reduceEqDiff, Nat.reduceAdd, ne_eq, not_false_eq_true, Option.map_some, Option.bind_some, Option.map_none, Option.bind_none, true_and, and_true, Bool.not_true, Bool.not_false, Nat.reduceLeDiff, Nat.reduceMul, Nat.reduceSub, Nat.le_refl, Int.reduceToNat, Int.reduceLT, Int.reduceLE, Nat.one_mul, Nat.mul_one, e1]
    refine gC.of (ok_spec R.law15_awake) ?_
    rintro _ m_ ⟨rfl, hm_⟩
    replace hm_ := hm_.symm
    subst hm_
    simp only [go_sem, Bool.false_and, new_set, Int.reduceBEq, Int.reduceBNe, Int.reduceNeg, not_true_eq_false, beq_self_eq_true, bne_self_eq_false, Bool.false_eq_true, if_false, if_true, Int.cast_ofNat_Int, decide_true, decide_false, reduceCtorEq, Nat.reduceEqDiff, Nat.reduceAdd, ne_eq, not_false_eq_true, Option.map_some, Option.bind_some, Option.map_none, Option.bind_none, true_and, and_true, Bool.not_true, Bool.not_false, Nat.reduceLeDiff, Nat.reduceMul, Nat.reduceSub, Nat.le_refl, Int.reduceToNat, Int.reduceLT, Int.reduceLE, Nat.one_mul, Nat.mul_one]
  · obtain ⟨f1, f2, k1, k2, k3⟩ := newE_zero hE (by omega)
    simp only [go_sem, Bool.false_and, new_set, Int.reduceBEq, Int.reduceBNe, Int.reduceNeg, not_true_eq_false, beq_self_eq_true, bne_self_eq_false, Bool.false_eq_true, if_false, if_true, Int.cast_ofNat_Int, decide_true, decide_false, reduceCtorEq, Nat.reduceEqDiff, Nat.reduceAdd, ne_eq, not_false_eq_true, Option.map_some, Option.bind_some, Option.map_none, Option.bind_none, true_and, and_true, Bool.not_true, Bool.not_false, Nat.reduceLeDiff, Nat.reduceMul, Nat.reduceSub, Nat.le_refl, Int.reduceToNat, Int.reduceLT, Int.reduceLE, Nat.one_mul, Nat.mul_one, aExt0, aExt1]
    have hR0 := Picks.start hM
    refine gC.of (locTotal hV (by have := hR0.len; omega) (fun e he => by have := hR0.bd.s e he; omega)) ?_
    rintro _ m2 ⟨rfl, hx2⟩
    have hV2 := hV.keep hx2
    rw [hR0.total]
    have hW : ∀ w ∈ l', 0 ≤ w.2 := fun w hw => by have := k1 w hw; omega
    have hT := sumW_nn hW
    simp only [go_sem, Bool.false_and, new_set, Int.reduceBEq, Int.reduceBNe, Int.reduceNeg, not_true_eq_false, beq_self_eq_true, bne_self_eq_false, Bool.false_eq_true, if_false, if_true, Int.cast_ofNat_Int, decide_true, decide_false, reduceCtorEq, Nat.reduceEqDiff, Nat.reduceAdd, ne_eq, not_false_eq_true, Option.map_some, Option.bind_some, Option.map_none, Option.bind_none, true_and, and_true, Bool.not_true, Bool.not_false, Nat.reduceLeDiff, Nat.reduceMul, Nat.reduceSub, Nat.le_refl, Int.reduceToNat, Int.reduceLT, Int.reduceLE, Nat.one_mul, Nat.mul_one]
    refine WL.of (fun n e m' => ∃ (t : Nat) (L : List En), (t : Int) ≤ sumW l' ∧ n = (sumW l').toNat - t ∧ e = [(1, v'), (5, .pointer (some ⟨b, 0, none⟩)), (33, .int .i64 (sumW l')), (34, .int .i64 t)] ∧ LocV m m' b L lv ∧ Picks l' L t) (sumW l').toNat
      ⟨0, L, by omega, by omega, by simp only [go_sem, Bool.false_and, new_set, Int.reduceBEq, Int.reduceBNe, Int.reduceNeg, not_true_eq_false, beq_self_eq_true, bne_self_eq_false, Bool.false_eq_true, if_false, if_true, Int.cast_ofNat_Int, decide_true, decide_false, reduceCtorEq, Nat.reduceEqDiff, Nat.reduceAdd, ne_eq, not_false_eq_true, Option.map_some, Option.bind_some, Option.map_none, Option.bind_none, true_and, and_true, Bool.not_true, Bool.not_false, Nat.reduceLeDiff, Nat.reduceMul, Nat.reduceSub, Nat.le_refl, Int.reduceToNat, Int.reduceLT, Int.reduceLE, Nat.one_mul, Nat.mul_one] <;> rfl, hV2, hR0⟩ ?_
    rintro _ _ m3 ⟨t, L, ht, rfl, rfl, hV3, hR⟩
    have hRl := hR.len
    simp only [RB.law15_LocalJust_2, go_sem, Bool.false_and, new_set, Int.reduceBEq, Int.reduceBNe, Int.reduceNeg, not_true_eq_false, beq_self_eq_true, bne_self_eq_false, Bool.false_eq_true, if_false, if_true, Int.cast_ofNat_Int, decide_true, decide_false, reduceCtorEq, Nat.reduceEqDiff, Nat.reduceAdd, ne_eq, not_false_eq_true, Option.map_some, Option.bind_some, Option.map_none, Option.bind_none, true_and, and_true, Bool.not_true, Bool.not_false, Nat.reduceLeDiff, Nat.reduceMul, Nat.reduceSub, Nat.le_refl, Int.reduceToNat, Int.reduceLT, Int.reduceLE, Nat.one_mul, Nat.mul_one]
    refine gT.of (fun g1' => ?_) (fun g1' => ?_) <;> (have g1 := g1'; try simp only [decide_eq_true_eq, decide_eq_false_iff_not, beq_iff_eq, bne_iff_ne, beq_eq_false_iff_ne, ne_eq, Bool.not_eq_true', Bool.not_eq_false', bne_eq_false_iff_eq, Int.not_lt, Int.not_le] at g1)
    · have h0 : 0 < L.length := by
        by_cases h : L.length = 0
        · have : l' = [] := List.eq_nil_of_length_eq_zero (by omega)
          subst this
          simp only [sumW] at g1; omega
        · omega
      obtain ⟨hR', bb, hbb⟩ := hR.pick h0
      have s1 := step1 (show t < 1000000 by omega)
      simp only [go_sem, Bool.false_and, new_set, Int.reduceBEq, Int.reduceBNe, Int.reduceNeg, not_true_eq_false, beq_self_eq_true, bne_self_eq_false, Bool.false_eq_true, if_false, if_true, Int.cast_ofNat_Int, decide_true, decide_false, reduceCtorEq, Nat.reduceEqDiff, Nat.reduceAdd, ne_eq, not_false_eq_true, Option.map_some, Option.bind_some, Option.map_none, Option.bind_none, true_and, and_true, Bool.not_true, Bool.not_false, Nat.reduceLeDiff, Nat.reduceMul, Nat.reduceSub, Nat.le_refl, Int.reduceToNat, Int.reduceLT, Int.reduceLE, Nat.one_mul, Nat.mul_one, g1']
      refine gC.of (locPick (off := []) hV3 (hR.bd.sm (by omega)) (by omega) (.nil rfl rfl) trivial (by simp)) ?_
      rintro _ m4 ⟨⟨hn, -⟩ | ⟨i, hi, rfl⟩, hV4⟩
      · rw [hbb] at hn; cases hn
      · simp only [go_sem, Bool.false_and, new_set, Int.reduceBEq, Int.reduceBNe, Int.reduceNeg, not_true_eq_false, beq_self_eq_true, bne_self_eq_false, Bool.false_eq_true, if_false, if_true, Int.cast_ofNat_Int, decide_true, decide_false, reduceCtorEq, Nat.reduceEqDiff, Nat.reduceAdd, ne_eq, not_false_eq_true, Option.map_some, Option.bind_some, Option.map_none, Option.bind_none, true_and, and_true, Bool.not_true, Bool.not_false, Nat.reduceLeDiff, Nat.reduceMul, Nat.reduceSub, Nat.le_refl, Int.reduceToNat, Int.reduceLT, Int.reduceLE, Nat.one_mul, Nat.mul_one, aExt0, aExt1, s1]
        exact ⟨(sumW l').toNat - (t + 1), by omega, t + 1, _, by omega, rfl, rfl, hV4, hR'⟩
    · have htS : (t : Int) = sumW l' := by omega
      simp only [go_sem, Bool.false_and, new_set, Int.reduceBEq, Int.reduceBNe, Int.reduceNeg, not_true_eq_false, beq_self_eq_true, bne_self_eq_false, Bool.false_eq_true, if_false, if_true, Int.cast_ofNat_Int, decide_true, decide_false, reduceCtorEq, Nat.reduceEqDiff, Nat.reduceAdd, ne_eq, not_false_eq_true, Option.map_some, Option.bind_some, Option.map_none, Option.bind_none, true_and, and_true, Bool.not_true, Bool.not_false, Nat.reduceLeDiff, Nat.reduceMul, Nat.reduceSub, Nat.le_refl, Int.reduceToNat, Int.reduceLT, Int.reduceLE, Nat.one_mul, Nat.mul_one, g1']
      refine WL.of (fun n e m' => ∃ j : Nat, j ≤ l'.length ∧ n = l'.length - j ∧ e = [(1, v'), (5, .pointer (some ⟨b, 0, none⟩)), (9, .int .i64 j)] ∧ LocV m m' b L lv) l'.length
        ⟨0, by omega, by omega, by simp only [go_sem, Bool.false_and, new_set, Int.reduceBEq, Int.reduceBNe, Int.reduceNeg, not_true_eq_false, beq_self_eq_true, bne_self_eq_false, Bool.false_eq_true, if_false, if_true, Int.cast_ofNat_Int, decide_true, decide_false, reduceCtorEq, Nat.reduceEqDiff, Nat.reduceAdd, ne_eq, not_false_eq_true, Option.map_some, Option.bind_some, Option.map_none, Option.bind_none, true_and, and_true, Bool.not_true, Bool.not_false, Nat.reduceLeDiff, Nat.reduceMul, Nat.reduceSub, Nat.le_refl, Int.reduceToNat, Int.reduceLT, Int.reduceLE, Nat.one_mul, Nat.mul_one] <;> rfl, hV3⟩ ?_
      rintro _ _ m5 ⟨j, hj, rfl, rfl, hV5⟩
      have hs5 := hs'.keep hb' hV5.ext
      simp only [RB.law15_LocalJust_1, go_sem, Bool.false_and, new_set, Int.reduceBEq, Int.reduceBNe, Int.reduceNeg, not_true_eq_false, beq_self_eq_true, bne_self_eq_false, Bool.false_eq_true, if_false, if_true, Int.cast_ofNat_Int, decide_true, decide_false, reduceCtorEq, Nat.reduceEqDiff, Nat.reduceAdd, ne_eq, not_false_eq_true, Option.map_some, Option.bind_some, Option.map_none, Option.bind_none, true_and, and_true, Bool.not_true, Bool.not_false, Nat.reduceLeDiff, Nat.reduceMul, Nat.reduceSub, Nat.le_refl, Int.reduceToNat, Int.reduceLT, Int.reduceLE, Nat.one_mul, Nat.mul_one, hs5.len]
      refine gT.of (fun g2' => ?_) (fun g2' => ?_) <;> (have g2 := g2'; try simp only [decide_eq_true_eq, decide_eq_false_iff_not, beq_iff_eq, bne_iff_ne, beq_eq_false_iff_ne, ne_eq, Bool.not_eq_true', Bool.not_eq_false', bne_eq_false_iff_eq, Int.not_lt, Int.not_le] at g2)
      · have hjl : j < l'.length := by omega
        have s1 := step1 (show j < 1000000 by omega)
        obtain ⟨p, o, a1, -, a3, -⟩ := hs5.elem spV_len (k := .i64) hjl
        have c1 : aLoad false 1 m5 (.pointer (some ⟨p, o + 0, none⟩)) = some (.int .i64 l'[j].1) := a3 0 (by omega)
        have hw := List.getElem_mem hjl
        simp only [go_sem, Bool.false_and, new_set, Int.reduceBEq, Int.reduceBNe, Int.reduceNeg, not_true_eq_false, beq_self_eq_true, bne_self_eq_false, Bool.false_eq_true, if_false, if_true, Int.cast_ofNat_Int, decide_true, decide_false, reduceCtorEq, Nat.reduceEqDiff, Nat.reduceAdd, ne_eq, not_false_eq_true, Option.map_some, Option.bind_some, Option.map_none, Option.bind_none, true_and, and_true, Bool.not_true, Bool.not_false, Nat.reduceLeDiff, Nat.reduceMul, Nat.reduceSub, Nat.le_refl, Int.reduceToNat, Int.reduceLT, Int.reduceLE, Nat.one_mul, Nat.mul_one, g2', a1, c1]
        refine gC.of (locGot hV5 (by omega)) ?_
        rintro _ m6 ⟨⟨hno, rfl⟩ | ⟨i, hi, rfl, hu⟩, hx6⟩
        · obtain ⟨e, he, heq⟩ := hR.there hw
          exact absurd heq (hno e he)
        · obtain ⟨p, o, a1, -, a3, -⟩ := (hs5.keep (hb'.keep hV5.ext) hx6).elem spV_len (k := .i64) hjl
          have c2 : aLoad false 1 m6 (.pointer (some ⟨p, o + 1, none⟩)) = some (.int .i64 l'[j].2) := a3 1 (by omega)
          have hjust := fair_just hR.bd.pos hR.fair (by rw [hR.sum, hR.total]; exact htS) hi
          rw [hR.share k2 hw hi hu] at hjust
          have e3 : ((L[i].g : Int) != l'[j].2) = false := by rw [hjust]; exact bne_self_eq_false _
          simp only [go_sem, Bool.false_and, new_set, Int.reduceBEq, Int.reduceBNe, Int.reduceNeg, not_true_eq_false, beq_self_eq_true, bne_self_eq_false, Bool.false_eq_true, if_false, if_true, Int.cast_ofNat_Int, decide_true, decide_false, reduceCtorEq, Nat.reduceEqDiff, Nat.reduceAdd, ne_eq, not_false_eq_true, Option.map_some, Option.bind_some, Option.map_none, Option.bind_none, true_and, and_true, Bool.not_true, Bool.not_false, Nat.reduceLeDiff, Nat.reduceMul, Nat.reduceSub, Nat.le_refl, Int.reduceToNat, Int.reduceLT, Int.reduceLE, Nat.one_mul, Nat.mul_one, aExt0, aExt1, a1, c2, e3, s1]
          exact ⟨l'.length - (j + 1), by omega, j + 1, by omega, rfl, rfl, hV5.keep hx6⟩
      · simp only [go_sem, Bool.false_and, new_set, Int.reduceBEq, Int.reduceBNe, Int.reduceNeg, not_true_eq_false, beq_self_eq_true, bne_self_eq_false, Bool.false_eq_true, if_false, if_true, Int.cast_ofNat_Int, decide_true, decide_false, reduceCtorEq, Nat.reduceEqDiff, Nat.reduceAdd, ne_eq, not_false_eq_true, Option.map_some, Option.bind_some, Option.map_none, Option.bind_none, true_and, and_true, Bool.not_true, Bool.not_false, Nat.reduceLeDiff, Nat.reduceMul, Nat.reduceSub, Nat.le_refl, Int.reduceToNat, Int.reduceLT, Int.reduceLE, Nat.one_mul, Nat.mul_one, g2']
        refine gC.of (ok_spec R.law15_awake) ?_
        rintro _ m_ ⟨rfl, hm_⟩
        replace hm_ := hm_.symm
        subst hm_
        simp only [go_sem, Bool.false_and, new_set, Int.reduceBEq, Int.reduceBNe, Int.reduceNeg, not_true_eq_false, beq_self_eq_true, bne_self_eq_false, Bool.false_eq_true, if_false, if_true, Int.cast_ofNat_Int, decide_true, decide_false, reduceCtorEq, Nat.reduceEqDiff, Nat.reduceAdd, ne_eq, not_false_eq_true, Option.map_some, Option.bind_some, Option.map_none, Option.bind_none, true_and, and_true, Bool.not_true, Bool.not_false, Nat.reduceLeDiff, Nat.reduceMul, Nat.reduceSub, Nat.le_refl, Int.reduceToNat, Int.reduceLT, Int.reduceLE, Nat.one_mul, Nat.mul_one]
end Go.Am


/- LocalRest. -/
set_option linter.unusedVariables false
set_option linter.unusedSimpArgs false
namespace Go.Am
variable {m : Mem}

theorem mulB {a b A B : Int} (h1 : 0 ≤ a) (h2 : a ≤ A) (h3 : 0 ≤ b) (h4 : b ≤ B) : 0 ≤ a * b ∧ a * b ≤ A * B :=
  ⟨Int.mul_nonneg h1 h3, Int.mul_le_mul h2 h4 h3 (by omega)⟩

set_option maxHeartbeats 2000000 in
theorem LocalRest_loop {m0 : Mem} {l : List Sp} {L : List En} {v pv lv : Value} {b t : Nat} {S : Int} (hs : Sl m0 2 l.length (l.flatMap spV) v) (hb : SlLt m0 v) (hl : l.length ≤ 80) (hV : LocV m0 m b L lv) (hR : Picks l L t) (ht : t ≤ 1000) (hS : sumN sI L = S) (hS0 : 0 ≤ S) (hS1 : S ≤ 64) (k1 : ∀ w ∈ l, isU w.1 ∧ 1 ≤ w.2 ∧ w.2 ≤ 64) (k2 : (l.map Prod.fst).Nodup) :
    WL R [1, 2, 7, 9, 10, 13] RB.law15_LocalRest_1 [(1, v), (2, pv), (7, .pointer (some ⟨b, 0, none⟩)), (9, .int .i64 S), (10, .int .i64 t), (13, .int .i64 0)] m fun x e' m' =>
      x = .exit 2 ∧ (∃ rest, e' = (1, v) :: (2, pv) :: (7, .pointer (some ⟨b, 0, none⟩)) :: (9, .int .i64 S) :: (10, .int .i64 t) :: rest) ∧ LocV m0 m' b L lv := by
  have hRl := hR.len
  refine WL.of (fun n e m' => ∃ j : Nat, j ≤ l.length ∧ n = l.length - j ∧ e = [(1, v), (2, pv), (7, .pointer (some ⟨b, 0, none⟩)), (9, .int .i64 S), (10, .int .i64 t), (13, .int .i64 j)] ∧ LocV m0 m' b L lv) l.length
    ⟨0, by omega, by omega, by simp only [go_sem, Bool.false_and, new_set, Int.reduceBEq, Int.reduceBNe, Int.reduceNeg, not_true_eq_false, beq_self_eq_true, bne_self_eq_false, Bool.false_eq_true, if_false, if_true, Int.cast_ofNat_Int, decide_true, decide_false, reduceCtorEq, Nat.reduceEqDiff, Nat.reduceAdd, ne_eq, not_false_eq_true, Option.map_some, Option.bind_some, Option.map_none, Option.bind_none, true_and, and_true, Bool.not_true, Bool.not_false, Nat.reduceLeDiff, Nat.reduceMul, Nat.reduceSub, Nat.le_refl, Int.reduceToNat, Int.reduceLT, Int.reduceLE, Nat.one_mul, Nat.mul_one] <;> rfl, hV⟩ ?_
  rintro _ _ m5 ⟨j, hj, rfl, rfl, hV5⟩
  have hs5 := hs.keep hb hV5.ext
  simp only [RB.law15_LocalRest_1, go_sem, Bool.false_and, new_set, Int.reduceBEq, Int.reduceBNe, Int.reduceNeg, not_true_eq_false, beq_self_eq_true, bne_self_eq_false, Bool.false_eq_true, if_false, if_true, Int.cast_ofNat_Int, decide_true, decide_false, reduceCtorEq, Nat.reduceEqDiff, Nat.reduceAdd, ne_eq, not_false_eq_true, Option.map_some, Option.bind_some, Option.map_none, Option.bind_none, true_and, and_true, Bool.not_true, Bool.not_false, Nat.reduceLeDiff, Nat.reduceMul, Nat.reduceSub, Nat.le_refl, Int.reduceToNat, Int.reduceLT, Int.reduceLE, Nat.one_mul, Nat.mul_one, hs5.len]
  refine gT.of (fun g2' => ?_) (fun g2' => ?_) <;> (have g2 := g2'; try simp only [decide_eq_true_eq, decide_eq_false_iff_not, beq_iff_eq, bne_iff_ne, beq_eq_false_iff_ne, ne_eq, Bool.not_eq_true', Bool.not_eq_false', bne_eq_false_iff_eq, Int.not_lt, Int.not_le] at g2)
  · have hjl : j < l.length := by omega
    have s1 := step1 (show j < 1000000 by omega)
    obtain ⟨p, o, a1, -, a3, -⟩ := hs5.elem spV_len (k := .i64) hjl
    have c1 : aLoad false 1 m5 (.pointer (some ⟨p, o + 0, none⟩)) = some (.int .i64 l[j].1) := a3 0 (by omega)
    have hw := List.getElem_mem hjl
    simp only [go_sem, Bool.false_and, new_set, Int.reduceBEq, Int.reduceBNe, Int.reduceNeg, not_true_eq_false, beq_self_eq_true, bne_self_eq_false, Bool.false_eq_true, if_false, if_true, Int.cast_ofNat_Int, decide_true, decide_false, reduceCtorEq, Nat.reduceEqDiff, Nat.reduceAdd, ne_eq, not_false_eq_true, Option.map_some, Option.bind_some, Option.map_none, Option.bind_none, true_and, and_true, Bool.not_true, Bool.not_false, Nat.reduceLeDiff, Nat.reduceMul, Nat.reduceSub, Nat.le_refl, Int.reduceToNat, Int.reduceLT, Int.reduceLE, Nat.one_mul, Nat.mul_one, g2', a1, c1]
    refine gC.of (locGot hV5 (by omega)) ?_
    rintro _ m6 ⟨⟨hno, rfl⟩ | ⟨i, hi, rfl, hu⟩, hx6⟩
    · obtain ⟨e, he, heq⟩ := hR.there hw
      exact absurd heq (hno e he)
    · have hs6 := hs5.keep (hb.keep hV5.ext) hx6
      obtain ⟨p, o, a1, -, a3, -⟩ := hs6.elem spV_len (k := .i64) hjl
      have c2 : aLoad false 1 m6 (.pointer (some ⟨p, o + 1, none⟩)) = some (.int .i64 l[j].2) := a3 1 (by omega)
      obtain ⟨r1, r2⟩ := fair_rest hR.bd.pos hR.fair hR.sum hS hi
      rw [hR.share k2 hw hi hu] at r1 r2
      have hg := hR.bd.g _ (List.getElem_mem hi)
      have hsh := k1 _ hw
      obtain ⟨x1, x2⟩ := mulB (a := (L[i].g : Int)) (b := S) (A := 1000) (B := 64) (by omega) (by omega) hS0 hS1
      obtain ⟨y1, y2⟩ := mulB (a := l[j].2) (b := (t : Int)) (A := 64) (B := 1000) (by omega) (by omega) (by omega) (by omega)
      obtain ⟨z1, z2⟩ := mulB (a := (l.length : Int) - 1) (b := S) (A := 80) (B := 64) (by omega) (by omega) hS0 hS1
      have w1 : IntKind.wrap .i64 ((L[i].g : Int) * S) = (L[i].g : Int) * S := wrap_i64 (by omega) (by omega)
      have w2 : IntKind.wrap .i64 (l[j].2 * (t : Int)) = l[j].2 * (t : Int) := wrap_i64 (by omega) (by omega)
      have w3 : IntKind.wrap .i64 ((L[i].g : Int) * S - l[j].2 * (t : Int)) = (L[i].g : Int) * S - l[j].2 * (t : Int) := wrap_i64 (by omega) (by omega)
      have w4 : IntKind.wrap .i64 ((l.length : Int) - 1) = (l.length : Int) - 1 := wrap_i64 (by omega) (by omega)
      have w5 : IntKind.wrap .i64 (((l.length : Int) - 1) * S) = ((l.length : Int) - 1) * S := wrap_i64 (by omega) (by omega)
      have w6 : IntKind.wrap .i64 (0 - ((L[i].g : Int) * S - l[j].2 * (t : Int))) = 0 - ((L[i].g : Int) * S - l[j].2 * (t : Int)) := wrap_i64 (by omega) (by omega)
      rw [hRl] at r1 r2
      have e1 : decide (((l.length : Int) - 1) * S < (L[i].g : Int) * S - l[j].2 * (t : Int)) = false := decide_eq_false (by omega)
      have e2 : decide (((l.length : Int) - 1) * S < 0 - ((L[i].g : Int) * S - l[j].2 * (t : Int))) = false := decide_eq_false (by omega)
      simp only [go_sem, Bool.false_and, new_set, Int.reduceBEq, Int.reduceBNe, Int.reduceNeg, not_true_eq_false, beq_self_eq_true, bne_self_eq_false, Bool.false_eq_true, if_false, if_true, Int.cast_ofNat_Int, decide_true, decide_false, reduceCtorEq, Nat.reduceEqDiff, Nat.reduceAdd, ne_eq, not_false_eq_true, Option.map_some, Option.bind_some, Option.map_none, Option.bind_none, true_and, and_true, Bool.not_true, Bool.not_false, Nat.reduceLeDiff, Nat.reduceMul, Nat.reduceSub, Nat.le_refl, Int.reduceToNat, Int.reduceLT, Int.reduceLE, Nat.one_mul, Nat.mul_one, aExt0, aExt1, a1, c2, hs6.len, w1, w2, w3, w4, w5, w6, e1, e2, s1]
      exact ⟨l.length - (j + 1), by omega, j + 1, by omega, rfl, rfl, hV5.keep hx6⟩
  · simp only [go_sem, Bool.false_and, new_set, Int.reduceBEq, Int.reduceBNe, Int.reduceNeg, not_true_eq_false, beq_self_eq_true, bne_self_eq_false, Bool.false_eq_true, if_false, if_true, Int.cast_ofNat_Int, decide_true, decide_false, reduceCtorEq, Nat.reduceEqDiff, Nat.reduceAdd, ne_eq, not_false_eq_true, Option.map_some, Option.bind_some, Option.map_none, Option.bind_none, true_and, and_true, Bool.not_true, Bool.not_false, Nat.reduceLeDiff, Nat.reduceMul, Nat.reduceSub, Nat.le_refl, Int.reduceToNat, Int.reduceLT, Int.reduceLE, Nat.one_mul, Nat.mul_one, g2']
    exact ⟨⟨_, rfl⟩, hV5⟩

set_option maxHeartbeats 2000000 in
theorem LocalRest_spec {l : List Sp} {v : Value} {f k : Int} (hs : Sl m 2 l.length (l.flatMap spV) v) (hb : SlLt m v) (hc : Cut 2 m v) (hr : ∀ w ∈ l, inR w.1 ∧ inR w.2) (hk0 : 0 ≤ k) (hk1 : k ≤ 65535) : WC R F.law15_LocalRest [.int .i64 f, v, .int .u16 k] m fun r _ => r = .bool true := by
  refine WC.of R.law15_LocalRest rfl ?_
  simp only [RC.law15_LocalRest, go_sem, Bool.false_and, new_set, Int.reduceBEq, Int.reduceBNe, Int.reduceNeg, not_true_eq_false, beq_self_eq_true, bne_self_eq_false, Bool.false_eq_true, if_false, if_true, Int.cast_ofNat_Int, decide_true, decide_false, reduceCtorEq, Nat.reduceEqDiff, Nat.reduceAdd, ne_eq, not_false_eq_true, Option.map_some, Option.bind_some, Option.map_none, Option.bind_none, true_and, and_true, Bool.not_true, Bool.not_false, Nat.reduceLeDiff, Nat.reduceMul, Nat.reduceSub, Nat.le_refl, Int.reduceToNat, Int.reduceLT, Int.reduceLE, Nat.one_mul, Nat.mul_one, hs.len]
  have e : (if (80 : Int) < l.length then (80 : Int) else l.length) = ((min l.length 80 : Nat) : Int) := by
    split <;> omega
  obtain ⟨v', a1, hs', hb', hL⟩ := cutTo (N := 80) hs hb hc
  have hrL : ∀ w ∈ l.take 80, inR w.2 := fun w hw => (hr w (List.mem_of_mem_take hw)).2
  generalize l.take 80 = l' at hs' hL hrL
  simp only [go_sem, Bool.false_and, new_set, Int.reduceBEq, Int.reduceBNe, Int.reduceNeg, not_true_eq_false, beq_self_eq_true, bne_self_eq_false, Bool.false_eq_true, if_false, if_true, Int.cast_ofNat_Int, decide_true, decide_false, reduceCtorEq, Nat.reduceEqDiff, Nat.reduceAdd, ne_eq, not_false_eq_true, Option.map_some, Option.bind_some, Option.map_none, Option.bind_none, true_and, and_true, Bool.not_true, Bool.not_false, Nat.reduceLeDiff, Nat.reduceMul, Nat.reduceSub, Nat.le_refl, Int.reduceToNat, Int.reduceLT, Int.reduceLE, Nat.one_mul, Nat.mul_one, e, a1]
  refine gC.of (locMade hs' hb' hL hrL) ?_
  rintro _ m1 (⟨hE, rfl, hx⟩ | ⟨hE, b, L, lv, rfl, hV, hM⟩)
  · simp only [go_sem, Bool.false_and, new_set, Int.reduceBEq, Int.reduceBNe, Int.reduceNeg, not_true_eq_false, beq_self_eq_true, bne_self_eq_false, Bool.false_eq_true, if_false, if_true, Int.cast_ofNat_Int, decide_true, decide_false, reduceCtorEq, Nat.reduceEqDiff, Nat.reduceAdd, ne_eq, not_false_eq_true, Option.map_some, Option.bind_some, Option.map_none, Option.bind_none, true_and, and_true, Bool.not_true, Bool.not_false, Nat.reduceLeDiff, Nat.reduceMul, Nat.reduceSub, Nat.le_refl, Int.reduceToNat, Int.reduceLT, Int.reduceLE, Nat.one_mul, Nat.mul_one, aExt0, aExt1]
    refine gC.of (ref15Check (hs'.keep hb' hx) (by omega) hrL) ?_
    rintro _ _ ⟨rfl, hm⟩
    subst hm
    have e1 : (newE f l' != 0) = true := by rw [bne_iff_ne]; exact hE
    simp only [go_sem, Bool.false_and, new_set, Int.reduceBEq, Int.reduceBNe, Int.reduceNeg, not_true_eq_false, beq_self_eq_true, bne_self_eq_false, Bool.false_eq_true, if_false, if_true, Int.cast_ofNat_Int, decide_true, decide_false, reduceCtorEq, Nat.reduceEqDiff, Nat.reduceAdd, ne_eq, not_false_eq_true, Option.map_some, Option.bind_some, Option.map_none, Option.bind_none, true_and, and_true, Bool.not_true, Bool.not_false, Nat.reduceLeDiff, Nat.reduceMul, Nat.reduceSub, Nat.le_refl, Int.reduceToNat, Int.reduceLT, Int.reduceLE, Nat.one_mul, Nat.mul_one, e1]
    refine gC.of (ok_spec R.law15_awake) ?_
    rintro _ m_ ⟨rfl, hm_⟩
    replace hm_ := hm_.symm
    subst hm_
    simp only [go_sem, Bool.false_and, new_set, Int.reduceBEq, Int.reduceBNe, Int.reduceNeg, not_true_eq_false, beq_self_eq_true, bne_self_eq_false, Bool.false_eq_true, if_false, if_true, Int.cast_ofNat_Int, decide_true, decide_false, reduceCtorEq, Nat.reduceEqDiff, Nat.reduceAdd, ne_eq, not_false_eq_true, Option.map_some, Option.bind_some, Option.map_none, Option.bind_none, true_and, and_true, Bool.not_true, Bool.not_false, Nat.reduceLeDiff, Nat.reduceMul, Nat.reduceSub, Nat.le_refl, Int.reduceToNat, Int.reduceLT, Int.reduceLE, Nat.one_mul, Nat.mul_one]
  · obtain ⟨f1, f2, k1, k2, k3⟩ := newE_zero hE (by omega)
    simp only [go_sem, Bool.false_and, new_set, Int.reduceBEq, Int.reduceBNe, Int.reduceNeg, not_true_eq_false, beq_self_eq_true, bne_self_eq_false, Bool.false_eq_true, if_false, if_true, Int.cast_ofNat_Int, decide_true, decide_false, reduceCtorEq, Nat.reduceEqDiff, Nat.reduceAdd, ne_eq, not_false_eq_true, Option.map_some, Option.bind_some, Option.map_none, Option.bind_none, true_and, and_true, Bool.not_true, Bool.not_false, Nat.reduceLeDiff, Nat.reduceMul, Nat.reduceSub, Nat.le_refl, Int.reduceToNat, Int.reduceLT, Int.reduceLE, Nat.one_mul, Nat.mul_one, aExt0, aExt1]
    have hR0 := Picks.start hM
    refine gC.of (locTotal hV (by have := hR0.len; omega) (fun e he => by have := hR0.bd.s e he; omega)) ?_
    rintro _ m2 ⟨rfl, hx2⟩
    have hV2 := hV.keep hx2
    rw [hR0.total]
    have hW : ∀ w ∈ l', 0 ≤ w.2 := fun w hw => by have := k1 w hw; omega
    have hT := sumW_nn hW
    simp only [go_sem, Bool.false_and, new_set, Int.reduceBEq, Int.reduceBNe, Int.reduceNeg, not_true_eq_false, beq_self_eq_true, bne_self_eq_false, Bool.false_eq_true, if_false, if_true, Int.cast_ofNat_Int, decide_true, decide_false, reduceCtorEq, Nat.reduceEqDiff, Nat.reduceAdd, ne_eq, not_false_eq_true, Option.map_some, Option.bind_some, Option.map_none, Option.bind_none, true_and, and_true, Bool.not_true, Bool.not_false, Nat.reduceLeDiff, Nat.reduceMul, Nat.reduceSub, Nat.le_refl, Int.reduceToNat, Int.reduceLT, Int.reduceLE, Nat.one_mul, Nat.mul_one]
    refine WL.of (fun n e m' => ∃ (t : Nat) (L : List En), t ≤ 300 ∧ n = 301 - t ∧ e = [(1, v'), (2, .int .u16 k), (7, .pointer (some ⟨b, 0, none⟩)), (9, .int .i64 (sumW l')), (10, .int .i64 (t + 1 : Nat))] ∧ LocV m m' b L lv ∧ Picks l' L t) 301
      ⟨0, L, by omega, by omega, by simp only [go_sem, Bool.false_and, new_set, Int.reduceBEq, Int.reduceBNe, Int.reduceNeg, not_true_eq_false, beq_self_eq_true, bne_self_eq_false, Bool.false_eq_true, if_false, if_true, Int.cast_ofNat_Int, decide_true, decide_false, reduceCtorEq, Nat.reduceEqDiff, Nat.reduceAdd, ne_eq, not_false_eq_true, Option.map_some, Option.bind_some, Option.map_none, Option.bind_none, true_and, and_true, Bool.not_true, Bool.not_false, Nat.reduceLeDiff, Nat.reduceMul, Nat.reduceSub, Nat.le_refl, Int.reduceToNat, Int.reduceLT, Int.reduceLE, Nat.one_mul, Nat.mul_one] <;> rfl, hV2, hR0⟩ ?_
    rintro _ _ m3 ⟨t, L, ht, rfl, rfl, hV3, hR⟩
    have hRl := hR.len
    have hs3 := hs'.keep hb' hV3.ext
    simp only [RB.law15_LocalRest_2, go_sem, Bool.false_and, new_set, Int.reduceBEq, Int.reduceBNe, Int.reduceNeg, not_true_eq_false, beq_self_eq_true, bne_self_eq_false, Bool.false_eq_true, if_false, if_true, Int.cast_ofNat_Int, decide_true, decide_false, reduceCtorEq, Nat.reduceEqDiff, Nat.reduceAdd, ne_eq, not_false_eq_true, Option.map_some, Option.bind_some, Option.map_none, Option.bind_none, true_and, and_true, Bool.not_true, Bool.not_false, Nat.reduceLeDiff, Nat.reduceMul, Nat.reduceSub, Nat.le_refl, Int.reduceToNat, Int.reduceLT, Int.reduceLE, Nat.one_mul, Nat.mul_one, hs3.len]
    have hwk : IntKind.wrap .i64 k = k := wrap_i64 (by omega) (by omega)
    have hT1 : k.tmod 300 < 300 := Int.tmod_lt_of_pos _ (by omega)
    rw [hwk]
    generalize k.tmod 300 = T at hT1
    refine ⟨by omega, ?_⟩
    refine gT.of (fun g1' => ?_) (fun g1' => ?_) <;> (have g1 := g1'; try simp only [decide_eq_true_eq, decide_eq_false_iff_not, beq_iff_eq, bne_iff_ne, beq_eq_false_iff_ne, ne_eq, Bool.not_eq_true', Bool.not_eq_false', bne_eq_false_iff_eq, Int.not_lt, Int.not_le] at g1)
    · by_cases h0 : 0 < L.length
      · have e0 : decide (0 < (l'.length : Int)) = true := by rw [decide_eq_true_eq]; omega
        obtain ⟨hR', bb, hbb⟩ := hR.pick h0
        have s1 := step1 (show t + 1 < 1000000 by omega)
        simp only [go_sem, Bool.false_and, new_set, Int.reduceBEq, Int.reduceBNe, Int.reduceNeg, not_true_eq_false, beq_self_eq_true, bne_self_eq_false, Bool.false_eq_true, if_false, if_true, Int.cast_ofNat_Int, decide_true, decide_false, reduceCtorEq, Nat.reduceEqDiff, Nat.reduceAdd, ne_eq, not_false_eq_true, Option.map_some, Option.bind_some, Option.map_none, Option.bind_none, true_and, and_true, Bool.not_true, Bool.not_false, Nat.reduceLeDiff, Nat.reduceMul, Nat.reduceSub, Nat.le_refl, Int.reduceToNat, Int.reduceLT, Int.reduceLE, Nat.one_mul, Nat.mul_one, g1', hs3.len, e0]
        refine gC.of (locPick (off := []) hV3 (hR.bd.sm (by omega)) (by omega) (.nil rfl rfl) trivial (by simp)) ?_
        rintro _ m4 ⟨⟨hn, -⟩ | ⟨i, hi, rfl⟩, hV4⟩
        · rw [hbb] at hn; cases hn
        · simp only [go_sem, Bool.false_and, new_set, Int.reduceBEq, Int.reduceBNe, Int.reduceNeg, not_true_eq_false, beq_self_eq_true, bne_self_eq_false, Bool.false_eq_true, if_false, if_true, Int.cast_ofNat_Int, decide_true, decide_false, reduceCtorEq, Nat.reduceEqDiff, Nat.reduceAdd, ne_eq, not_false_eq_true, Option.map_some, Option.bind_some, Option.map_none, Option.bind_none, true_and, and_true, Bool.not_true, Bool.not_false, Nat.reduceLeDiff, Nat.reduceMul, Nat.reduceSub, Nat.le_refl, Int.reduceToNat, Int.reduceLT, Int.reduceLE, Nat.one_mul, Nat.mul_one, aExt0, aExt1]
          refine WL.mono (LocalRest_loop (t := t + 1) hs' hb' hL hV4 hR' (by omega) (by rw [hR'.total]) hT (by omega) (fun w hw => by have := k1 w hw; exact ⟨this.1, by omega⟩) k2) ?_
          rintro _ _ m5 ⟨rfl, ⟨rest, rfl⟩, hV5⟩
          simp only [go_sem, Bool.false_and, new_set, Int.reduceBEq, Int.reduceBNe, Int.reduceNeg, not_true_eq_false, beq_self_eq_true, bne_self_eq_false, Bool.false_eq_true, if_false, if_true, Int.cast_ofNat_Int, decide_true, decide_false, reduceCtorEq, Nat.reduceEqDiff, Nat.reduceAdd, ne_eq, not_false_eq_true, Option.map_some, Option.bind_some, Option.map_none, Option.bind_none, true_and, and_true, Bool.not_true, Bool.not_false, Nat.reduceLeDiff, Nat.reduceMul, Nat.reduceSub, Nat.le_refl, Int.reduceToNat, Int.reduceLT, Int.reduceLE, Nat.one_mul, Nat.mul_one, s1]
          exact ⟨301 - (t + 1), by omega, t + 1, _, by omega, rfl, rfl, hV5, hR'⟩
      · have e0 : decide (0 < (l'.length : Int)) = false := by rw [decide_eq_false_iff_not]; omega
        simp only [go_sem, Bool.false_and, new_set, Int.reduceBEq, Int.reduceBNe, Int.reduceNeg, not_true_eq_false, beq_self_eq_true, bne_self_eq_false, Bool.false_eq_true, if_false, if_true, Int.cast_ofNat_Int, decide_true, decide_false, reduceCtorEq, Nat.reduceEqDiff, Nat.reduceAdd, ne_eq, not_false_eq_true, Option.map_some, Option.bind_some, Option.map_none, Option.bind_none, true_and, and_true, Bool.not_true, Bool.not_false, Nat.reduceLeDiff, Nat.reduceMul, Nat.reduceSub, Nat.le_refl, Int.reduceToNat, Int.reduceLT, Int.reduceLE, Nat.one_mul, Nat.mul_one, g1', hs3.len, e0]
        refine gC.of (ok_spec R.law15_awake) ?_
        rintro _ m_ ⟨rfl, hm_⟩
        replace hm_ := hm_.symm
        subst hm_
        simp only [go_sem, Bool.false_and, new_set, Int.reduceBEq, Int.reduceBNe, Int.reduceNeg, not_true_eq_false, beq_self_eq_true, bne_self_eq_false, Bool.false_eq_true, if_false, if_true, Int.cast_ofNat_Int, decide_true, decide_false, reduceCtorEq, Nat.reduceEqDiff, Nat.reduceAdd, ne_eq, not_false_eq_true, Option.map_some, Option.bind_some, Option.map_none, Option.bind_none, true_and, and_true, Bool.not_true, Bool.not_false, Nat.reduceLeDiff, Nat.reduceMul, Nat.reduceSub, Nat.le_refl, Int.reduceToNat, Int.reduceLT, Int.reduceLE, Nat.one_mul, Nat.mul_one]
    · simp only [go_sem, Bool.false_and, new_set, Int.reduceBEq, Int.reduceBNe, Int.reduceNeg, not_true_eq_false, beq_self_eq_true, bne_self_eq_false, Bool.false_eq_true, if_false, if_true, Int.cast_ofNat_Int, decide_true, decide_false, reduceCtorEq, Nat.reduceEqDiff, Nat.reduceAdd, ne_eq, not_false_eq_true, Option.map_some, Option.bind_some, Option.map_none, Option.bind_none, true_and, and_true, Bool.not_true, Bool.not_false, Nat.reduceLeDiff, Nat.reduceMul, Nat.reduceSub, Nat.le_refl, Int.reduceToNat, Int.reduceLT, Int.reduceLE, Nat.one_mul, Nat.mul_one, g1']
      refine gC.of (ok_spec R.law15_awake) ?_
      rintro _ m_ ⟨rfl, hm_⟩
      replace hm_ := hm_.symm
      subst hm_
      simp only [go_sem, Bool.false_and, new_set, Int.reduceBEq, Int.reduceBNe, Int.reduceNeg, not_true_eq_false, beq_self_eq_true, bne_self_eq_false, Bool.false_eq_true, if_false, if_true, Int.cast_ofNat_Int, decide_true, decide_false, reduceCtorEq, Nat.reduceEqDiff, Nat.reduceAdd, ne_eq, not_false_eq_true, Option.map_some, Option.bind_some, Option.map_none, Option.bind_none, true_and, and_true, Bool.not_true, Bool.not_false, Nat.reduceLeDiff, Nat.reduceMul, Nat.reduceSub, Nat.le_refl, Int.reduceToNat, Int.reduceLT, Int.reduceLE, Nat.one_mul, Nat.mul_one]
end Go.Am


/- LocalRest, of arguments as they are read. -/
set_option linter.unusedVariables false
namespace Go.Am
theorem rd_u16 {m : Mem} {v : Value} (h : Rd m (.int .u16) v) : ∃ n, v = .int .u16 n ∧ 0 ≤ n ∧ n ≤ 65535 := by
  simp only [Rd] at h
  obtain ⟨n, rfl, hw⟩ := h
  have : IntKind.u16.min = 0 := by decide
  have : IntKind.u16.max = 65535 := by decide
  simp only [Lit.wf, Bool.and_eq_true, decide_eq_true_eq] at hw
  exact ⟨n, rfl, by omega, by omega⟩
theorem law15_LocalRest_walk (m : Mem) (us : List Value) (h : RdAs m [(false, [.int .i64]), (false, [.sl [.int .i64, .int .i64]]), (false, [.int .u16])] us) : WC R F.law15_LocalRest us m fun v _ => v = .bool true := by
  obtain ⟨_, _, rfl, h1, h⟩ := h.one; obtain ⟨_, _, rfl, h2, h⟩ := h.one; obtain ⟨_, _, rfl, h3, h⟩ := h.one; cases h.none
  obtain ⟨f, rfl, -⟩ := h1.rd.i64; obtain ⟨l, hs, hb, hc, hr⟩ := w_read h2.rd
  obtain ⟨k, rfl, k0, k1⟩ := rd_u16 h3.rd
  exact LocalRest_spec hs hb hc hr k0 k1
end Go.Am
