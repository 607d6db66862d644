/- Parts of the proofs of the statements of this seat: LocalW5, LocalX1, LocalX3, WLocalPromised. No conditions. -/
import Derived.Test.YtndiggibkngjlaaLocalPromisedPart7
import Derived.Test.YtndiggibkngjlaaLocalPromisedPart3
import Derived.Test.YtndiggibkngjlaaLocalPromisedPart5
set_option linter.unusedVariables false
set_option linter.unusedSimpArgs false

/- A local: made for the laws. -/
set_option linter.unusedVariables false
set_option linter.unusedSimpArgs false
namespace Go.Am
variable {m : Mem}

def sumW : List Sp → Int
  | [] => 0
  | w :: r => w.2 + sumW r
theorem sumW_perm {l l' : List Sp} (h : l.Perm l') : sumW l = sumW l' := by
  induction h with
  | nil => rfl
  | cons x _ ih => simp only [sumW, ih]
  | swap x y l => simp only [sumW]; omega
  | trans _ _ h1 h2 => exact h1.trans h2
theorem sumW_wts : ∀ {L : List En}, sumW (wts L) = sumN sI L
  | [] => rfl
  | e :: L => by
    show e.s + sumW (wts L) = e.s + sumN sI L
    rw [sumW_wts]
theorem sumW_nn {l : List Sp} (h : ∀ w ∈ l, 0 ≤ w.2) : 0 ≤ sumW l := by
  induction l with
  | nil => exact Int.le_refl _
  | cons w l ih =>
    have := h w (by simp)
    have := ih fun x hx => h x (by simp [hx])
    show 0 ≤ w.2 + sumW l
    omega

theorem totO_sum : ∀ {l : List Sp} {n : Int}, (∀ w ∈ l, 0 ≤ w.2 ∧ w.2 ≤ 1000) → 0 ≤ n → n + 1000 * l.length ≤ 1000000000 → totO n l = some (n + sumW l)
  | [], n, _, _, _ => by show some n = some (n + 0); rw [Int.add_zero]
  | w :: l, n, h, hn, hb => by
    have hw := h w (by simp)
    simp only [List.length_cons] at hb
    rw [totO, if_pos (by unfold inR; omega), totO_sum (fun x hx => h x (by simp [hx])) (by omega) (by omega)]
    show some (n + w.2 + sumW l) = some (n + (w.2 + sumW l))
    congr 1; omega

theorem chkF_zero {f : Int} : ∀ {l pre : List Sp}, chkF f pre l = 0 → (∀ w ∈ l, isU w.1 ∧ 1 ≤ w.2 ∧ w.2 ≤ f) ∧ (l.map Prod.fst).Nodup ∧ ∀ w ∈ l, ∀ p ∈ pre, p.1 ≠ w.1
  | [], pre, _ => by simp
  | w :: l, pre, h => by
    rw [chkF] at h
    split at h
    · cases h
    · rename_i h1
      split at h
      · cases h
      · rename_i h2
        split at h
        · cases h
        · rename_i h3
          obtain ⟨k1, k2, k3⟩ := chkF_zero h
          refine ⟨fun x hx => ?_, ?_, fun x hx p hp => ?_⟩
          · rcases List.mem_cons.1 hx with rfl | hx
            · exact ⟨Classical.not_not.1 h1, by omega, by omega⟩
            · exact k1 x hx
          · rw [List.map_cons, List.nodup_cons]
            refine ⟨fun hm => ?_, k2⟩
            obtain ⟨y, hy, e⟩ := List.mem_map.1 hm
            exact k3 y hy w (by simp) e.symm
          · rcases List.mem_cons.1 hx with rfl | hx
            · intro e; exact h3 ⟨p, hp, e⟩
            · exact k3 x hx p (by simp [hp])

theorem newE_zero {f : Int} {l : List Sp} (h : newE f l = 0) (hl : l.length ≤ 1000) : 2 ≤ f ∧ f ≤ 64 ∧ (∀ w ∈ l, isU w.1 ∧ 1 ≤ w.2 ∧ w.2 ≤ f) ∧ (l.map Prod.fst).Nodup ∧ sumW l ≤ f := by
  unfold newE at h
  split at h
  · rename_i hc
    unfold chkA at hc
    split at hc
    · cases hc
    · rename_i hf
      obtain ⟨k1, k2, k3⟩ := chkF_zero hc
      have ht := totO_sum (n := 0) (l := l) (fun w hw => by have := k1 w hw; omega) (by omega) (by omega)
      rw [ht] at h
      simp only at h
      split at h
      · cases h
      · exact ⟨by omega, by omega, k1, k2, by omega⟩
  · rename_i hc; exact absurd h hc

theorem ref15Check {l : List Sp} {v : Value} {f : Int} (hs : Sl m 2 l.length (l.flatMap spV) v) (hl : l.length ≤ 1000) (hr : ∀ w ∈ l, inR w.2) :
    WC R F.ref15_Check [.int .i64 f, v] m fun r m' => r = .int .i64 (newE f l) ∧ m' = m := by
  refine WC.of R.ref15_Check rfl ?_
  simp only [RC.ref15_Check, go_sem, Bool.false_and, new_set, Int.reduceBEq, Int.reduceBNe, Int.reduceNeg, not_true_eq_false, beq_self_eq_true, bne_self_eq_false, Bool.false_eq_true, if_false, if_true, Int.cast_ofNat_Int, decide_true, decide_false, reduceCtorEq, Nat.reduceEqDiff, Nat.reduceAdd, ne_eq, not_false_eq_true, Option.map_some, Option.bind_some, Option.map_none, Option.bind_none, true_and, and_true, Bool.not_true, Bool.not_false, Nat.reduceLeDiff, Nat.reduceMul, Nat.reduceSub, Nat.le_refl, Int.reduceToNat, Int.reduceLT, Int.reduceLE, Nat.one_mul, Nat.mul_one]
  refine gC.of (refCheck hs (by omega)) ?_
  rintro _ _ ⟨rfl, hm⟩
  subst hm
  by_cases g1 : chkA f l = 0
  · have e1 : (chkA f l != 0) = false := by rw [g1]; rfl
    simp only [go_sem, Bool.false_and, new_set, Int.reduceBEq, Int.reduceBNe, Int.reduceNeg, not_true_eq_false, beq_self_eq_true, bne_self_eq_false, Bool.false_eq_true, if_false, if_true, Int.cast_ofNat_Int, decide_true, decide_false, reduceCtorEq, Nat.reduceEqDiff, Nat.reduceAdd, ne_eq, not_false_eq_true, Option.map_some, Option.bind_some, Option.map_none, Option.bind_none, true_and, and_true, Bool.not_true, Bool.not_false, Nat.reduceLeDiff, Nat.reduceMul, Nat.reduceSub, Nat.le_refl, Int.reduceToNat, Int.reduceLT, Int.reduceLE, Nat.one_mul, Nat.mul_one, e1]
    refine gC.of (refTotal hs (by omega) hr) ?_
    rintro _ _ ⟨⟨n, ht, rfl⟩ | ⟨ht, rfl⟩, hm⟩ <;> subst hm
    · have hE : newE f l = if f < n then 12 else 0 := by unfold newE; rw [if_pos g1, ht]
      by_cases g2 : f < n
      · have e3 : decide (f < n) = true := decide_eq_true g2
        rw [if_pos g2] at hE
        simp only [go_sem, Bool.false_and, new_set, Int.reduceBEq, Int.reduceBNe, Int.reduceNeg, not_true_eq_false, beq_self_eq_true, bne_self_eq_false, Bool.false_eq_true, if_false, if_true, Int.cast_ofNat_Int, decide_true, decide_false, reduceCtorEq, Nat.reduceEqDiff, Nat.reduceAdd, ne_eq, not_false_eq_true, Option.map_some, Option.bind_some, Option.map_none, Option.bind_none, true_and, and_true, Bool.not_true, Bool.not_false, Nat.reduceLeDiff, Nat.reduceMul, Nat.reduceSub, Nat.le_refl, Int.reduceToNat, Int.reduceLT, Int.reduceLE, Nat.one_mul, Nat.mul_one, aExt0, aExt1, e3]
        rw [hE]
      · have e3 : decide (f < n) = false := decide_eq_false g2
        rw [if_neg g2] at hE
        simp only [go_sem, Bool.false_and, new_set, Int.reduceBEq, Int.reduceBNe, Int.reduceNeg, not_true_eq_false, beq_self_eq_true, bne_self_eq_false, Bool.false_eq_true, if_false, if_true, Int.cast_ofNat_Int, decide_true, decide_false, reduceCtorEq, Nat.reduceEqDiff, Nat.reduceAdd, ne_eq, not_false_eq_true, Option.map_some, Option.bind_some, Option.map_none, Option.bind_none, true_and, and_true, Bool.not_true, Bool.not_false, Nat.reduceLeDiff, Nat.reduceMul, Nat.reduceSub, Nat.le_refl, Int.reduceToNat, Int.reduceLT, Int.reduceLE, Nat.one_mul, Nat.mul_one, aExt0, aExt1, e3]
        rw [hE]
    · exfalso
      have hc := g1
      unfold chkA at hc
      split at hc
      · cases hc
      · obtain ⟨k1, -, -⟩ := chkF_zero hc
        rw [totO_sum (n := 0) (fun w hw => by have := k1 w hw; omega) (by omega) (by omega)] at ht
        cases ht
  · have hE : newE f l = chkA f l := by unfold newE; rw [if_neg g1]
    have e1 : (chkA f l != 0) = true := by rw [bne_iff_ne]; exact g1
    simp only [go_sem, Bool.false_and, new_set, Int.reduceBEq, Int.reduceBNe, Int.reduceNeg, not_true_eq_false, beq_self_eq_true, bne_self_eq_false, Bool.false_eq_true, if_false, if_true, Int.cast_ofNat_Int, decide_true, decide_false, reduceCtorEq, Nat.reduceEqDiff, Nat.reduceAdd, ne_eq, not_false_eq_true, Option.map_some, Option.bind_some, Option.map_none, Option.bind_none, true_and, and_true, Bool.not_true, Bool.not_false, Nat.reduceLeDiff, Nat.reduceMul, Nat.reduceSub, Nat.le_refl, Int.reduceToNat, Int.reduceLT, Int.reduceLE, Nat.one_mul, Nat.mul_one, e1]
    rw [hE]

theorem wts_keys {L : List En} : wts L = keys L := rfl
theorem keys_ent {l : List Sp} : keys (l.map ent) = l := by
  unfold keys; rw [List.map_map]
  have : (fun e : En => (e.u, e.s)) ∘ ent = id := by funext w; rfl
  rw [this, List.map_id]
theorem keys_perm {L L' : List En} (h : L.Perm L') : (keys L).Perm (keys L') := h.map _

theorem locTotal {m0 : Mem} {b : Nat} {L : List En} {lv : Value} (h : LocV m0 m b L lv) (hl : L.length ≤ 1000) (hS : ∀ e ∈ L, 0 ≤ e.s ∧ e.s ≤ 1000) :
    WC R F.local_Local_Total [.pointer (some ⟨b, 0, none⟩)] m fun r m' => r = .int .i64 (sumN sI L) ∧ Ext m m' := by
  refine WC.of R.local_Local_Total rfl ?_
  simp only [RC.local_Local_Total, go_sem, Bool.false_and, new_set, Int.reduceBEq, Int.reduceBNe, Int.reduceNeg, not_true_eq_false, beq_self_eq_true, bne_self_eq_false, Bool.false_eq_true, if_false, if_true, Int.cast_ofNat_Int, decide_true, decide_false, reduceCtorEq, Nat.reduceEqDiff, Nat.reduceAdd, ne_eq, not_false_eq_true, Option.map_some, Option.bind_some, Option.map_none, Option.bind_none, true_and, and_true, Bool.not_true, Bool.not_false, Nat.reduceLeDiff, Nat.reduceMul, Nat.reduceSub, Nat.le_refl, Int.reduceToNat, Int.reduceLT, Int.reduceLE, Nat.one_mul, Nat.mul_one]
  refine gC.of (locWants h (by omega)) ?_
  rintro wv m1 ⟨ho, hx1⟩
  have hw : (wts L).length = L.length := by simp [wts]
  have hb : ∀ w ∈ wts L, 0 ≤ w.2 ∧ w.2 ≤ 1000 := fun w hw => by
    obtain ⟨e, he, rfl⟩ := List.mem_map.1 hw
    exact hS e he
  simp only [go_sem, Bool.false_and, new_set, Int.reduceBEq, Int.reduceBNe, Int.reduceNeg, not_true_eq_false, beq_self_eq_true, bne_self_eq_false, Bool.false_eq_true, if_false, if_true, Int.cast_ofNat_Int, decide_true, decide_false, reduceCtorEq, Nat.reduceEqDiff, Nat.reduceAdd, ne_eq, not_false_eq_true, Option.map_some, Option.bind_some, Option.map_none, Option.bind_none, true_and, and_true, Bool.not_true, Bool.not_false, Nat.reduceLeDiff, Nat.reduceMul, Nat.reduceSub, Nat.le_refl, Int.reduceToNat, Int.reduceLT, Int.reduceLE, Nat.one_mul, Nat.mul_one]
  refine gC.of (orTotal ho.sl ho.lt (by omega) (fun w hw => by have := hb w hw; unfold inR; omega)) ?_
  have ht := totO_sum (n := 0) (l := wts L) hb (by omega) (by omega)
  rintro _ m2 ⟨⟨n, hn, rfl⟩ | ⟨hn, rfl⟩, hx2⟩
  · rw [ht] at hn
    have : n = sumN sI L := by rw [← sumW_wts]; have := Option.some.inj hn; omega
    subst this
    simp only [go_sem, Bool.false_and, new_set, Int.reduceBEq, Int.reduceBNe, Int.reduceNeg, not_true_eq_false, beq_self_eq_true, bne_self_eq_false, Bool.false_eq_true, if_false, if_true, Int.cast_ofNat_Int, decide_true, decide_false, reduceCtorEq, Nat.reduceEqDiff, Nat.reduceAdd, ne_eq, not_false_eq_true, Option.map_some, Option.bind_some, Option.map_none, Option.bind_none, true_and, and_true, Bool.not_true, Bool.not_false, Nat.reduceLeDiff, Nat.reduceMul, Nat.reduceSub, Nat.le_refl, Int.reduceToNat, Int.reduceLT, Int.reduceLE, Nat.one_mul, Nat.mul_one, aExt0, aExt1]
    exact hx1.trans hx2
  · rw [ht] at hn; cases hn

theorem pick_g {L : List En} {off : Int → Bool} {K : Nat} (hs : ∀ e ∈ L, 0 < e.s) (h : ∀ e ∈ L, e.g ≤ K) : ∀ e ∈ pick L off, e.g ≤ K + 1 := by
  have sp := bst_spec (off := off) hs L.length (Nat.le_refl _)
  intro e he
  cases hb : bst L off L.length with
  | none =>
    have : pick L off = L := by unfold pick; rw [hb]
    rw [this] at he
    have := h e he; omega
  | some b =>
    rw [hb] at sp
    rw [pick_some hb sp.1] at he
    rcases List.mem_or_eq_of_mem_set he with h1 | h1
    · have := h e h1; omega
    · have := h _ (List.getElem_mem sp.1)
      rw [h1]; show L[b].g + 1 ≤ K + 1; omega

/-- Bounds of all. -/
structure Bd (L : List En) (K : Nat) : Prop where
  s : ∀ e ∈ L, 0 < e.s ∧ e.s ≤ 64
  g : ∀ e ∈ L, e.g ≤ K
theorem Bd.pos {L : List En} {K : Nat} (h : Bd L K) : ∀ e ∈ L, 0 < e.s := fun e he => (h.s e he).1
theorem Bd.sm {L : List En} {K : Nat} (h : Bd L K) (hK : K < 900000) : ∀ e ∈ L, Sm e := fun e he => ⟨(h.s e he).1, by have := (h.s e he).2; omega, by have := h.g e he; omega⟩
theorem Bd.pick {L : List En} {K : Nat} {off : Int → Bool} (h : Bd L K) : Bd (pick L off) (K + 1) := by
  refine ⟨fun e he => ?_, pick_g h.pos h.g⟩
  have hk := pick_keys (off := off) h.pos
  have : (e.u, e.s) ∈ keys L := by rw [← hk]; exact List.mem_map.2 ⟨e, he, rfl⟩
  obtain ⟨e', he', heq⟩ := List.mem_map.1 this
  have := h.s e' he'
  have : e'.s = e.s := congrArg Prod.snd heq
  omega

/-- A local of a law: nobody got anything yet. -/
structure MadeL (l : List Sp) (L : List En) : Prop where
  perm : (keys L).Perm l
  zero : ∀ e ∈ L, e.g = 0
  bd : Bd L 0

theorem locMade {l : List Sp} {v : Value} {f : Int} (hs : Sl m 2 l.length (l.flatMap spV) v) (hb : SlLt m v) (hl : l.length ≤ 80) (hr : ∀ w ∈ l, inR w.2) :
    WC R F.law15_made [.int .i64 f, v] m fun r m' => (newE f l ≠ 0 ∧ r = .tuple #[.pointer none, .bool false] ∧ Ext m m') ∨
      (newE f l = 0 ∧ ∃ b L lv, r = .tuple #[.pointer (some ⟨b, 0, none⟩), .bool true] ∧ LocV m m' b L lv ∧ MadeL l L) := by
  refine WC.of R.law15_made rfl ?_
  simp only [RC.law15_made, go_sem, Bool.false_and, new_set, Int.reduceBEq, Int.reduceBNe, Int.reduceNeg, not_true_eq_false, beq_self_eq_true, bne_self_eq_false, Bool.false_eq_true, if_false, if_true, Int.cast_ofNat_Int, decide_true, decide_false, reduceCtorEq, Nat.reduceEqDiff, Nat.reduceAdd, ne_eq, not_false_eq_true, Option.map_some, Option.bind_some, Option.map_none, Option.bind_none, true_and, and_true, Bool.not_true, Bool.not_false, Nat.reduceLeDiff, Nat.reduceMul, Nat.reduceSub, Nat.le_refl, Int.reduceToNat, Int.reduceLT, Int.reduceLE, Nat.one_mul, Nat.mul_one]
  refine gC.of (locNew hs hb (by omega) hr) ?_
  rintro _ m1 (⟨hE, rfl, hx⟩ | ⟨hE, b, L, lv, rfl, hV, hp, -⟩)
  · have e1 : (newE f l != 0) = true := by rw [bne_iff_ne]; exact hE
    simp only [go_sem, Bool.false_and, new_set, Int.reduceBEq, Int.reduceBNe, Int.reduceNeg, not_true_eq_false, beq_self_eq_true, bne_self_eq_false, Bool.false_eq_true, if_false, if_true, Int.cast_ofNat_Int, decide_true, decide_false, reduceCtorEq, Nat.reduceEqDiff, Nat.reduceAdd, ne_eq, not_false_eq_true, Option.map_some, Option.bind_some, Option.map_none, Option.bind_none, true_and, and_true, Bool.not_true, Bool.not_false, Nat.reduceLeDiff, Nat.reduceMul, Nat.reduceSub, Nat.le_refl, Int.reduceToNat, Int.reduceLT, Int.reduceLE, Nat.one_mul, Nat.mul_one, aExt0, aExt1, e1]
    exact .inl ⟨hE, hx⟩
  · have e1 : ((0 : Int) != 0) = false := rfl
    obtain ⟨f1, f2, k1, k2, k3⟩ := newE_zero hE (by omega)
    have hkp : (keys L).Perm l := by have := keys_perm hp; rw [keys_ent] at this; exact this
    have hLl : L.length = l.length := by rw [hp.length_eq, List.length_map]
    have hSm : ∀ e ∈ L, 0 < e.s ∧ e.s ≤ 64 := fun e he => by
      have : (e.u, e.s) ∈ l := hkp.mem_iff.1 (List.mem_map.2 ⟨e, he, rfl⟩)
      have := k1 _ this
      simp only at this; omega
    have hg0 : ∀ e ∈ L, e.g = 0 := fun e he => by
      obtain ⟨w, -, rfl⟩ := List.mem_map.1 (hp.mem_iff.1 he); rfl
    have pos : ∀ e ∈ L, 0 < e.s := fun e he => (hSm e he).1
    have hB : Bd L 0 := ⟨hSm, fun e he => by rw [hg0 e he]; exact Nat.le_refl _⟩
    have e2 : aEq .ptr (.pointer (some ⟨b, 0, none⟩)) (.pointer none) = some false := rfl
    simp only [go_sem, Bool.false_and, new_set, Int.reduceBEq, Int.reduceBNe, Int.reduceNeg, not_true_eq_false, beq_self_eq_true, bne_self_eq_false, Bool.false_eq_true, if_false, if_true, Int.cast_ofNat_Int, decide_true, decide_false, reduceCtorEq, Nat.reduceEqDiff, Nat.reduceAdd, ne_eq, not_false_eq_true, Option.map_some, Option.bind_some, Option.map_none, Option.bind_none, true_and, and_true, Bool.not_true, Bool.not_false, Nat.reduceLeDiff, Nat.reduceMul, Nat.reduceSub, Nat.le_refl, Int.reduceToNat, Int.reduceLT, Int.reduceLE, Nat.one_mul, Nat.mul_one, aExt0, aExt1, e1, e2]
    refine gC.of (locPick (off := []) hV (hB.sm (by omega)) (by omega) (.nil rfl rfl) trivial (by simp)) ?_
    rintro _ m2 ⟨-, hV2⟩
    have hk2 := pick_keys (off := offF []) pos
    have hB2 := hB.pick (off := offF [])
    have hl2 := keys_len hk2
    simp only [go_sem, Bool.false_and, new_set, Int.reduceBEq, Int.reduceBNe, Int.reduceNeg, not_true_eq_false, beq_self_eq_true, bne_self_eq_false, Bool.false_eq_true, if_false, if_true, Int.cast_ofNat_Int, decide_true, decide_false, reduceCtorEq, Nat.reduceEqDiff, Nat.reduceAdd, ne_eq, not_false_eq_true, Option.map_some, Option.bind_some, Option.map_none, Option.bind_none, true_and, and_true, Bool.not_true, Bool.not_false, Nat.reduceLeDiff, Nat.reduceMul, Nat.reduceSub, Nat.le_refl, Int.reduceToNat, Int.reduceLT, Int.reduceLE, Nat.one_mul, Nat.mul_one]
    refine gC.of (locPick (off := []) hV2 (hB2.sm (by omega)) (by omega) (.nil rfl rfl) trivial (by simp)) ?_
    rintro _ m3 ⟨-, hV3⟩
    have hk3 := pick_keys (off := offF []) hB2.pos
    have hB3 := hB2.pick (off := offF [])
    have hl3 := keys_len hk3
    simp only [go_sem, Bool.false_and, new_set, Int.reduceBEq, Int.reduceBNe, Int.reduceNeg, not_true_eq_false, beq_self_eq_true, bne_self_eq_false, Bool.false_eq_true, if_false, if_true, Int.cast_ofNat_Int, decide_true, decide_false, reduceCtorEq, Nat.reduceEqDiff, Nat.reduceAdd, ne_eq, not_false_eq_true, Option.map_some, Option.bind_some, Option.map_none, Option.bind_none, true_and, and_true, Bool.not_true, Bool.not_false, Nat.reduceLeDiff, Nat.reduceMul, Nat.reduceSub, Nat.le_refl, Int.reduceToNat, Int.reduceLT, Int.reduceLE, Nat.one_mul, Nat.mul_one]
    refine gC.of (locBegin hV3 (by omega)) ?_
    rintro _ m4 hV4
    simp only [go_sem, Bool.false_and, new_set, Int.reduceBEq, Int.reduceBNe, Int.reduceNeg, not_true_eq_false, beq_self_eq_true, bne_self_eq_false, Bool.false_eq_true, if_false, if_true, Int.cast_ofNat_Int, decide_true, decide_false, reduceCtorEq, Nat.reduceEqDiff, Nat.reduceAdd, ne_eq, not_false_eq_true, Option.map_some, Option.bind_some, Option.map_none, Option.bind_none, true_and, and_true, Bool.not_true, Bool.not_false, Nat.reduceLeDiff, Nat.reduceMul, Nat.reduceSub, Nat.le_refl, Int.reduceToNat, Int.reduceLT, Int.reduceLE, Nat.one_mul, Nat.mul_one]
    have hkz : ∀ L : List En, keys (L.map fun e => { e with g := 0 }) = keys L := fun L => by unfold keys; rw [List.map_map]; rfl
    refine .inr ⟨hE, b, _, lv, rfl, hV4, ?_, fun e he => ?_, ⟨fun e he => ?_, fun e he => ?_⟩⟩
    · rw [hkz, hk3, hk2]; exact hkp
    · obtain ⟨e', -, rfl⟩ := List.mem_map.1 he; rfl
    · obtain ⟨e', he', rfl⟩ := List.mem_map.1 he; exact hB3.s e' he'
    · obtain ⟨e', -, rfl⟩ := List.mem_map.1 he; exact Nat.le_refl _
end Go.Am


/- LocalJust. -/
set_option linter.unusedVariables false
set_option linter.unusedSimpArgs false
namespace Go.Am
variable {m : Mem}

theorem w_read {m : Mem} {v : Value} (h : Rd m (.sl [.int .i64, .int .i64]) v) : ∃ l : List Sp, Sl m 2 l.length (l.flatMap spV) v ∧ SlLt m v ∧ Cut 2 m v ∧ ∀ w ∈ l, inR w.1 ∧ inR w.2 := by
  obtain ⟨l, h1, h2, -⟩ := Rd.slice (f := fun (s : { s : Sp // inR s.1 ∧ inR s.2 }) => spV s.1) (fun cs hc => by
    obtain ⟨c, r, rfl, h1, h2⟩ := hc.one
    obtain ⟨d, r2, rfl, h3, h4⟩ := h2.one
    cases h4.none
    obtain ⟨a, rfl, a1, a2⟩ := h1.i64
    obtain ⟨b, rfl, b1, b2⟩ := h3.i64
    exact ⟨⟨(a, b), ⟨a1, a2⟩, b1, b2⟩, rfl⟩) h
  refine ⟨l.map Subtype.val, ?_, h2, h.free.cut, fun w hw => ?_⟩
  · rw [List.length_map, List.flatMap_map]
    exact h1
  · obtain ⟨s, -, rfl⟩ := List.mem_map.1 hw
    exact s.2

/-- The first ones of an argument. -/
theorem cutTo {l : List Sp} {v : Value} {N : Nat} (hs : Sl m 2 l.length (l.flatMap spV) v) (hb : SlLt m v) (hc : Cut 2 m v) :
    ∃ v', aSub 2 m v none (some (.int .i64 ((min l.length N : Nat) : Int))) none = some v' ∧ Sl m 2 (l.take N).length ((l.take N).flatMap spV) v' ∧ SlLt m v' ∧ (l.take N).length ≤ N := by
  obtain ⟨v', a1, a2, a3, a4⟩ := hs.to hc (k := .i64) (i := min l.length N) (by omega)
  have h : (l.take N).length = min l.length N := by rw [List.length_take]; omega
  have h2 : (l.flatMap spV).take (min l.length N * 2) = (l.take N).flatMap spV := by
    have e : l.flatMap spV = (l.take N).flatMap spV ++ (l.drop N).flatMap spV := by rw [← List.flatMap_append, List.take_append_drop]
    rw [e, List.take_left' (by rw [flat_len spV_len, h])]
  rw [h2, ← h] at a2
  exact ⟨v', a1, a2, a3 hb, by rw [h]; omega⟩

theorem same_unit : ∀ {l : List Sp}, (l.map Prod.fst).Nodup → ∀ {x y : Sp}, x ∈ l → y ∈ l → x.1 = y.1 → x = y
  | [], _, _, _, h, _, _ => by simp at h
  | w :: l, hn, x, y, hx, hy, e => by
    rw [List.map_cons, List.nodup_cons] at hn
    rcases List.mem_cons.1 hx with h1 | h1 <;> rcases List.mem_cons.1 hy with h2 | h2
    · rw [h1, h2]
    · exact absurd (List.mem_map.2 ⟨y, h2, by rw [← e, h1]⟩) hn.1
    · exact absurd (List.mem_map.2 ⟨x, h1, by rw [e, h2]⟩) hn.1
    · exact same_unit hn.2 h1 h2 e

/-- Behind some picks, with nobody off. -/
structure Picks (l : List Sp) (L : List En) (t : Nat) : Prop where
  perm : (keys L).Perm l
  fair : ∀ i, i < L.length → Fair L i
  sum : sumN gI L = t
  bd : Bd L t
theorem Picks.start {l : List Sp} {L : List En} (h : MadeL l L) : Picks l L 0 := by
  refine ⟨h.perm, fun i hi hi' j hj => ?_, ?_, h.bd⟩
  · rw [h.zero _ (List.getElem_mem hj), h.zero _ (List.getElem_mem hi)]
    have := (h.bd.s _ (List.getElem_mem hj)).1
    simp; omega
  · rw [sumN_congr (g := fun _ => 0) fun e he => by show (e.g : Int) = 0; rw [h.zero e he]; rfl, sumN_const]; simp
theorem Picks.pick {l : List Sp} {L : List En} {t : Nat} (h : Picks l L t) (h0 : 0 < L.length) : Picks l (pick L (offF [])) (t + 1) ∧ ∃ b, bst L (offF []) L.length = some b := by
  have hk := pick_keys (off := offF []) h.bd.pos
  have hl := keys_len hk
  obtain ⟨-, hs, hb⟩ := pick_fair (off := offF []) h.bd.pos h0 rfl (h.fair 0 h0)
  refine ⟨⟨by rw [hk]; exact h.perm, fun i hi => (pick_fair (off := offF []) h.bd.pos (by omega) rfl (h.fair i (by omega))).1, by rw [hs, h.sum]; omega, h.bd.pick⟩, hb⟩
theorem Picks.total {l : List Sp} {L : List En} {t : Nat} (h : Picks l L t) : sumN sI L = sumW l := by
  rw [← sumW_wts, wts_keys]; exact sumW_perm h.perm
theorem Picks.len {l : List Sp} {L : List En} {t : Nat} (h : Picks l L t) : L.length = l.length := by
  have := h.perm.length_eq; simpa [keys] using this
/-- Each want is there. -/
theorem Picks.there {l : List Sp} {L : List En} {t : Nat} (h : Picks l L t) {w : Sp} (hw : w ∈ l) : ∃ e ∈ L, e.u = w.1 := by
  obtain ⟨e, he, heq⟩ := List.mem_map.1 (h.perm.mem_iff.2 hw)
  exact ⟨e, he, congrArg Prod.fst heq⟩
theorem Picks.share {l : List Sp} {L : List En} {t : Nat} (h : Picks l L t) (hn : (l.map Prod.fst).Nodup) {w : Sp} (hw : w ∈ l) {i : Nat} (hi : i < L.length) (e : L[i].u = w.1) : L[i].s = w.2 := by
  have h1 : (L[i].u, L[i].s) ∈ l := h.perm.mem_iff.1 (List.mem_map.2 ⟨L[i], List.getElem_mem hi, rfl⟩)
  have := same_unit hn h1 hw e
  exact congrArg Prod.snd this

set_option maxHeartbeats 2000000 in
theorem LocalJust_spec {l : List Sp} {v : Value} {f : Int} (hs : Sl m 2 l.length (l.flatMap spV) v) (hb : SlLt m v) (hc : Cut 2 m v) (hr : ∀ w ∈ l, inR w.1 ∧ inR w.2) : WC R F.law15_LocalJust [.int .i64 f, v] m fun r _ => r = .bool true := by
  refine WC.of R.law15_LocalJust rfl ?_
  simp only [RC.law15_LocalJust, go_sem, Bool.false_and, new_set, Int.reduceBEq, Int.reduceBNe, Int.reduceNeg, not_true_eq_false, beq_self_eq_true, bne_self_eq_false, Bool.false_eq_true, if_false, if_true, Int.cast_ofNat_Int, decide_true, decide_false, reduceCtorEq, Nat.reduceEqDiff, Nat.reduceAdd, ne_eq, not_false_eq_true, Option.map_some, Option.bind_some, Option.map_none, Option.bind_none, true_and, and_true, Bool.not_true, Bool.not_false, Nat.reduceLeDiff, Nat.reduceMul, Nat.reduceSub, Nat.le_refl, Int.reduceToNat, Int.reduceLT, Int.reduceLE, Nat.one_mul, Nat.mul_one, hs.len]
  have e : (if (80 : Int) < l.length then (80 : Int) else l.length) = ((min l.length 80 : Nat) : Int) := by
    split <;> omega
  obtain ⟨v', a1, hs', hb', hL⟩ := cutTo (N := 80) hs hb hc
  have hrL : ∀ w ∈ l.take 80, inR w.2 := fun w hw => (hr w (List.mem_of_mem_take hw)).2
  generalize l.take 80 = l' at hs' hL hrL
  simp only [go_sem, Bool.false_and, new_set, Int.reduceBEq, Int.reduceBNe, Int.reduceNeg, not_true_eq_false, beq_self_eq_true, bne_self_eq_false, Bool.false_eq_true, if_false, if_true, Int.cast_ofNat_Int, decide_true, decide_false, reduceCtorEq, Nat.reduceEqDiff, Nat.reduceAdd, ne_eq, not_false_eq_true, Option.map_some, Option.bind_some, Option.map_none, Option.bind_none, true_and, and_true, Bool.not_true, Bool.not_false, Nat.reduceLeDiff, Nat.reduceMul, Nat.reduceSub, Nat.le_refl, Int.reduceToNat, Int.reduceLT, Int.reduceLE, Nat.one_mul, Nat.mul_one, e, a1]
  refine gC.of (locMade hs' hb' hL hrL) ?_
  rintro _ m1 (⟨hE, rfl, hx⟩ | ⟨hE, b, L, lv, rfl, hV, hM⟩)
  · simp only [go_sem, Bool.false_and, new_set, Int.reduceBEq, Int.reduceBNe, Int.reduceNeg, not_true_eq_false, beq_self_eq_true, bne_self_eq_false, Bool.false_eq_true, if_false, if_true, Int.cast_ofNat_Int, decide_true, decide_false, reduceCtorEq, Nat.reduceEqDiff, Nat.reduceAdd, ne_eq, not_false_eq_true, Option.map_some, Option.bind_some, Option.map_none, Option.bind_none, true_and, and_true, Bool.not_true, Bool.not_false, Nat.reduceLeDiff, Nat.reduceMul, Nat.reduceSub, Nat.le_refl, Int.reduceToNat, Int.reduceLT, Int.reduceLE, Nat.one_mul, Nat.mul_one, aExt0, aExt1]
    refine gC.of (ref15Check (hs'.keep hb' hx) (by omega) hrL) ?_
    rintro _ _ ⟨rfl, hm⟩
    subst hm
    have e1 : (newE f l' != 0) = true := by rw [bne_iff_ne]; exact hE
    simp only [go_sem, Bool.false_and, new_set, Int.reduceBEq, Int.reduceBNe, Int.reduceNeg, not_true_eq_false, beq_self_eq_true, bne_self_eq_false, Bool.false_eq_true, if_false, if_true, Int.cast_ofNat_Int, decide_true, decide_false, reduceCtorEq, Nat.reduceEqDiff, Nat.reduceAdd, ne_eq, not_false_eq_true, Option.map_some, Option.bind_some, Option.map_none, Option.bind_none, true_and, and_true, Bool.not_true, Bool.not_false, Nat.reduceLeDiff, Nat.reduceMul, Nat.reduceSub, Nat.le_refl, Int.reduceToNat, Int.reduceLT, Int.reduceLE, Nat.one_mul, Nat.mul_one, e1]
    refine gC.of (ok_spec R.law15_awake) ?_
    rintro _ m_ ⟨rfl, hm_⟩
    replace hm_ := hm_.symm
    subst hm_
    simp only [go_sem, Bool.false_and, new_set, Int.reduceBEq, Int.reduceBNe, Int.reduceNeg, not_true_eq_false, beq_self_eq_true, bne_self_eq_false, Bool.false_eq_true, if_false, if_true, Int.cast_ofNat_Int, decide_true, decide_false, reduceCtorEq, Nat.reduceEqDiff, Nat.reduceAdd, ne_eq, not_false_eq_true, Option.map_some, Option.bind_some, Option.map_none, Option.bind_none, true_and, and_true, Bool.not_true, Bool.not_false, Nat.reduceLeDiff, Nat.reduceMul, Nat.reduceSub, Nat.le_refl, Int.reduceToNat, Int.reduceLT, Int.reduceLE, Nat.one_mul, Nat.mul_one]
  · obtain ⟨f1, f2, k1, k2, k3⟩ := newE_zero hE (by omega)
    simp only [go_sem, Bool.false_and, new_set, Int.reduceBEq, Int.reduceBNe, Int.reduceNeg, not_true_eq_false, beq_self_eq_true, bne_self_eq_false, Bool.false_eq_true, if_false, if_true, Int.cast_ofNat_Int, decide_true, decide_false, reduceCtorEq, Nat.reduceEqDiff, Nat.reduceAdd, ne_eq, not_false_eq_true, Option.map_some, Option.bind_some, Option.map_none, Option.bind_none, true_and, and_true, Bool.not_true, Bool.not_false, Nat.reduceLeDiff, Nat.reduceMul, Nat.reduceSub, Nat.le_refl, Int.reduceToNat, Int.reduceLT, Int.reduceLE, Nat.one_mul, Nat.mul_one, aExt0, aExt1]
    have hR0 := Picks.start hM
    refine gC.of (locTotal hV (by have := hR0.len; omega) (fun e he => by have := hR0.bd.s e he; omega)) ?_
    rintro _ m2 ⟨rfl, hx2⟩
    have hV2 := hV.keep hx2
    rw [hR0.total]
    have hW : ∀ w ∈ l', 0 ≤ w.2 := fun w hw => by have := k1 w hw; omega
    have hT := sumW_nn hW
    simp only [go_sem, Bool.false_and, new_set, Int.reduceBEq, Int.reduceBNe, Int.reduceNeg, not_true_eq_false, beq_self_eq_true, bne_self_eq_false, Bool.false_eq_true, if_false, if_true, Int.cast_ofNat_Int, decide_true, decide_false, reduceCtorEq, Nat.reduceEqDiff, Nat.reduceAdd, ne_eq, not_false_eq_true, Option.map_some, Option.bind_some, Option.map_none, Option.bind_none, true_and, and_true, Bool.not_true, Bool.not_false, Nat.reduceLeDiff, Nat.reduceMul, Nat.reduceSub, Nat.le_refl, Int.reduceToNat, Int.reduceLT, Int.reduceLE, Nat.one_mul, Nat.mul_one]
    refine WL.of (fun n e m' => ∃ (t : Nat) (L : List En), (t : Int) ≤ sumW l' ∧ n = (sumW l').toNat - t ∧ e = [(1, v'), (5, .pointer (some ⟨b, 0, none⟩)), (33, .int .i64 (sumW l')), (34, .int .i64 t)] ∧ LocV m m' b L lv ∧ Picks l' L t) (sumW l').toNat
      ⟨0, L, by omega, by omega, by simp only [go_sem, Bool.false_and, new_set, Int.reduceBEq, Int.reduceBNe, Int.reduceNeg, not_true_eq_false, beq_self_eq_true, bne_self_eq_false, Bool.false_eq_true, if_false, if_true, Int.cast_ofNat_Int, decide_true, decide_false, reduceCtorEq, Nat.reduceEqDiff, Nat.reduceAdd, ne_eq, not_false_eq_true, Option.map_some, Option.bind_some, Option.map_none, Option.bind_none, true_and, and_true, Bool.not_true, Bool.not_false, Nat.reduceLeDiff, Nat.reduceMul, Nat.reduceSub, Nat.le_refl, Int.reduceToNat, Int.reduceLT, Int.reduceLE, Nat.one_mul, Nat.mul_one] <;> rfl, hV2, hR0⟩ ?_
    rintro _ _ m3 ⟨t, L, ht, rfl, rfl, hV3, hR⟩
    have hRl := hR.len
    simp only [RB.law15_LocalJust_2, go_sem, Bool.false_and, new_set, Int.reduceBEq, Int.reduceBNe, Int.reduceNeg, not_true_eq_false, beq_self_eq_true, bne_self_eq_false, Bool.false_eq_true, if_false, if_true, Int.cast_ofNat_Int, decide_true, decide_false, reduceCtorEq, Nat.reduceEqDiff, Nat.reduceAdd, ne_eq, not_false_eq_true, Option.map_some, Option.bind_some, Option.map_none, Option.bind_none, true_and, and_true, Bool.not_true, Bool.not_false, Nat.reduceLeDiff, Nat.reduceMul, Nat.reduceSub, Nat.le_refl, Int.reduceToNat, Int.reduceLT, Int.reduceLE, Nat.one_mul, Nat.mul_one]
    refine gT.of (fun g1' => ?_) (fun g1' => ?_) <;> (have g1 := g1'; try simp only [decide_eq_true_eq, decide_eq_false_iff_not, beq_iff_eq, bne_iff_ne, beq_eq_false_iff_ne, ne_eq, Bool.not_eq_true', Bool.not_eq_false', bne_eq_false_iff_eq, Int.not_lt, Int.not_le] at g1)
    · have h0 : 0 < L.length := by
        by_cases h : L.length = 0
        · have : l' = [] := List.eq_nil_of_length_eq_zero (by omega)
          subst this
          simp only [sumW] at g1; omega
        · omega
      obtain ⟨hR', bb, hbb⟩ := hR.pick h0
      have s1 := step1 (show t < 1000000 by omega)
      simp only [go_sem, Bool.false_and, new_set, Int.reduceBEq, Int.reduceBNe, Int.reduceNeg, not_true_eq_false, beq_self_eq_true, bne_self_eq_false, Bool.false_eq_true, if_false, if_true, Int.cast_ofNat_Int, decide_true, decide_false, reduceCtorEq, Nat.reduceEqDiff, Nat.reduceAdd, ne_eq, not_false_eq_true, Option.map_some, Option.bind_some, Option.map_none, Option.bind_none, true_and, and_true, Bool.not_true, Bool.not_false, Nat.reduceLeDiff, Nat.reduceMul, Nat.reduceSub, Nat.le_refl, Int.reduceToNat, Int.reduceLT, Int.reduceLE, Nat.one_mul, Nat.mul_one, g1']
      refine gC.of (locPick (off := []) hV3 (hR.bd.sm (by omega)) (by omega) (.nil rfl rfl) trivial (by simp)) ?_
      rintro _ m4 ⟨⟨hn, -⟩ | ⟨i, hi, rfl⟩, hV4⟩
      · rw [hbb] at hn; cases hn
      · simp only [go_sem, Bool.false_and, new_set, Int.reduceBEq, Int.reduceBNe, Int.reduceNeg, not_true_eq_false, beq_self_eq_true, bne_self_eq_false, Bool.false_eq_true, if_false, if_true, Int.cast_ofNat_Int, decide_true, decide_false, reduceCtorEq, Nat.reduceEqDiff, Nat.reduceAdd, ne_eq, not_false_eq_true, Option.map_some, Option.bind_some, Option.map_none, Option.bind_none, true_and, and_true, Bool.not_true, Bool.not_false, Nat.reduceLeDiff, Nat.reduceMul, Nat.reduceSub, Nat.le_refl, Int.reduceToNat, Int.reduceLT, Int.reduceLE, Nat.one_mul, Nat.mul_one, aExt0, aExt1, s1]
        exact ⟨(sumW l').toNat - (t + 1), by omega, t + 1, _, by omega, rfl, rfl, hV4, hR'⟩
    · have htS : (t : Int) = sumW l' := by omega
      simp only [go_sem, Bool.false_and, new_set, Int.reduceBEq, Int.reduceBNe, Int.reduceNeg, not_true_eq_false, beq_self_eq_true, bne_self_eq_false, Bool.false_eq_true, if_false, if_true, Int.cast_ofNat_Int, decide_true, decide_false, reduceCtorEq, Nat.reduceEqDiff, Nat.reduceAdd, ne_eq, not_false_eq_true, Option.map_some, Option.bind_some, Option.map_none, Option.bind_none, true_and, and_true, Bool.not_true, Bool.not_false, Nat.reduceLeDiff, Nat.reduceMul, Nat.reduceSub, Nat.le_refl, Int.reduceToNat, Int.reduceLT, Int.reduceLE, Nat.one_mul, Nat.mul_one, g1']
      refine WL.of (fun n e m' => ∃ j : Nat, j ≤ l'.length ∧ n = l'.length - j ∧ e = [(1, v'), (5, .pointer (some ⟨b, 0, none⟩)), (9, .int .i64 j)] ∧ LocV m m' b L lv) l'.length
        ⟨0, by omega, by omega, by simp only [go_sem, Bool.false_and, new_set, Int.reduceBEq, Int.reduceBNe, Int.reduceNeg, not_true_eq_false, beq_self_eq_true, bne_self_eq_false, Bool.false_eq_true, if_false, if_true, Int.cast_ofNat_Int, decide_true, decide_false, reduceCtorEq, Nat.reduceEqDiff, Nat.reduceAdd, ne_eq, not_false_eq_true, Option.map_some, Option.bind_some, Option.map_none, Option.bind_none, true_and, and_true, Bool.not_true, Bool.not_false, Nat.reduceLeDiff, Nat.reduceMul, Nat.reduceSub, Nat.le_refl, Int.reduceToNat, Int.reduceLT, Int.reduceLE, Nat.one_mul, Nat.mul_one] <;> rfl, hV3⟩ ?_
      rintro _ _ m5 ⟨j, hj, rfl, rfl, hV5⟩
      have hs5 := hs'.keep hb' hV5.ext
      simp only [RB.law15_LocalJust_1, go_sem, Bool.false_and, new_set, Int.reduceBEq, Int.reduceBNe, Int.reduceNeg, not_true_eq_false, beq_self_eq_true, bne_self_eq_false, Bool.false_eq_true, if_false, if_true, Int.cast_ofNat_Int, decide_true, decide_false, reduceCtorEq, Nat.reduceEqDiff, Nat.reduceAdd, ne_eq, not_false_eq_true, Option.map_some, Option.bind_some, Option.map_none, Option.bind_none, true_and, and_true, Bool.not_true, Bool.not_false, Nat.reduceLeDiff, Nat.reduceMul, Nat.reduceSub, Nat.le_refl, Int.reduceToNat, Int.reduceLT, Int.reduceLE, Nat.one_mul, Nat.mul_one, hs5.len]
      refine gT.of (fun g2' => ?_) (fun g2' => ?_) <;> (have g2 := g2'; try simp only [decide_eq_true_eq, decide_eq_false_iff_not, beq_iff_eq, bne_iff_ne, beq_eq_false_iff_ne, ne_eq, Bool.not_eq_true', Bool.not_eq_false', bne_eq_false_iff_eq, Int.not_lt, Int.not_le] at g2)
      · have hjl : j < l'.length := by omega
        have s1 := step1 (show j < 1000000 by omega)
        obtain ⟨p, o, a1, -, a3, -⟩ := hs5.elem spV_len (k := .i64) hjl
        have c1 : aLoad false 1 m5 (.pointer (some ⟨p, o + 0, none⟩)) = some (.int .i64 l'[j].1) := a3 0 (by omega)
        have hw := List.getElem_mem hjl
        simp only [go_sem, Bool.false_and, new_set, Int.reduceBEq, Int.reduceBNe, Int.reduceNeg, not_true_eq_false, beq_self_eq_true, bne_self_eq_false, Bool.false_eq_true, if_false, if_true, Int.cast_ofNat_Int, decide_true, decide_false, reduceCtorEq, Nat.reduceEqDiff, Nat.reduceAdd, ne_eq, not_false_eq_true, Option.map_some, Option.bind_some, Option.map_none, Option.bind_none, true_and, and_true, Bool.not_true, Bool.not_false, Nat.reduceLeDiff, Nat.reduceMul, Nat.reduceSub, Nat.le_refl, Int.reduceToNat, Int.reduceLT, Int.reduceLE, Nat.one_mul, Nat.mul_one, g2', a1, c1]
        refine gC.of (locGot hV5 (by omega)) ?_
        rintro _ m6 ⟨⟨hno, rfl⟩ | ⟨i, hi, rfl, hu⟩, hx6⟩
        · obtain ⟨e, he, heq⟩ := hR.there hw
          exact absurd heq (hno e he)
        · obtain ⟨p, o, a1, -, a3, -⟩ := (hs5.keep (hb'.keep hV5.ext) hx6).elem spV_len (k := .i64) hjl
          have c2 : aLoad false 1 m6 (.pointer (some ⟨p, o + 1, none⟩)) = some (.int .i64 l'[j].2) := a3 1 (by omega)
          have hjust := fair_just hR.bd.pos hR.fair (by rw [hR.sum, hR.total]; exact htS) hi
          rw [hR.share k2 hw hi hu] at hjust
          have e3 : ((L[i].g : Int) != l'[j].2) = false := by rw [hjust]; exact bne_self_eq_false _
          simp only [go_sem, Bool.false_and, new_set, Int.reduceBEq, Int.reduceBNe, Int.reduceNeg, not_true_eq_false, beq_self_eq_true, bne_self_eq_false, Bool.false_eq_true, if_false, if_true, Int.cast_ofNat_Int, decide_true, decide_false, reduceCtorEq, Nat.reduceEqDiff, Nat.reduceAdd, ne_eq, not_false_eq_true, Option.map_some, Option.bind_some, Option.map_none, Option.bind_none, true_and, and_true, Bool.not_true, Bool.not_false, Nat.reduceLeDiff, Nat.reduceMul, Nat.reduceSub, Nat.le_refl, Int.reduceToNat, Int.reduceLT, Int.reduceLE, Nat.one_mul, Nat.mul_one, aExt0, aExt1, a1, c2, e3, s1]
          exact ⟨l'.length - (j + 1), by omega, j + 1, by omega, rfl, rfl, hV5.keep hx6⟩
      · simp only [go_sem, Bool.false_and, new_set, Int.reduceBEq, Int.reduceBNe, Int.reduceNeg, not_true_eq_false, beq_self_eq_true, bne_self_eq_false, Bool.false_eq_true, if_false, if_true, Int.cast_ofNat_Int, decide_true, decide_false, reduceCtorEq, Nat.reduceEqDiff, Nat.reduceAdd, ne_eq, not_false_eq_true, Option.map_some, Option.bind_some, Option.map_none, Option.bind_none, true_and, and_true, Bool.not_true, Bool.not_false, Nat.reduceLeDiff, Nat.reduceMul, Nat.reduceSub, Nat.le_refl, Int.reduceToNat, Int.reduceLT, Int.reduceLE, Nat.one_mul, Nat.mul_one, g2']
        refine gC.of (ok_spec R.law15_awake) ?_
        rintro _ m_ ⟨rfl, hm_⟩
        replace hm_ := hm_.symm
        subst hm_
        simp only [go_sem, Bool.false_and, new_set, Int.reduceBEq, Int.reduceBNe, Int.reduceNeg, not_true_eq_false, beq_self_eq_true, bne_self_eq_false, Bool.false_eq_true, if_false, if_true, Int.cast_ofNat_Int, decide_true, decide_false, reduceCtorEq, Nat.reduceEqDiff, Nat.reduceAdd, ne_eq, not_false_eq_true, Option.map_some, Option.bind_some, Option.map_none, Option.bind_none, true_and, and_true, Bool.not_true, Bool.not_false, Nat.reduceLeDiff, Nat.reduceMul, Nat.reduceSub, Nat.le_refl, Int.reduceToNat, Int.reduceLT, Int.reduceLE, Nat.one_mul, Nat.mul_one]
end Go.Am


/- LocalPromised. -/
set_option linter.unusedVariables false
set_option linter.unusedSimpArgs false
namespace Go.Am
variable {m : Mem}

theorem Own.updq {m0 m m' : Mem} {u n : Nat} {cs : List Value} {v : Value} {fp : List Nat} (h : Own m0 m u n cs v) (hx : Upd m m' fp) (ho : ∀ b ∈ vb v, b ∉ fp) : Own m0 m' u n cs v := by
  cases h with
  | nil h hc => exact .nil h hc
  | @«at» b c all hb hb2 hn hm hl hcs h1 => exact .at hb (Nat.lt_of_lt_of_le hb2 hx.next) hn (by rw [hx.same b hb2 (ho b (by simp [vb]))]; exact hm) hl hcs h1
theorem LocV.updm {m0 m m' : Mem} {b r : Nat} {L : List En} {lv : Value} (h : LocV m0 m b L lv) (hx : Upd m m' [r]) (h1 : b ≠ r) (h2 : r ∉ vb lv) (h3 : m0.next ≤ r) : LocV m0 m' b L lv :=
  ⟨h.box.upd hx (by simpa using h1), h.own.updq hx (fun c hc => by simp; intro e; subst e; exact h2 hc), hx.ext_of h.ext (by simpa using h3), h.ge, h.off⟩

def offM (M : List (Int × Bool)) (u : Int) : Bool := (lkp M u).getD false

structure PInv (l : List Sp) (L : List En) (t : Nat) (M : List (Int × Bool)) : Prop where
  perm : (keys L).Perm l
  bd : Bd L t
  fair : ∀ i (hi : i < L.length), offM M L[i].u = false → Fair L i ∧ sumN gI L = t

theorem PInv.start {l : List Sp} {L : List En} (h : MadeL l L) : PInv l L 0 [] := by
  have hR := Picks.start h
  exact ⟨hR.perm, hR.bd, fun i hi _ => ⟨hR.fair i hi, hR.sum⟩⟩

theorem PInv.pick {l : List Sp} {L : List En} {t : Nat} {M M' : List (Int × Bool)} {now : List Int} (h : PInv l L t M) (hM : ∀ u, offM M' u = (offM M u || decide (u ∈ now))) : PInv l (pick L (offF now)) (t + 1) M' := by
  have hk := pick_keys (off := offF now) h.bd.pos
  refine ⟨by rw [hk]; exact h.perm, h.bd.pick, fun i hi ho => ?_⟩
  have hi' : i < L.length := by rw [← keys_len hk]; exact hi
  have hu := (keys_get hk hi).1
  rw [hM, Bool.or_eq_false_iff, hu] at ho
  obtain ⟨f1, f2⟩ := h.fair i hi' ho.1
  obtain ⟨g1, g2, -⟩ := pick_fair (off := offF now) h.bd.pos hi' (by show decide _ = false; exact ho.2) f1
  exact ⟨g1, by rw [g2, f2]; omega⟩

/-- Rows of numbers. -/
structure OffsV (m : Mem) (n : Nat) (cs : List Value) (v : Value) : Prop where
  sl : Sl m 1 n cs v
  lt : SlLt m v
  el : ∀ i, i < n → ∃ (vi : Value) (li : List Int), cs[i]? = some vi ∧ Sl m 1 li.length (intsZ li) vi ∧ SlLt m vi ∧ Cut 1 m vi
theorem OffsV.keep {m m' : Mem} {n : Nat} {cs : List Value} {v : Value} (h : OffsV m n cs v) (hx : Ext m m') : OffsV m' n cs v :=
  ⟨h.sl.keep h.lt hx, h.lt.keep hx, fun i hi => by
    obtain ⟨vi, li, a, b, c, d⟩ := h.el i hi
    exact ⟨vi, li, a, b.keep c hx, c.keep hx, d.keep c hx⟩⟩
theorem offs_read {m : Mem} {v : Value} (h : Rd m (.sl [.sl [.int .i64]]) v) : ∃ n cs, OffsV m n cs v := by
  simp only [Rd] at h
  obtain ⟨n, cs, h1, h2, h3, h4, -⟩ := h
  refine ⟨n, cs, h1, h2, fun i hi => ?_⟩
  have hR := h4 i hi
  obtain ⟨c, r, hcr, k1, k2⟩ := hR.one
  have hv : cs[i]? = some c := by
    have := congrArg (fun l : List Value => l[0]?) hcr
    simp at this
    exact this
  obtain ⟨li, a, b, -⟩ := ints_read k1
  exact ⟨c, li, hv, a, b, k1.free.cut⟩

theorem aSub_ext {u : Nat} {m m' : Mem} {v : Value} {lo hi mx : Option Value} (hx : Ext m m') (hb : SlLt m v) : aSub u m' v lo hi mx = aSub u m v lo hi mx := by
  unfold aSub
  split
  · rfl
  · rename_i b o n c
    have : unitOk u m' b = unitOk u m b := by unfold unitOk; rw [hx.same b hb]
    rw [this]
  · rfl

/-- Those who are off are put down. -/
theorem Promised_off {m0 : Mem} {b r t : Nat} {L : List En} {lv nv v1 v2 v3 : Value} {now : List Int} {M : List (Int × Bool)} (hV : LocV m0 m b L lv) (hM : Mp m r vB M) (hbr : b ≠ r) (hrv : r ∉ vb lv) (h0r : m0.next ≤ r) (hs : Sl m0 1 now.length (intsZ now) nv) (hb : SlLt m0 nv) (hl : now.length ≤ 1000) :
    WL R [1, 2, 3, 9, 11, 12, 13, 14] RB.law15_LocalPromised_2 [(1, v1), (2, v2), (3, v3), (9, .pointer (some ⟨b, 0, none⟩)), (11, .map (some r)), (12, .int .i64 t), (13, nv), (14, .int .i64 0)] m fun x e' m' =>
      x = .exit 2 ∧ (∃ rest, e' = (1, v1) :: (2, v2) :: (3, v3) :: (9, .pointer (some ⟨b, 0, none⟩)) :: (11, .map (some r)) :: (12, .int .i64 t) :: (13, nv) :: rest) ∧ LocV m0 m' b L lv ∧ ∃ M', Mp m' r vB M' ∧ ∀ u, offM M' u = (offM M u || decide (u ∈ now)) := by
  refine WL.of (fun n e m' => ∃ (j : Nat) (M' : List (Int × Bool)), j ≤ now.length ∧ n = now.length - j ∧ e = [(1, v1), (2, v2), (3, v3), (9, .pointer (some ⟨b, 0, none⟩)), (11, .map (some r)), (12, .int .i64 t), (13, nv), (14, .int .i64 j)] ∧ LocV m0 m' b L lv ∧ Mp m' r vB M' ∧ ∀ u, offM M' u = (offM M u || decide (u ∈ now.take j))) now.length
    ⟨0, M, by omega, by omega, by simp only [go_sem, Bool.false_and, new_set, Int.reduceBEq, Int.reduceBNe, Int.reduceNeg, not_true_eq_false, beq_self_eq_true, bne_self_eq_false, Bool.false_eq_true, if_false, if_true, Int.cast_ofNat_Int, decide_true, decide_false, reduceCtorEq, Nat.reduceEqDiff, Nat.reduceAdd, ne_eq, not_false_eq_true, Option.map_some, Option.bind_some, Option.map_none, Option.bind_none, true_and, and_true, Bool.not_true, Bool.not_false, Nat.reduceLeDiff, Nat.reduceMul, Nat.reduceSub, Nat.le_refl, Int.reduceToNat, Int.reduceLT, Int.reduceLE, Nat.one_mul, Nat.mul_one] <;> rfl, hV, hM, fun u => by simp⟩ ?_
  rintro _ _ m5 ⟨j, M', hj, rfl, rfl, hV5, hM5, hMM⟩
  have hs5 := hs.keep hb hV5.ext
  simp only [RB.law15_LocalPromised_2, go_sem, Bool.false_and, new_set, Int.reduceBEq, Int.reduceBNe, Int.reduceNeg, not_true_eq_false, beq_self_eq_true, bne_self_eq_false, Bool.false_eq_true, if_false, if_true, Int.cast_ofNat_Int, decide_true, decide_false, reduceCtorEq, Nat.reduceEqDiff, Nat.reduceAdd, ne_eq, not_false_eq_true, Option.map_some, Option.bind_some, Option.map_none, Option.bind_none, true_and, and_true, Bool.not_true, Bool.not_false, Nat.reduceLeDiff, Nat.reduceMul, Nat.reduceSub, Nat.le_refl, Int.reduceToNat, Int.reduceLT, Int.reduceLE, Nat.one_mul, Nat.mul_one, hs5.len]
  refine gT.of (fun g2' => ?_) (fun g2' => ?_) <;> (have g2 := g2'; try simp only [decide_eq_true_eq, decide_eq_false_iff_not, beq_iff_eq, bne_iff_ne, beq_eq_false_iff_ne, ne_eq, Bool.not_eq_true', Bool.not_eq_false', bne_eq_false_iff_eq, Int.not_lt, Int.not_le] at g2)
  · have hjl : j < now.length := by omega
    have s1 := step1 (show j < 1000000 by omega)
    obtain ⟨p, a1, a2⟩ := hs5.get (k := .i64) hjl
    rw [intsZ_get hjl] at a2
    have pt := hM5.put (x := now[j]) (a := true)
    simp only [vB] at pt
    simp only [go_sem, Bool.false_and, new_set, Int.reduceBEq, Int.reduceBNe, Int.reduceNeg, not_true_eq_false, beq_self_eq_true, bne_self_eq_false, Bool.false_eq_true, if_false, if_true, Int.cast_ofNat_Int, decide_true, decide_false, reduceCtorEq, Nat.reduceEqDiff, Nat.reduceAdd, ne_eq, not_false_eq_true, Option.map_some, Option.bind_some, Option.map_none, Option.bind_none, true_and, and_true, Bool.not_true, Bool.not_false, Nat.reduceLeDiff, Nat.reduceMul, Nat.reduceSub, Nat.le_refl, Int.reduceToNat, Int.reduceLT, Int.reduceLE, Nat.one_mul, Nat.mul_one, g2', a1, a2, pt, s1]
    have hu : Upd m5 (m5.set r (some (.map (mpL vB (updL M' now[j] true))))) [r] := Upd.set (by simp)
    refine ⟨now.length - (j + 1), by omega, j + 1, updL M' now[j] true, by omega, rfl, rfl, hV5.updm hu hbr hrv h0r, hM5.self, fun u => ?_⟩
    unfold offM
    rw [lkp_upd, List.take_succ_eq_append_getElem hjl]
    by_cases e : u = now[j]
    · rw [if_pos e]
      have : decide (u ∈ now.take j ++ [now[j]]) = true := decide_eq_true (List.mem_append.2 (.inr (by rw [e]; exact List.mem_singleton.2 rfl)))
      rw [this]; simp
    · rw [if_neg e]
      have h1 := hMM u
      unfold offM at h1
      rw [h1]
      congr 1
      rw [decide_eq_decide, List.mem_append, List.mem_singleton]
      exact ⟨.inl, fun h => h.elim id fun h => absurd h e⟩
  · have : j = now.length := by omega
    subst this
    rw [List.take_length] at hMM
    simp only [go_sem, Bool.false_and, new_set, Int.reduceBEq, Int.reduceBNe, Int.reduceNeg, not_true_eq_false, beq_self_eq_true, bne_self_eq_false, Bool.false_eq_true, if_false, if_true, Int.cast_ofNat_Int, decide_true, decide_false, reduceCtorEq, Nat.reduceEqDiff, Nat.reduceAdd, ne_eq, not_false_eq_true, Option.map_some, Option.bind_some, Option.map_none, Option.bind_none, true_and, and_true, Bool.not_true, Bool.not_false, Nat.reduceLeDiff, Nat.reduceMul, Nat.reduceSub, Nat.le_refl, Int.reduceToNat, Int.reduceLT, Int.reduceLE, Nat.one_mul, Nat.mul_one, g2']
    exact ⟨⟨_, rfl⟩, hV5, M', hM5, hMM⟩

set_option maxHeartbeats 4000000 in
theorem LocalPromised_spec {l : List Sp} {v ov : Value} {f k : Int} {on : Nat} {ocs : List Value} (hs : Sl m 2 l.length (l.flatMap spV) v) (hb : SlLt m v) (hc : Cut 2 m v) (hr : ∀ w ∈ l, inR w.1 ∧ inR w.2) (hO : OffsV m on ocs ov) (hk0 : 0 ≤ k) (hk1 : k ≤ 255) : WC R F.law15_LocalPromised [.int .i64 f, v, ov, .int .u8 k] m fun r _ => r = .bool true := by
  refine WC.of R.law15_LocalPromised rfl ?_
  simp only [RC.law15_LocalPromised, go_sem, Bool.false_and, new_set, Int.reduceBEq, Int.reduceBNe, Int.reduceNeg, not_true_eq_false, beq_self_eq_true, bne_self_eq_false, Bool.false_eq_true, if_false, if_true, Int.cast_ofNat_Int, decide_true, decide_false, reduceCtorEq, Nat.reduceEqDiff, Nat.reduceAdd, ne_eq, not_false_eq_true, Option.map_some, Option.bind_some, Option.map_none, Option.bind_none, true_and, and_true, Bool.not_true, Bool.not_false, Nat.reduceLeDiff, Nat.reduceMul, Nat.reduceSub, Nat.le_refl, Int.reduceToNat, Int.reduceLT, Int.reduceLE, Nat.one_mul, Nat.mul_one, hs.len]
  have e : (if (80 : Int) < l.length then (80 : Int) else l.length) = ((min l.length 80 : Nat) : Int) := by
    split <;> omega
  obtain ⟨v', a1, hs', hb', hL⟩ := cutTo (N := 80) hs hb hc
  have hrL : ∀ w ∈ l.take 80, inR w.2 := fun w hw => (hr w (List.mem_of_mem_take hw)).2
  generalize l.take 80 = l' at hs' hL hrL
  simp only [go_sem, Bool.false_and, new_set, Int.reduceBEq, Int.reduceBNe, Int.reduceNeg, not_true_eq_false, beq_self_eq_true, bne_self_eq_false, Bool.false_eq_true, if_false, if_true, Int.cast_ofNat_Int, decide_true, decide_false, reduceCtorEq, Nat.reduceEqDiff, Nat.reduceAdd, ne_eq, not_false_eq_true, Option.map_some, Option.bind_some, Option.map_none, Option.bind_none, true_and, and_true, Bool.not_true, Bool.not_false, Nat.reduceLeDiff, Nat.reduceMul, Nat.reduceSub, Nat.le_refl, Int.reduceToNat, Int.reduceLT, Int.reduceLE, Nat.one_mul, Nat.mul_one, e, a1]
  refine gC.of (locMade hs' hb' hL hrL) ?_
  rintro _ m1 (⟨hE, rfl, hx⟩ | ⟨hE, b, L, lv, rfl, hV, hM⟩)
  · simp only [go_sem, Bool.false_and, new_set, Int.reduceBEq, Int.reduceBNe, Int.reduceNeg, not_true_eq_false, beq_self_eq_true, bne_self_eq_false, Bool.false_eq_true, if_false, if_true, Int.cast_ofNat_Int, decide_true, decide_false, reduceCtorEq, Nat.reduceEqDiff, Nat.reduceAdd, ne_eq, not_false_eq_true, Option.map_some, Option.bind_some, Option.map_none, Option.bind_none, true_and, and_true, Bool.not_true, Bool.not_false, Nat.reduceLeDiff, Nat.reduceMul, Nat.reduceSub, Nat.le_refl, Int.reduceToNat, Int.reduceLT, Int.reduceLE, Nat.one_mul, Nat.mul_one, aExt0, aExt1]
    refine gC.of (ref15Check (hs'.keep hb' hx) (by omega) hrL) ?_
    rintro _ _ ⟨rfl, hm⟩
    subst hm
    have e1 : (newE f l' != 0) = true := by rw [bne_iff_ne]; exact hE
    simp only [go_sem, Bool.false_and, new_set, Int.reduceBEq, Int.reduceBNe, Int.reduceNeg, not_true_eq_false, beq_self_eq_true, bne_self_eq_false, Bool.false_eq_true, if_false, if_true, Int.cast_ofNat_Int, decide_true, decide_false, reduceCtorEq, Nat.reduceEqDiff, Nat.reduceAdd, ne_eq, not_false_eq_true, Option.map_some, Option.bind_some, Option.map_none, Option.bind_none, true_and, and_true, Bool.not_true, Bool.not_false, Nat.reduceLeDiff, Nat.reduceMul, Nat.reduceSub, Nat.le_refl, Int.reduceToNat, Int.reduceLT, Int.reduceLE, Nat.one_mul, Nat.mul_one, e1]
    refine gC.of (ok_spec R.law15_awake) ?_
    rintro _ m_ ⟨rfl, hm_⟩
    replace hm_ := hm_.symm
    subst hm_
    simp only [go_sem, Bool.false_and, new_set, Int.reduceBEq, Int.reduceBNe, Int.reduceNeg, not_true_eq_false, beq_self_eq_true, bne_self_eq_false, Bool.false_eq_true, if_false, if_true, Int.cast_ofNat_Int, decide_true, decide_false, reduceCtorEq, Nat.reduceEqDiff, Nat.reduceAdd, ne_eq, not_false_eq_true, Option.map_some, Option.bind_some, Option.map_none, Option.bind_none, true_and, and_true, Bool.not_true, Bool.not_false, Nat.reduceLeDiff, Nat.reduceMul, Nat.reduceSub, Nat.le_refl, Int.reduceToNat, Int.reduceLT, Int.reduceLE, Nat.one_mul, Nat.mul_one]
  · obtain ⟨f1, f2, k1, k2, k3⟩ := newE_zero hE (by omega)
    simp only [go_sem, Bool.false_and, new_set, Int.reduceBEq, Int.reduceBNe, Int.reduceNeg, not_true_eq_false, beq_self_eq_true, bne_self_eq_false, Bool.false_eq_true, if_false, if_true, Int.cast_ofNat_Int, decide_true, decide_false, reduceCtorEq, Nat.reduceEqDiff, Nat.reduceAdd, ne_eq, not_false_eq_true, Option.map_some, Option.bind_some, Option.map_none, Option.bind_none, true_and, and_true, Bool.not_true, Bool.not_false, Nat.reduceLeDiff, Nat.reduceMul, Nat.reduceSub, Nat.le_refl, Int.reduceToNat, Int.reduceLT, Int.reduceLE, Nat.one_mul, Nat.mul_one, aExt0, aExt1]
    have hR0 := PInv.start hM
    have hT := (Picks.start hM).total
    have hlen0 := (Picks.start hM).len
    have hk00 := hM.perm
    have hx2 : Ext m1 (m1.new (.map [])) := Ext.new
    have hMp : Mp (m1.new (.map [])) m1.next vB [] := Mp.new
    have hbr : b ≠ m1.next := by have := hV.box.lt; omega
    have hrv : m1.next ∉ vb lv := fun h => by have := SlLt.vb_iff.1 hV.own.lt _ h; omega
    have h0r : m.next ≤ m1.next := hV.ext.next
    have hV2 := hV.keep hx2
    generalize m1.new (.map []) = m2 at hx2 hMp hV2 ⊢
    have hW : ∀ w ∈ l', 0 ≤ w.2 := fun w hw => by have := k1 w hw; omega
    have hS0 := sumW_nn hW
    refine WL.of (fun n e m' => ∃ (t : Nat) (L' : List En) (M : List (Int × Bool)), t ≤ 200 ∧ n = 200 - t ∧ e = [(1, v'), (2, ov), (3, .int .u8 k), (9, .pointer (some ⟨b, 0, none⟩)), (11, .map (some m1.next)), (12, .int .i64 t)] ∧ LocV m m' b L' lv ∧ Mp m' m1.next vB M ∧ PInv l' L' t M) 200
      ⟨0, L, [], by omega, by omega, by simp only [go_sem, Bool.false_and, new_set, Int.reduceBEq, Int.reduceBNe, Int.reduceNeg, not_true_eq_false, beq_self_eq_true, bne_self_eq_false, Bool.false_eq_true, if_false, if_true, Int.cast_ofNat_Int, decide_true, decide_false, reduceCtorEq, Nat.reduceEqDiff, Nat.reduceAdd, ne_eq, not_false_eq_true, Option.map_some, Option.bind_some, Option.map_none, Option.bind_none, true_and, and_true, Bool.not_true, Bool.not_false, Nat.reduceLeDiff, Nat.reduceMul, Nat.reduceSub, Nat.le_refl, Int.reduceToNat, Int.reduceLT, Int.reduceLE, Nat.one_mul, Nat.mul_one] <;> rfl, hV2, hMp, hR0⟩ ?_
    rintro _ _ m3 ⟨t, L', M, ht, rfl, rfl, hV3, hM3, hP⟩
    have hPl : L'.length = l'.length := by have := hP.perm.length_eq; simpa [keys] using this
    have hSum : sumN sI L' = sumW l' := by rw [← sumW_wts, wts_keys]; exact sumW_perm hP.perm
    simp only [RB.law15_LocalPromised_3, go_sem, Bool.false_and, new_set, Int.reduceBEq, Int.reduceBNe, Int.reduceNeg, not_true_eq_false, beq_self_eq_true, bne_self_eq_false, Bool.false_eq_true, if_false, if_true, Int.cast_ofNat_Int, decide_true, decide_false, reduceCtorEq, Nat.reduceEqDiff, Nat.reduceAdd, ne_eq, not_false_eq_true, Option.map_some, Option.bind_some, Option.map_none, Option.bind_none, true_and, and_true, Bool.not_true, Bool.not_false, Nat.reduceLeDiff, Nat.reduceMul, Nat.reduceSub, Nat.le_refl, Int.reduceToNat, Int.reduceLT, Int.reduceLE, Nat.one_mul, Nat.mul_one]
    refine gC.of (locTotal hV3 (by omega) (fun e he => by have := hP.bd.s e he; omega)) ?_
    rintro _ m4 ⟨rfl, hx4⟩
    rw [hSum]
    have hwk : IntKind.wrap .i64 k = k := wrap_i64 (by omega) (by omega)
    have hT1 : k.tmod 40 < 40 := Int.tmod_lt_of_pos _ (by omega)
    have hT0 : 0 ≤ k.tmod 40 := Int.tmod_nonneg _ (by omega)
    have hV4 := hV3.keep hx4
    have hM4 := hM3.keep hx4
    simp only [go_sem, Bool.false_and, new_set, Int.reduceBEq, Int.reduceBNe, Int.reduceNeg, not_true_eq_false, beq_self_eq_true, bne_self_eq_false, Bool.false_eq_true, if_false, if_true, Int.cast_ofNat_Int, decide_true, decide_false, reduceCtorEq, Nat.reduceEqDiff, Nat.reduceAdd, ne_eq, not_false_eq_true, Option.map_some, Option.bind_some, Option.map_none, Option.bind_none, true_and, and_true, Bool.not_true, Bool.not_false, Nat.reduceLeDiff, Nat.reduceMul, Nat.reduceSub, Nat.le_refl, Int.reduceToNat, Int.reduceLT, Int.reduceLE, Nat.one_mul, Nat.mul_one, hwk]
    generalize k.tmod 40 = T at hT1 hT0
    have w1 : IntKind.wrap .i64 (sumW l' + T) = sumW l' + T := wrap_i64 (by omega) (by omega)
    refine ⟨by omega, ?_⟩
    rw [w1]
    have hO4 := hO.keep hV4.ext
    refine gT.of (fun g1' => ?_) (fun g1' => ?_) <;> (have g1 := g1'; try simp only [decide_eq_true_eq, decide_eq_false_iff_not, beq_iff_eq, bne_iff_ne, beq_eq_false_iff_ne, ne_eq, Bool.not_eq_true', Bool.not_eq_false', bne_eq_false_iff_eq, Int.not_lt, Int.not_le] at g1)
    · have s1 := step1 (show t < 1000000 by omega)
      simp only [go_sem, Bool.false_and, new_set, Int.reduceBEq, Int.reduceBNe, Int.reduceNeg, not_true_eq_false, beq_self_eq_true, bne_self_eq_false, Bool.false_eq_true, if_false, if_true, Int.cast_ofNat_Int, decide_true, decide_false, reduceCtorEq, Nat.reduceEqDiff, Nat.reduceAdd, ne_eq, not_false_eq_true, Option.map_some, Option.bind_some, Option.map_none, Option.bind_none, true_and, and_true, Bool.not_true, Bool.not_false, Nat.reduceLeDiff, Nat.reduceMul, Nat.reduceSub, Nat.le_refl, Int.reduceToNat, Int.reduceLT, Int.reduceLE, Nat.one_mul, Nat.mul_one, g1', hO4.sl.len]
      refine gT_mid (fun e m' => m' = m4 ∧ ∃ (nv : Value) (now : List Int) (rest : Env), e = (1, v') :: (2, ov) :: (3, .int .u8 k) :: (9, .pointer (some ⟨b, 0, none⟩)) :: (11, .map (some m1.next)) :: (12, .int .i64 t) :: (13, nv) :: rest ∧ Sl m 1 now.length (intsZ now) nv ∧ SlLt m nv ∧ now.length ≤ 40) (fun g => ?_) (fun g => ?_) ?_
      · have htn : t < on := by simp only [decide_eq_true_eq] at g; omega
        obtain ⟨vi, li, e1, e2, e3, e4⟩ := hO.el t htn
        obtain ⟨p, p1, p2⟩ := hO4.sl.get (k := .i64) htn
        rw [e1] at p2
        have hl2 := (e2.keep e3 hV4.ext).len
        have em : (if (40 : Int) < li.length then (40 : Int) else li.length) = ((min li.length 40 : Nat) : Int) := by
          split <;> omega
        obtain ⟨nv, q1, q2, q3, -⟩ := e2.to e4 (k := .i64) (i := min li.length 40) (by omega)
        rw [← aSub_ext hV4.ext e3] at q1
        have hlt : (li.take 40).length = min li.length 40 := by rw [List.length_take]; omega
        have htk : (intsZ li).take (min li.length 40 * 1) = intsZ (li.take 40) := by
          rw [Nat.mul_one]; unfold intsZ
          rw [List.map_take, ← List.take_take]
          exact List.take_of_length_le (by rw [List.length_take, List.length_map]; omega)
        rw [htk, ← hlt] at q2
        simp only [go_sem, Bool.false_and, new_set, Int.reduceBEq, Int.reduceBNe, Int.reduceNeg, not_true_eq_false, beq_self_eq_true, bne_self_eq_false, Bool.false_eq_true, if_false, if_true, Int.cast_ofNat_Int, decide_true, decide_false, reduceCtorEq, Nat.reduceEqDiff, Nat.reduceAdd, ne_eq, not_false_eq_true, Option.map_some, Option.bind_some, Option.map_none, Option.bind_none, true_and, and_true, Bool.not_true, Bool.not_false, Nat.reduceLeDiff, Nat.reduceMul, Nat.reduceSub, Nat.le_refl, Int.reduceToNat, Int.reduceLT, Int.reduceLE, Nat.one_mul, Nat.mul_one, p1, p2, hl2, em, q1]
        exact ⟨nv, li.take 40, _, rfl, q2, q3 e3, by rw [hlt]; omega⟩
      · simp only [go_sem, Bool.false_and, new_set, Int.reduceBEq, Int.reduceBNe, Int.reduceNeg, not_true_eq_false, beq_self_eq_true, bne_self_eq_false, Bool.false_eq_true, if_false, if_true, Int.cast_ofNat_Int, decide_true, decide_false, reduceCtorEq, Nat.reduceEqDiff, Nat.reduceAdd, ne_eq, not_false_eq_true, Option.map_some, Option.bind_some, Option.map_none, Option.bind_none, true_and, and_true, Bool.not_true, Bool.not_false, Nat.reduceLeDiff, Nat.reduceMul, Nat.reduceSub, Nat.le_refl, Int.reduceToNat, Int.reduceLT, Int.reduceLE, Nat.one_mul, Nat.mul_one]
        exact ⟨.slice none 0 0, [], _, rfl, .nil rfl rfl, trivial, by simp⟩
      · rintro e' m' ⟨rfl, nv, now, rest, rfl, n1, n2, n3⟩
        simp only [go_sem, Bool.false_and, new_set, Int.reduceBEq, Int.reduceBNe, Int.reduceNeg, not_true_eq_false, beq_self_eq_true, bne_self_eq_false, Bool.false_eq_true, if_false, if_true, Int.cast_ofNat_Int, decide_true, decide_false, reduceCtorEq, Nat.reduceEqDiff, Nat.reduceAdd, ne_eq, not_false_eq_true, Option.map_some, Option.bind_some, Option.map_none, Option.bind_none, true_and, and_true, Bool.not_true, Bool.not_false, Nat.reduceLeDiff, Nat.reduceMul, Nat.reduceSub, Nat.le_refl, Int.reduceToNat, Int.reduceLT, Int.reduceLE, Nat.one_mul, Nat.mul_one]
        refine WL.mono (Promised_off hV4 hM4 hbr hrv h0r n1 n2 (by omega)) ?_
        rintro _ _ m5 ⟨rfl, ⟨rest, rfl⟩, hV5, M', hM5, hMM⟩
        simp only [go_sem, Bool.false_and, new_set, Int.reduceBEq, Int.reduceBNe, Int.reduceNeg, not_true_eq_false, beq_self_eq_true, bne_self_eq_false, Bool.false_eq_true, if_false, if_true, Int.cast_ofNat_Int, decide_true, decide_false, reduceCtorEq, Nat.reduceEqDiff, Nat.reduceAdd, ne_eq, not_false_eq_true, Option.map_some, Option.bind_some, Option.map_none, Option.bind_none, true_and, and_true, Bool.not_true, Bool.not_false, Nat.reduceLeDiff, Nat.reduceMul, Nat.reduceSub, Nat.le_refl, Int.reduceToNat, Int.reduceLT, Int.reduceLE, Nat.one_mul, Nat.mul_one]
        refine gC.of (locPickU hV5 (hP.bd.sm (by omega)) (by omega) (n1.keep n2 hV5.ext) (n2.keep hV5.ext) (by omega)) ?_
        rintro _ m6 ⟨-, hV6, hu6⟩
        simp only [go_sem, Bool.false_and, new_set, Int.reduceBEq, Int.reduceBNe, Int.reduceNeg, not_true_eq_false, beq_self_eq_true, bne_self_eq_false, Bool.false_eq_true, if_false, if_true, Int.cast_ofNat_Int, decide_true, decide_false, reduceCtorEq, Nat.reduceEqDiff, Nat.reduceAdd, ne_eq, not_false_eq_true, Option.map_some, Option.bind_some, Option.map_none, Option.bind_none, true_and, and_true, Bool.not_true, Bool.not_false, Nat.reduceLeDiff, Nat.reduceMul, Nat.reduceSub, Nat.le_refl, Int.reduceToNat, Int.reduceLT, Int.reduceLE, Nat.one_mul, Nat.mul_one, s1]
        exact ⟨200 - (t + 1), by omega, t + 1, _, M', by omega, rfl, rfl, hV6, hM5.upd hu6 hrv, hP.pick hMM⟩
    · simp only [go_sem, Bool.false_and, new_set, Int.reduceBEq, Int.reduceBNe, Int.reduceNeg, not_true_eq_false, beq_self_eq_true, bne_self_eq_false, Bool.false_eq_true, if_false, if_true, Int.cast_ofNat_Int, decide_true, decide_false, reduceCtorEq, Nat.reduceEqDiff, Nat.reduceAdd, ne_eq, not_false_eq_true, Option.map_some, Option.bind_some, Option.map_none, Option.bind_none, true_and, and_true, Bool.not_true, Bool.not_false, Nat.reduceLeDiff, Nat.reduceMul, Nat.reduceSub, Nat.le_refl, Int.reduceToNat, Int.reduceLT, Int.reduceLE, Nat.one_mul, Nat.mul_one, g1']
      have hge : sumW l' ≤ (t : Int) := by omega
      refine WL.of (fun n e m' => ∃ j : Nat, j ≤ l'.length ∧ n = l'.length - j ∧ e = [(1, v'), (9, .pointer (some ⟨b, 0, none⟩)), (11, .map (some m1.next)), (15, .int .i64 j)] ∧ LocV m m' b L' lv ∧ Mp m' m1.next vB M) l'.length
        ⟨0, by omega, by omega, by simp only [go_sem, Bool.false_and, new_set, Int.reduceBEq, Int.reduceBNe, Int.reduceNeg, not_true_eq_false, beq_self_eq_true, bne_self_eq_false, Bool.false_eq_true, if_false, if_true, Int.cast_ofNat_Int, decide_true, decide_false, reduceCtorEq, Nat.reduceEqDiff, Nat.reduceAdd, ne_eq, not_false_eq_true, Option.map_some, Option.bind_some, Option.map_none, Option.bind_none, true_and, and_true, Bool.not_true, Bool.not_false, Nat.reduceLeDiff, Nat.reduceMul, Nat.reduceSub, Nat.le_refl, Int.reduceToNat, Int.reduceLT, Int.reduceLE, Nat.one_mul, Nat.mul_one] <;> rfl, hV4, hM4⟩ ?_
      rintro _ _ m5 ⟨j, hj, rfl, rfl, hV5, hM5⟩
      have hs5 := hs'.keep hb' hV5.ext
      simp only [RB.law15_LocalPromised_1, go_sem, Bool.false_and, new_set, Int.reduceBEq, Int.reduceBNe, Int.reduceNeg, not_true_eq_false, beq_self_eq_true, bne_self_eq_false, Bool.false_eq_true, if_false, if_true, Int.cast_ofNat_Int, decide_true, decide_false, reduceCtorEq, Nat.reduceEqDiff, Nat.reduceAdd, ne_eq, not_false_eq_true, Option.map_some, Option.bind_some, Option.map_none, Option.bind_none, true_and, and_true, Bool.not_true, Bool.not_false, Nat.reduceLeDiff, Nat.reduceMul, Nat.reduceSub, Nat.le_refl, Int.reduceToNat, Int.reduceLT, Int.reduceLE, Nat.one_mul, Nat.mul_one, hs5.len]
      refine gT.of (fun g2' => ?_) (fun g2' => ?_) <;> (have g2 := g2'; try simp only [decide_eq_true_eq, decide_eq_false_iff_not, beq_iff_eq, bne_iff_ne, beq_eq_false_iff_ne, ne_eq, Bool.not_eq_true', Bool.not_eq_false', bne_eq_false_iff_eq, Int.not_lt, Int.not_le] at g2)
      · have hjl : j < l'.length := by omega
        have s1 := step1 (show j < 1000000 by omega)
        obtain ⟨p, o, a1, -, a3, -⟩ := hs5.elem spV_len (k := .i64) hjl
        have c1 : aLoad false 1 m5 (.pointer (some ⟨p, o + 0, none⟩)) = some (.int .i64 l'[j].1) := a3 0 (by omega)
        have hw := List.getElem_mem hjl
        simp only [go_sem, Bool.false_and, new_set, Int.reduceBEq, Int.reduceBNe, Int.reduceNeg, not_true_eq_false, beq_self_eq_true, bne_self_eq_false, Bool.false_eq_true, if_false, if_true, Int.cast_ofNat_Int, decide_true, decide_false, reduceCtorEq, Nat.reduceEqDiff, Nat.reduceAdd, ne_eq, not_false_eq_true, Option.map_some, Option.bind_some, Option.map_none, Option.bind_none, true_and, and_true, Bool.not_true, Bool.not_false, Nat.reduceLeDiff, Nat.reduceMul, Nat.reduceSub, Nat.le_refl, Int.reduceToNat, Int.reduceLT, Int.reduceLE, Nat.one_mul, Nat.mul_one, g2', a1, c1]
        refine gC.of (locGot hV5 (by omega)) ?_
        rintro _ m6 ⟨⟨hno, rfl⟩ | ⟨i, hi, rfl, hu⟩, hx6⟩
        · obtain ⟨e, he, heq⟩ := List.mem_map.1 (hP.perm.mem_iff.2 hw)
          exact absurd (congrArg Prod.fst heq) (hno e he)
        · obtain ⟨p, o, a1, -, a3, -⟩ := (hs5.keep (hb'.keep hV5.ext) hx6).elem spV_len (k := .i64) hjl
          have c1 : aLoad false 1 m6 (.pointer (some ⟨p, o + 0, none⟩)) = some (.int .i64 l'[j].1) := a3 0 (by omega)
          have c2 : aLoad false 1 m6 (.pointer (some ⟨p, o + 1, none⟩)) = some (.int .i64 l'[j].2) := a3 1 (by omega)
          have hM6 := hM5.keep hx6
          have lk := hM6.look (x := l'[j].1) (z := false)
          simp only [vB] at lk
          have hsh : L'[i].s = l'[j].2 := by
            have h1 : (L'[i].u, L'[i].s) ∈ l' := hP.perm.mem_iff.1 (List.mem_map.2 ⟨L'[i], List.getElem_mem hi, rfl⟩)
            exact congrArg Prod.snd (same_unit k2 h1 hw hu)
          simp only [go_sem, Bool.false_and, new_set, Int.reduceBEq, Int.reduceBNe, Int.reduceNeg, not_true_eq_false, beq_self_eq_true, bne_self_eq_false, Bool.false_eq_true, if_false, if_true, Int.cast_ofNat_Int, decide_true, decide_false, reduceCtorEq, Nat.reduceEqDiff, Nat.reduceAdd, ne_eq, not_false_eq_true, Option.map_some, Option.bind_some, Option.map_none, Option.bind_none, true_and, and_true, Bool.not_true, Bool.not_false, Nat.reduceLeDiff, Nat.reduceMul, Nat.reduceSub, Nat.le_refl, Int.reduceToNat, Int.reduceLT, Int.reduceLE, Nat.one_mul, Nat.mul_one, aExt0, aExt1, a1, c1, lk]
          cases hoff : (lkp M l'[j].1).getD false with
          | true =>
            simp only [go_sem, Bool.false_and, new_set, Int.reduceBEq, Int.reduceBNe, Int.reduceNeg, not_true_eq_false, beq_self_eq_true, bne_self_eq_false, Bool.false_eq_true, if_false, if_true, Int.cast_ofNat_Int, decide_true, decide_false, reduceCtorEq, Nat.reduceEqDiff, Nat.reduceAdd, ne_eq, not_false_eq_true, Option.map_some, Option.bind_some, Option.map_none, Option.bind_none, true_and, and_true, Bool.not_true, Bool.not_false, Nat.reduceLeDiff, Nat.reduceMul, Nat.reduceSub, Nat.le_refl, Int.reduceToNat, Int.reduceLT, Int.reduceLE, Nat.one_mul, Nat.mul_one, s1]
            exact ⟨l'.length - (j + 1), by omega, j + 1, by omega, rfl, rfl, hV5.keep hx6, hM6⟩
          | false =>
            obtain ⟨hf, hsum⟩ := hP.fair i hi (by unfold offM; rw [hu]; exact hoff)
            have hfs := fair_share hP.bd.pos hi hf (by rw [hsum, hSum]; exact hge)
            have e3 : decide ((L'[i].g : Int) < l'[j].2) = false := decide_eq_false (by rw [← hsh]; omega)
            simp only [go_sem, Bool.false_and, new_set, Int.reduceBEq, Int.reduceBNe, Int.reduceNeg, not_true_eq_false, beq_self_eq_true, bne_self_eq_false, Bool.false_eq_true, if_false, if_true, Int.cast_ofNat_Int, decide_true, decide_false, reduceCtorEq, Nat.reduceEqDiff, Nat.reduceAdd, ne_eq, not_false_eq_true, Option.map_some, Option.bind_some, Option.map_none, Option.bind_none, true_and, and_true, Bool.not_true, Bool.not_false, Nat.reduceLeDiff, Nat.reduceMul, Nat.reduceSub, Nat.le_refl, Int.reduceToNat, Int.reduceLT, Int.reduceLE, Nat.one_mul, Nat.mul_one, a1, c2, e3, s1]
            exact ⟨l'.length - (j + 1), by omega, j + 1, by omega, rfl, rfl, hV5.keep hx6, hM6⟩
      · simp only [go_sem, Bool.false_and, new_set, Int.reduceBEq, Int.reduceBNe, Int.reduceNeg, not_true_eq_false, beq_self_eq_true, bne_self_eq_false, Bool.false_eq_true, if_false, if_true, Int.cast_ofNat_Int, decide_true, decide_false, reduceCtorEq, Nat.reduceEqDiff, Nat.reduceAdd, ne_eq, not_false_eq_true, Option.map_some, Option.bind_some, Option.map_none, Option.bind_none, true_and, and_true, Bool.not_true, Bool.not_false, Nat.reduceLeDiff, Nat.reduceMul, Nat.reduceSub, Nat.le_refl, Int.reduceToNat, Int.reduceLT, Int.reduceLE, Nat.one_mul, Nat.mul_one, g2']
        refine gC.of (ok_spec R.law15_awake) ?_
        rintro _ m_ ⟨rfl, hm_⟩
        replace hm_ := hm_.symm
        subst hm_
        simp only [go_sem, Bool.false_and, new_set, Int.reduceBEq, Int.reduceBNe, Int.reduceNeg, not_true_eq_false, beq_self_eq_true, bne_self_eq_false, Bool.false_eq_true, if_false, if_true, Int.cast_ofNat_Int, decide_true, decide_false, reduceCtorEq, Nat.reduceEqDiff, Nat.reduceAdd, ne_eq, not_false_eq_true, Option.map_some, Option.bind_some, Option.map_none, Option.bind_none, true_and, and_true, Bool.not_true, Bool.not_false, Nat.reduceLeDiff, Nat.reduceMul, Nat.reduceSub, Nat.le_refl, Int.reduceToNat, Int.reduceLT, Int.reduceLE, Nat.one_mul, Nat.mul_one]
end Go.Am


/- LocalPromised, of arguments as they are read. -/
set_option linter.unusedVariables false
namespace Go.Am
theorem rd_u8 {m : Mem} {v : Value} (h : Rd m (.int .u8) v) : ∃ n, v = .int .u8 n ∧ 0 ≤ n ∧ n ≤ 255 := by
  simp only [Rd] at h
  obtain ⟨n, rfl, hw⟩ := h
  have : IntKind.u8.min = 0 := by decide
  have : IntKind.u8.max = 255 := by decide
  simp only [Lit.wf, Bool.and_eq_true, decide_eq_true_eq] at hw
  exact ⟨n, rfl, by omega, by omega⟩
theorem law15_LocalPromised_walk (m : Mem) (us : List Value) (h : RdAs m [(false, [.int .i64]), (false, [.sl [.int .i64, .int .i64]]), (false, [.sl [.sl [.int .i64]]]), (false, [.int .u8])] us) : WC R F.law15_LocalPromised us m fun v _ => v = .bool true := by
  obtain ⟨_, _, rfl, h1, h⟩ := h.one; obtain ⟨_, _, rfl, h2, h⟩ := h.one; obtain ⟨_, _, rfl, h3, h⟩ := h.one; obtain ⟨_, _, rfl, h4, h⟩ := h.one; cases h.none
  obtain ⟨f, rfl, -⟩ := h1.rd.i64; obtain ⟨l, hs, hb, hc, hr⟩ := w_read h2.rd
  obtain ⟨on, ocs, hO⟩ := offs_read h3.rd
  obtain ⟨k, rfl, k0, k1⟩ := rd_u8 h4.rd
  exact LocalPromised_spec hs hb hc hr hO k0 k1
end Go.Am
