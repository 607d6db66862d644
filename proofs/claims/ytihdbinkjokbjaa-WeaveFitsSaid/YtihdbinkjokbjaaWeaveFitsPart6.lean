/- Parts of the proofs of the statements of this seat: WeaveP1, WeavePlanM2, WeavePlanX1, WeavePlanX2, WeavePlanX3, WeavePlanX4, AmSl3, WeavePlanX5, WeavePlanM3, AmCut, AmOwnQ, WeaveW1, WeaveW2, WeaveW3, WeaveP2, AmRow, AmIns, AmIns2, WeaveW4, WeaveW5, WeaveW6, WeavePlanL1, WeaveW7, WeaveW8, WeaveP3. No conditions. -/
import Derived.Test.YtihdbinkjokbjaaWeaveFitsPart5
import Derived.Test.YtihdbinkjokbjaaWeaveFitsPart4
import Derived.Test.YtihdbinkjokbjaaWeaveFitsPart3
import Derived.Laws.AppendOwn
import Derived.Laws.IdiomCopy
set_option linter.unusedVariables false
set_option linter.unusedSimpArgs false

/- Weave, in plain Lean: a tick is given to a core, and cores give theirs away. -/
set_option linter.unusedVariables false
set_option linter.unusedSimpArgs false
namespace Go.Am
open Classical

theorem S_le {f g : Nat → Int} {n : Nat} (h : ∀ i, i < n → f i ≤ g i) : S f n ≤ S g n := by
  induction n with
  | zero => exact Int.le_refl _
  | succ n ih => simp only [S]; have := ih fun i hi => h i (by omega); have := h n (by omega); omega
def fup {α : Type} (g : Nat → α) (t : Nat) (v : α) : Nat → α := fun s => if s = t then v else g s
theorem fup_at {α : Type} {g : Nat → α} {t : Nat} {v : α} : fup g t v t = v := if_pos rfl
theorem fup_ne {α : Type} {g : Nat → α} {t s : Nat} {v : α} (h : s ≠ t) : fup g t v s = g s := if_neg h
/-- How many ticks a core has. -/
def cntT (f : Nat) (to : Nat → Nat) (i : Nat) : Int := S (fun s => if to s = i + 1 then 1 else 0) f
theorem cntT_congr {f : Nat} {to to' : Nat → Nat} {i : Nat} (h : ∀ s, s < f → (to' s = i + 1 ↔ to s = i + 1)) : cntT f to' i = cntT f to i := S_congr fun s hs => by
  by_cases e : to s = i + 1
  · rw [if_pos e, if_pos ((h s hs).2 e)]
  · rw [if_neg e, if_neg fun q => e ((h s hs).1 q)]
theorem cntT_up {f : Nat} {to : Nat → Nat} {t v i : Nat} (ht : t < f) : cntT f (fup to t v) i + (if to t = i + 1 then 1 else 0) = cntT f to i + if v = i + 1 then 1 else 0 := by
  have h1 : S (fun s => if s = t then (if to t = i + 1 then (1 : Int) else 0) else 0) f = if to t = i + 1 then 1 else 0 := S_one ht
  have h2 : S (fun s => if s = t then (if v = i + 1 then (1 : Int) else 0) else 0) f = if v = i + 1 then 1 else 0 := S_one ht
  unfold cntT
  rw [← h1, ← h2, ← S_add, ← S_add]
  refine S_congr fun s hs => ?_
  by_cases e : s = t
  · subst e; rw [fup_at, if_pos rfl, if_pos rfl]; omega
  · rw [fup_ne e, if_neg e, if_neg e]
structure Va (n f : Nat) (G : Nat → Nat → Bool) (r : Nat → Int) (to : Nat → Nat) (us : Nat → Int) : Prop where
  v : ∀ s, to s = 0 ∨ ∃ i, i < n ∧ to s = i + 1 ∧ G i s = true ∧ s < f
  c : ∀ i, i < n → us i = cntT f to i
  rm : ∀ i, i < n → us i ≤ r i
/-- Cores that are full, and whose ticks have gaps on such cores alone. -/
def CF (n f : Nat) (G : Nat → Nat → Bool) (r : Nat → Int) (to : Nat → Nat) (M : Nat → Prop) : Prop := ∀ i, i < n → M i → cntT f to i = r i ∧ ∀ s, s < f → to s = i + 1 → ∀ j, j < n → G j s = true → M j
/-- What was met is full, and closed. -/
def Clo (n f : Nat) (G : Nat → Nat → Bool) (r : Nat → Int) (to : Nat → Nat) (us : Nat → Int) (met met' : Nat → Bool) : Prop :=
  (∀ i, met i = true → met' i = true) ∧ ∀ i, i < n → met' i = true → met i = true ∨ (us i = r i ∧ ∀ s, s < f → to s = i + 1 → ∀ j, j < n → G j s = true → met' j = true)
theorem Clo.refl {n f : Nat} {G : Nat → Nat → Bool} {r : Nat → Int} {to : Nat → Nat} {us : Nat → Int} {met : Nat → Bool} : Clo n f G r to us met met := ⟨fun _ h => h, fun _ _ h => .inl h⟩
theorem Clo.trans {n f : Nat} {G : Nat → Nat → Bool} {r : Nat → Int} {to : Nat → Nat} {us : Nat → Int} {a b c : Nat → Bool} (h : Clo n f G r to us a b) (k : Clo n f G r to us b c) : Clo n f G r to us a c :=
  ⟨fun i hi => k.1 i (h.1 i hi), fun i hi hc => by
    rcases k.2 i hi hc with g | g
    · rcases h.2 i hi g with g | g
      · exact .inl g
      · exact .inr ⟨g.1, fun s hs ht j hj hG => k.1 j (g.2 s hs ht j hj hG)⟩
    · exact .inr g⟩
structure TryF (n f : Nat) (G : Nat → Nat → Bool) (r : Nat → Int) (to : Nat → Nat) (us : Nat → Int) (met : Nat → Bool) (t : Nat) (met' : Nat → Bool) : Prop where
  clo : Clo n f G r to us met met'
  gap : ∀ j, j < n → G j t = true → met' j = true
structure TryS (n f : Nat) (G : Nat → Nat → Bool) (r : Nat → Int) (to : Nat → Nat) (us : Nat → Int) (met : Nat → Bool) (t : Nat) (to' : Nat → Nat) (us' : Nat → Int) : Prop where
  ch : ∀ s, to' s = to s ∨ s = t ∨ ∃ i, i < n ∧ to s = i + 1 ∧ met i = false
  v : ∀ s, to' s = 0 ∨ ∃ i, i < n ∧ to' s = i + 1 ∧ G i s = true ∧ s < f
  z : ∀ s, s ≠ t → (to' s = 0 ↔ to s = 0)
  tt : to' t ≠ 0
  c : ∀ i, i < n → us' i = cntT f to' i + if to t = i + 1 then 1 else 0
  rm : ∀ i, i < n → us' i ≤ r i
  M : ∀ M, CF n f G r to M → (∀ i, i < n → M i → ∀ s, to' s = i + 1 ↔ to s = i + 1) ∧ ∃ j, j < n ∧ G j t = true ∧ ¬ M j
structure PushS (n f : Nat) (G : Nat → Nat → Bool) (r : Nat → Int) (to : Nat → Nat) (us : Nat → Int) (met : Nat → Bool) (i : Nat) (to' : Nat → Nat) (us' : Nat → Int) : Prop where
  ch : ∀ s, to' s = to s ∨ ∃ k, k < n ∧ to s = k + 1 ∧ (k = i ∨ met k = false)
  v : ∀ s, to' s = 0 ∨ ∃ k, k < n ∧ to' s = k + 1 ∧ G k s = true ∧ s < f
  z : ∀ s, to' s = 0 ↔ to s = 0
  c : ∀ k, k < n → us' k = cntT f to' k
  rm : ∀ k, k < n → us' k ≤ r k
  ri : us' i + 1 ≤ r i
  M : ∀ M, CF n f G r to M → (∀ k, k < n → M k → ∀ s, to' s = k + 1 ↔ to s = k + 1) ∧ ¬ M i
theorem pushS_of_try {n f : Nat} {G : Nat → Nat → Bool} {r : Nat → Int} {to : Nat → Nat} {us : Nat → Int} {met : Nat → Bool} {i s : Nat} {to' : Nat → Nat} {us' : Nat → Int} (hi : i < n) (hs : s < f) (he : to s = i + 1) (h : TryS n f G r to us met s to' us') :
    PushS n f G r to us met i to' (fup us' i (us' i - 1)) := by
  have ci := h.c i hi
  rw [if_pos he] at ci
  have ri := h.rm i hi
  have hc : ∀ k, k < n → fup us' i (us' i - 1) k = cntT f to' k := fun k hk => by
    by_cases e : k = i
    · rw [e, fup_at, ci]; omega
    · rw [fup_ne e, h.c k hk, if_neg (by omega)]; omega
  refine ⟨fun s' => ?_, h.v, fun s' => ?_, hc, fun k hk => ?_, ?_, fun M hM => ⟨(h.M M hM).1, fun hMi => ?_⟩⟩
  · rcases h.ch s' with g | g | ⟨k, k1, k2, k3⟩
    · exact .inl g
    · subst g; exact .inr ⟨i, hi, he, .inl rfl⟩
    · exact .inr ⟨k, k1, k2, .inr k3⟩
  · by_cases e : s' = s
    · subst e
      have := h.tt
      omega
    · exact h.z s' e
  · by_cases e : k = i
    · rw [e, fup_at]; omega
    · rw [fup_ne e]; exact h.rm k hk
  · rw [fup_at]; omega
  · obtain ⟨j, j1, j2, j3⟩ := (h.M M hM).2
    exact j3 ((hM i hi hMi).2 s hs he j j1 j2)
theorem pushS_self {n f : Nat} {G : Nat → Nat → Bool} {r : Nat → Int} {to : Nat → Nat} {us : Nat → Int} {met : Nat → Bool} {i : Nat} (h : Va n f G r to us) (hi : i < n) (hlt : us i < r i) : PushS n f G r to us met i to us :=
  ⟨fun _ => .inl rfl, h.v, fun _ => Iff.rfl, h.c, h.rm, by omega, fun M hM => ⟨fun _ _ _ _ => Iff.rfl, fun hMi => by
    have h1 := (hM i hi hMi).1
    have h2 := h.c i hi
    omega⟩⟩
theorem tryS_of_push {n f : Nat} {G : Nat → Nat → Bool} {r : Nat → Int} {to : Nat → Nat} {us : Nat → Int} {met met1 : Nat → Bool} {i t : Nat} {to' : Nat → Nat} {us' : Nat → Int} (hv : Va n f G r to us) (hi : i < n) (ht : t < f) (hG : G i t = true) (hm : met i = false) (hm1 : ∀ k, met1 k = false → met k = false)
    (htt : to t = 0 ∨ ∃ k, to t = k + 1 ∧ met k = true) (h : PushS n f G r to us met1 i to' us') : TryS n f G r to us met t (fup to' t (i + 1)) (fup us' i (us' i + 1)) := by
  have e : to' t = to t := by
    rcases h.ch t with g | ⟨k, -, k2, k3⟩
    · exact g
    · exfalso
      rcases htt with q | ⟨k', q, q2⟩
      · omega
      · have : k' = k := by omega
        subst this
        rcases k3 with rfl | k3
        · rw [hm] at q2; cases q2
        · rw [hm1 _ k3] at q2; cases q2
  have hne : to t ≠ i + 1 := fun q => by
    rcases htt with q' | ⟨k', q', q2⟩
    · omega
    · have : k' = i := by omega
      subst this; rw [hm] at q2; cases q2
  have up : ∀ k, cntT f (fup to' t (i + 1)) k + (if to t = k + 1 then 1 else 0) = cntT f to' k + if i = k then 1 else 0 := fun k => by
    have := @cntT_up f to' t (i + 1) k ht
    rw [e] at this
    rw [this]
    by_cases q : i = k
    · rw [if_pos q, if_pos (by omega)]
    · rw [if_neg q, if_neg (by omega)]
  refine ⟨fun s => ?_, fun s => ?_, fun s hs => ?_, by rw [fup_at]; omega, fun k hk => ?_, fun k hk => ?_, fun M hM => ?_⟩
  · by_cases q : s = t
    · exact .inr (.inl q)
    · rw [fup_ne q]
      rcases h.ch s with g | ⟨k, k1, k2, k3⟩
      · exact .inl g
      · refine .inr (.inr ⟨k, k1, k2, ?_⟩)
        rcases k3 with rfl | k3
        · exact hm
        · exact hm1 _ k3
  · by_cases q : s = t
    · subst q; rw [fup_at]; exact .inr ⟨i, hi, rfl, hG, ht⟩
    · rw [fup_ne q]; exact h.v s
  · rw [fup_ne hs]; exact h.z s
  · have u := up k
    by_cases q : k = i
    · subst q
      rw [fup_at, h.c k hk]
      rw [if_pos rfl] at u
      omega
    · rw [fup_ne q, h.c k hk]
      rw [if_neg (Ne.symm q)] at u
      omega
  · by_cases q : k = i
    · rw [q, fup_at]; exact h.ri
    · rw [fup_ne q]; exact h.rm k hk
  · obtain ⟨a, b⟩ := h.M M hM
    refine ⟨fun k hk hMk s => ?_, i, hi, hG, b⟩
    by_cases q : s = t
    · subst q
      rw [fup_at]
      have n1 : i ≠ k := fun e' => b (e' ▸ hMk)
      have n2 : to s ≠ k + 1 := fun e' => b ((hM k hk hMk).2 s ht e' i hi hG)
      constructor
      · intro e'; omega
      · intro e'; exact absurd e' n2
    · rw [fup_ne q]; exact a k hk hMk s
/-- What is matched. -/
def nzT (f : Nat) (to : Nat → Nat) : Int := S (fun s => if to s = 0 then 0 else 1) f
structure MI (n f : Nat) (G : Nat → Nat → Bool) (r : Nat → Int) (fr t : Nat) (to : Nat → Nat) (us : Nat → Int) (N : Int) : Prop where
  va : Va n f G r to us
  out : ∀ s, s < fr ∨ t ≤ s → to s = 0
  num : N = nzT f to
  cl : ∃ M, CF n f G r to M ∧ ∀ s, fr ≤ s → s < t → to s = 0 → ∀ j, j < n → G j s = true → M j
theorem MI.start {n f : Nat} {G : Nat → Nat → Bool} {r : Nat → Int} {fr : Nat} (hr : ∀ i, i < n → 0 ≤ r i) : MI n f G r fr fr (fun _ => 0) (fun _ => 0) 0 := by
  have c0 : ∀ i, cntT f (fun _ => 0) i = 0 := fun i => by
    unfold cntT
    rw [S_congr (g := fun _ => 0) (fun s _ => if_neg (by simp)), S_zero]
  refine ⟨⟨fun _ => .inl rfl, fun i _ => (c0 i).symm, hr⟩, fun _ _ => rfl, ?_, fun _ => False, fun _ _ h => h.elim, fun s h1 h2 => by omega⟩
  unfold nzT
  rw [S_congr (g := fun _ => 0) (fun s _ => if_pos rfl), S_zero]
theorem MI.fail {n f : Nat} {G : Nat → Nat → Bool} {r : Nat → Int} {fr t : Nat} {to : Nat → Nat} {us : Nat → Int} {N : Int} {met' : Nat → Bool} (h : MI n f G r fr t to us N) (hf : TryF n f G r to us (fun _ => false) t met') : MI n f G r fr (t + 1) to us N := by
  obtain ⟨M, m1, m2⟩ := h.cl
  refine ⟨h.va, fun s hs => h.out s (by omega), h.num, fun i => M i ∨ met' i = true, fun i hi hM => ?_, fun s h1 h2 h3 j hj hG => ?_⟩
  · rcases hM with hM | hM
    · obtain ⟨a, b⟩ := m1 i hi hM
      exact ⟨a, fun s hs e j hj hG => .inl (b s hs e j hj hG)⟩
    · rcases hf.clo.2 i hi hM with g | ⟨g1, g2⟩
      · cases g
      · exact ⟨by rw [← h.va.c i hi, g1], fun s hs e j hj hG => .inr (g2 s hs e j hj hG)⟩
  · by_cases e : s = t
    · subst e; exact .inr (hf.gap j hj hG)
    · exact .inl (m2 s h1 (by omega) h3 j hj hG)
theorem MI.succ {n f : Nat} {G : Nat → Nat → Bool} {r : Nat → Int} {fr t : Nat} {to to' : Nat → Nat} {us us' : Nat → Int} {N : Int} (h : MI n f G r fr t to us N) (ht : t < f) (hft : fr ≤ t) (hs : TryS n f G r to us (fun _ => false) t to' us') : MI n f G r fr (t + 1) to' us' (N + 1) := by
  have t0 := h.out t (by omega)
  obtain ⟨M, m1, m2⟩ := h.cl
  obtain ⟨u1, -⟩ := hs.M M m1
  refine ⟨⟨hs.v, fun i hi => by rw [hs.c i hi, if_neg (by omega)]; omega, hs.rm⟩, fun s h1 => (hs.z s (by omega)).2 (h.out s (by omega)), ?_, M, fun i hi hM => ?_, fun s h1 h2 h3 j hj hG => ?_⟩
  · have one : S (fun s => if s = t then (1 : Int) else 0) f = 1 := S_one ht
    rw [h.num, ← one]
    unfold nzT
    rw [← S_add]
    refine S_congr fun s _ => ?_
    by_cases e : s = t
    · subst e; rw [if_pos t0, if_pos rfl, if_neg hs.tt]; rfl
    · rw [if_neg e]
      by_cases g : to s = 0
      · rw [if_pos g, if_pos ((hs.z s e).2 g)]; rfl
      · rw [if_neg g, if_neg fun q => g ((hs.z s e).1 q)]; rfl
  · obtain ⟨a, b⟩ := m1 i hi hM
    exact ⟨by rw [cntT_congr fun s _ => u1 i hi hM s]; exact a, fun s hs' e j hj hG => b s hs' ((u1 i hi hM s).1 e) j hj hG⟩
  · have e : s ≠ t := fun e => hs.tt (e ▸ h3)
    exact m2 s h1 (by omega) ((hs.z s e).1 h3) j hj hG
/-- A cut: ticks with a gap of one of them, and the rooms of the others. -/
noncomputable def cutN (n f : Nat) (G : Nat → Nat → Bool) (r : Nat → Int) (fr : Nat) (X : Nat → Prop) : Int :=
  S (fun s => if fr ≤ s ∧ ∃ j, j < n ∧ X j ∧ G j s = true then 1 else 0) f + S (fun j => if X j then 0 else r j) n
theorem S_pick {n k : Nat} (P : Nat → Prop) (hk : k < n) : S (fun j => if P j then 0 else if k + 1 = j + 1 then (1 : Int) else 0) n = if P k then 0 else 1 := by
  have : S (fun j => if P j then 0 else if k + 1 = j + 1 then (1 : Int) else 0) n = S (fun j => if j = k then (if P k then (0 : Int) else 1) else 0) n := S_congr fun j _ => by
    by_cases e : j = k
    · subst e; rw [if_pos rfl, if_pos rfl]
    · rw [if_neg e]; split
      · rfl
      · rw [if_neg (by omega)]
  rw [this, S_one hk]
theorem S_none {n : Nat} {P : Nat → Prop} : S (fun j => if P j then 0 else if 0 = j + 1 then (1 : Int) else 0) n = 0 := by
  rw [S_congr (g := fun _ => 0) (fun j _ => by split; rfl; rw [if_neg (by omega)]), S_zero]
theorem cut_ge {n f : Nat} {G : Nat → Nat → Bool} {r : Nat → Int} {fr t : Nat} {to : Nat → Nat} {us : Nat → Int} {N : Int} (h : MI n f G r fr t to us N) (X : Nat → Prop) : N ≤ cutN n f G r fr X := by
  have h1 : S (fun j => if X j then 0 else cntT f to j) n ≤ S (fun j => if X j then 0 else r j) n := S_le fun j hj => by
    split
    · exact Int.le_refl _
    · have := h.va.c j hj; have := h.va.rm j hj; omega
  have h2 : S (fun j => if X j then 0 else cntT f to j) n = S (fun s => S (fun j => if X j then 0 else if to s = j + 1 then (1 : Int) else 0) n) f := by
    rw [S_swap]
    refine S_congr fun j _ => ?_
    by_cases e : X j
    · simp only [if_pos e]; rw [S_zero]
    · simp only [if_neg e]; rfl
  have h3 : nzT f to ≤ S (fun s => (if fr ≤ s ∧ ∃ j, j < n ∧ X j ∧ G j s = true then (1 : Int) else 0) + S (fun j => if X j then 0 else if to s = j + 1 then (1 : Int) else 0) n) f := S_le fun s hs => by
    rcases h.va.v s with e | ⟨k, k1, k2, k3, k4⟩
    · rw [if_pos e, e, S_none]; split <;> omega
    · rw [if_neg (by omega), k2, S_pick X k1]
      have hfr : fr ≤ s := by
        by_cases q : fr ≤ s
        · exact q
        · have := h.out s (by omega); omega
      by_cases e : X k
      · rw [if_pos ⟨hfr, k, k1, e, k3⟩]; split <;> omega
      · rw [if_neg e]; split <;> omega
  rw [S_add] at h3
  rw [h.num]
  unfold cutN
  omega
theorem cut_eq {n f : Nat} {G : Nat → Nat → Bool} {r : Nat → Int} {fr : Nat} {to : Nat → Nat} {us : Nat → Int} {N : Int} (h : MI n f G r fr f to us N) : ∃ X, N = cutN n f G r fr X := by
  obtain ⟨M, m1, m2⟩ := h.cl
  obtain ⟨X, hX⟩ : ∃ X : Nat → Prop, ∀ j, X j ↔ ¬ M j := ⟨fun j => ¬ M j, fun _ => Iff.rfl⟩
  refine ⟨X, ?_⟩
  have h1 : S (fun j => if X j then 0 else cntT f to j) n = S (fun j => if X j then 0 else r j) n := S_congr fun j hj => by
    by_cases e : X j
    · rw [if_pos e, if_pos e]
    · rw [if_neg e, if_neg e]
      have : M j := by
        by_cases q : M j
        · exact q
        · exact absurd ((hX j).2 q) e
      exact (m1 j hj this).1
  have h2 : S (fun j => if X j then 0 else cntT f to j) n = S (fun s => S (fun j => if X j then 0 else if to s = j + 1 then (1 : Int) else 0) n) f := by
    rw [S_swap]
    refine S_congr fun j _ => ?_
    by_cases e : X j
    · simp only [if_pos e]; rw [S_zero]
    · simp only [if_neg e]; rfl
  have h3 : nzT f to = S (fun s => (if fr ≤ s ∧ ∃ j, j < n ∧ X j ∧ G j s = true then (1 : Int) else 0) + S (fun j => if X j then 0 else if to s = j + 1 then (1 : Int) else 0) n) f := S_congr fun s hs => by
    rcases h.va.v s with e | ⟨k, k1, k2, k3, k4⟩
    · rw [if_pos e, e, S_none, if_neg]
      · rfl
      · rintro ⟨q, j, j1, j2, j3⟩
        exact (hX j).1 j2 (m2 s q hs e j j1 j3)
    · rw [if_neg (by omega), k2, S_pick X k1]
      have hfr : fr ≤ s := by
        by_cases q : fr ≤ s
        · exact q
        · have := h.out s (by omega); omega
      by_cases e : M k
      · rw [if_neg, if_neg (fun q => (hX k).1 q e)]
        · rfl
        · rintro ⟨q, j, j1, j2, j3⟩
          exact (hX j).1 j2 ((m1 k k1 e).2 s hs k2 j j1 j3)
      · rw [if_pos ⟨hfr, k, k1, (hX k).2 e, k3⟩, if_pos ((hX k).2 e)]; rfl
  rw [S_add] at h3
  rw [h.num]
  unfold cutN
  omega
end Go.Am


/- PlanM2 over the table of weave (relayset.py). -/
set_option linter.unusedVariables false
set_option linter.unusedSimpArgs false
namespace Go.Am
open Classical

structure PlanL (p : PlanD) : Prop where
  len : p.places.length < 1000000
  pcs : ∀ x ∈ p.places, x.pieces.length < 1000000

theorem RightP.pr {p : PlanD} (h : RightP p) (hl : PlanL p) : PlanR p := RightP.r h.1 h.2.1 hl.len hl.pcs h.2.2.2.2.1

theorem hasC_range {p : PlanD} {c : Int} (h : hasC p c = true) : 0 ≤ c ∧ c < 16 := by
  simp only [hasC, Bool.and_eq_true, decide_eq_true_eq] at h
  exact h.1

theorem RightP.place {p : PlanD} (h : RightP p) {x : Pl} (hx : x ∈ p.places) : refPlaceP p x := by
  obtain ⟨i, hi, rfl⟩ := List.getElem_of_mem hx
  obtain ⟨_, g, -⟩ := h.2.2.2.2.1 i hi
  exact g

theorem RightP.fine {p : PlanD} (h : RightP p) {x : Pl} (hx : x ∈ p.places) : plFine x := by
  obtain ⟨h1, h2, h3, h4, h5⟩ := h.place hx
  constructor
  · intro hs
    simp only [isSp, decide_eq_true_eq] at hs
    have := h5 (by omega)
    refine ⟨fun y hy => ?_, this.2.2.2.2⟩
    obtain ⟨i, hi, rfl⟩ := List.getElem_of_mem hy
    obtain ⟨_, g, -⟩ := this.1 i hi
    exact hasC_range g
  · intro hs
    simp only [isSp, decide_eq_false_iff_not] at hs
    exact hasC_range (h4 (by omega))

/-- Whose cores are asked. -/
theorem RightP.cnt {p : PlanD} (h : RightP p) {c : Nat} (hc : hasC p c = false) {t : Nat} (ht : t < 64) : cntL p.places (c : Nat) (t : Nat) = 0 ∧ whL p.places (c : Nat) = [] := by
  constructor
  · cases Nat.eq_zero_or_pos (cntL p.places (c : Nat) (t : Nat)) with
    | inl h => exact h
    | inr hpos =>
      exfalso
      replace hpos := (cntL_pos ht).1 hpos
      rw [winW_bit, List.any_eq_true] at hpos
      obtain ⟨x, hx, hy⟩ := hpos
      rw [List.any_eq_true] at hy
      obtain ⟨y, hy, hb⟩ := hy
      simp only [Bool.and_eq_true, decide_eq_true_eq] at hb
      have hp := (h.place hx).2.2.2.2 (by intro e; rw [List.eq_nil_of_length_eq_zero e] at hy; cases hy)
      obtain ⟨i, hi, rfl⟩ := List.getElem_of_mem hy
      obtain ⟨_, g, -⟩ := hp.1 i hi
      rw [hb.1, hc] at g; cases g
  · unfold whL
    rw [List.map_eq_nil_iff, List.filter_eq_nil_iff]
    intro x hx hw
    simp only [isWh, Bool.and_eq_true, beq_iff_eq, Bool.not_eq_true'] at hw
    have h4 := (h.place hx).2.2.2.1 (by have := hw.1; simp only [isSp, decide_eq_false_iff_not] at this; omega)
    rw [hw.2, hc] at h4; cases h4

def loadS (p : PlanD) (c : Nat) : Int := S (fun t => (cntL p.places (c : Nat) (t : Nat) : Int)) 64 + sumW (whL p.places (c : Nat))

theorem RightP.load {p : PlanD} (h : RightP p) {c : Nat} (hc : c < 16) : loadR p c = loadS p c := by
  unfold loadR loadS
  rw [tks_S]
  congr 1
  refine S_congr fun t ht => ?_
  rw [windows_same]
  have h1 := h.2.2.2.2.2.1 c hc t ht
  have h2 := cntL_pos (l := p.places) (c := c) ht
  split
  · rename_i e; rw [← h2] at e; omega
  · rename_i e; rw [← h2] at e; omega

theorem RightP.loadS0 {p : PlanD} (h : RightP p) {c : Nat} (hc : hasC p c = false) : loadS p c = 0 := by
  unfold loadS
  rw [S_congr (g := fun _ => 0) (fun t ht => by rw [(h.cnt hc ht).1]; rfl), S_zero, (h.cnt hc (show 0 < 64 by omega)).2]; rfl

theorem csP_mem {p : PlanD} {c : Nat} : c ∈ csP p 16 ↔ c < 16 ∧ hasC p c = true := by
  unfold csP; rw [List.mem_filter, List.mem_range]

theorem leftP_eq {p : PlanD} {c : Nat} : leftP p c = p.frame - loadR p c := by
  unfold leftP loadR
  rw [pop_tks, windows_same]; omega

theorem RightP.room {p : PlanD} (h : RightP p) {c : Int} : roomP p c = roomR p c := by
  unfold roomP roomR
  split
  · rename_i hc
    obtain ⟨h0, h1⟩ := hasC_range hc
    obtain ⟨n, rfl⟩ := Int.eq_ofNat_of_zero_le h0
    have := h.2.2.2.2.2.2.2 n (csP_mem.2 ⟨by omega, hc⟩)
    rw [leftP_eq]; omega
  · rfl

theorem RightP.free {p : PlanD} (h : RightP p) : freeP p = freeR p := by
  unfold freeP freeR rL
  rw [sumI_cores (f := fun c => roomP p (c : Nat)), sumI_range (f := fun c => roomR p (c : Nat))]
  refine S_congr fun c hc => ?_
  rw [h.room]
  split
  · rfl
  · rename_i e; unfold roomR; rw [if_neg e]

/-- All is counted. -/
theorem RightP.all {p : PlanD} (h : RightP p) : freeP p + sumW (wtsL p.places) = p.frame * ((csP p 16).length : Int) := by
  rw [h.free]
  unfold freeR rL
  rw [sumI_range (f := fun c => roomR p (c : Nat)), cores_S, ← all_cores (l := p.places) fun x hx => h.fine hx, ← S_add]
  have : ∀ f : Nat → Int, ∀ k : Int, ∀ n, k * S f n = S (fun i => k * f i) n := by
    intro f k n
    induction n with
    | zero => simp [S]
    | succ n ih => simp only [S]; rw [Int.mul_add, ih]
  rw [this]
  refine S_congr fun c hc => ?_
  show roomR p c + loadS p c = _
  unfold roomR
  cases e : hasC p c
  · rw [h.loadS0 e]; simp
  · rw [h.load hc]; simp
end Go.Am


/- PlanX1 over the table of weave (relayset.py). -/
set_option linter.unusedVariables false
set_option linter.unusedSimpArgs false
namespace Go.Am
open Classical
variable {m : Mem}

def orW (l : List Pc) : BitVec 64 := l.foldl (fun a y => a ||| y.2) 0#64
theorem orW_succ {l : List Pc} {i : Nat} (h : i < l.length) : orW (l.take (i + 1)) = orW (l.take i) ||| l[i].2 := foldl_take h
def pcIn (p : PlanD) (ps : List Pc) (i : Nat) : Prop := ∃ h : i < ps.length, (ps[i].2 &&& ~~~ allB (fr p.frame).toNat) = 0#64 ∧ (ps[i].2 &&& orW (ps.take i)) = 0#64
def pcsP (p : PlanD) (x : Pl) : Prop := (∀ i, i < x.pieces.length → pcOk p x.pieces i ∧ pcIn p x.pieces i) ∧ 1 < x.pieces.length ∧ x.core = 0 ∧ (pop (orW x.pieces) : Int) = x.share

theorem PcV.prev {m : Mem} {l : List Pc} {v : Value} (h : PcV m l v) {i : Nat} (hi : i < l.length) : ∃ b o, aIdxS 2 v (.int .i64 i) = some (.pointer (some ⟨b, o, none⟩)) ∧ ∀ m', Ext m m' → aLoad false 1 m' (.pointer (some ⟨b, o, none⟩)) = some (.int .i64 l[i].1) := by
  obtain ⟨b, o, a1, a2, a3, a4⟩ := h.elem hi
  refine ⟨b, o, a1, fun m' hm => ?_⟩
  obtain ⟨b', o', c1, c2, c3, c4⟩ := (h.keep hm).elem hi
  rw [a1] at c1; cases c1
  have := c3 0 (by omega)
  simpa [pcV] using this

set_option maxHeartbeats 4000000 in
theorem pieces_spec {p : PlanD} {x : Pl} {v w : Value} (hv : PlanV m p v) (hw : PlV m x w) (hl : x.pieces.length < 1000000) : WC R F.plan_pieces [v, w] m fun r m' => r = .bool (decide (pcsP p x)) ∧ Ext m m' := by
  refine WC.of R.plan_pieces rfl ?_
  obtain ⟨pv, rfl, hp⟩ := hv
  obtain ⟨qv, rfl, hq⟩ := hw
  simp only [RC.plan_pieces, planV, plV, go_sem, hp.one, hq.one]
  have hx : Ext m (m.new (.cells [.int .i64 p.frame, u32 p.cores, pv] (some 3))) := Ext.new
  have hb : Bk (m.new (.cells [.int .i64 p.frame, u32 p.cores, pv] (some 3))) m.next [.int .i64 p.frame, u32 p.cores, pv] 3 := Bk.new
  generalize m.new (.cells [.int .i64 p.frame, u32 p.cores, pv] (some 3)) = m1 at hx hb ⊢
  have hx2 : Ext m1 (m1.new (.cells [.int .i64 x.unit, .int .i64 x.share, .int .i64 x.core, qv] (some 4))) := Ext.new
  have hb2 : Bk (m1.new (.cells [.int .i64 x.unit, .int .i64 x.share, .int .i64 x.core, qv] (some 4))) m1.next [.int .i64 x.unit, .int .i64 x.share, .int .i64 x.core, qv] 4 := Bk.new
  generalize m1.new (.cells [.int .i64 x.unit, .int .i64 x.share, .int .i64 x.core, qv] (some 4)) = m2 at hx2 hb2 ⊢
  have hb := hb.keep hx2
  have hp := (hp.keep hx).keep hx2
  have hq := (hq.keep hx).keep hx2
  try simp only [go_sem, ruB, hb2.at_, hq.len]
  refine WL.of (fun n e m' => ∃ i : Nat, i ≤ x.pieces.length ∧ n = x.pieces.length - i ∧ e = [(2, pt m.next), (3, pt m1.next), (5, u64 (orW (x.pieces.take i))), (9, qv), (10, .int .i64 x.pieces.length), (11, .int .i64 i)] ∧ (∀ j, j < i → pcOk p x.pieces j ∧ pcIn p x.pieces j) ∧ Ext m2 m') x.pieces.length
    ⟨0, by omega, by omega, by simp only [go_sem] <;> rfl, fun j hj => by omega, Ext.refl _⟩ ?_
  rintro _ _ m3 ⟨i, hi, rfl, rfl, hall, hx3⟩
  have hq3 := hq.keep hx3
  have hb3 := hb2.keep hx3
  have hc3 := hb.keep hx3
  simp only [RB.plan_pieces_1, pt, go_sem]
  refine gT.of (fun h4' => ?_) (fun h4' => ?_) <;> (have h4 := h4'; try simp only [decide_eq_true_eq, decide_eq_false_iff_not, beq_iff_eq, bne_iff_ne, beq_eq_false_iff_ne, ne_eq, Bool.not_eq_true', Bool.not_eq_false', bne_eq_false_iff_eq, Int.not_lt, Int.not_le] at h4)
  · have hil : i < x.pieces.length := by omega
    obtain ⟨b, o, a1, a2, a3, a4⟩ := hq3.elem hil
    have bad : ¬ (pcOk p x.pieces i ∧ pcIn p x.pieces i) → ¬ pcsP p x := fun h h2 => h (h2.1 i hil)
    have hdef : pcOk p x.pieces i ↔ (hasC p x.pieces[i].1 = true ∧ (∀ h : 0 < i, (x.pieces[i - 1]'(by omega)).1 < x.pieces[i].1) ∧ x.pieces[i].2 ≠ 0#64) := ⟨fun ⟨_, h⟩ => h, fun h => ⟨hil, h⟩⟩
    have hdef2 : pcIn p x.pieces i ↔ ((x.pieces[i].2 &&& ~~~ allB (fr p.frame).toNat) = 0#64 ∧ (x.pieces[i].2 &&& orW (x.pieces.take i)) = 0#64) := ⟨fun ⟨_, h⟩ => h, fun h => ⟨hil, h⟩⟩
    have hprev : ∀ h : 0 < i, ∃ b' o', aIdxS 2 qv (.int .i64 (i - 1 : Nat)) = some (.pointer (some ⟨b', o', none⟩)) ∧ ∀ m', Ext m3 m' → aLoad false 1 m' (.pointer (some ⟨b', o', none⟩)) = some (.int .i64 (x.pieces[i - 1]'(by omega)).1) := fun h => hq3.prev (by omega)
    have hor := orW_succ hil
    generalize hy : x.pieces[i] = y at *
    simp only [pcV] at a2
    try simp only [go_sem, ruB, hb3.at_, hc3.at_, hb3.ne, hc3.ne, a1, a2]
    have hx4 : Ext m3 (m3.new (.cells [.int .i64 y.1, u64 y.2] (some 2))) := Ext.new
    have hb4 : Bk (m3.new (.cells [.int .i64 y.1, u64 y.2] (some 2))) m3.next [.int .i64 y.1, u64 y.2] 2 := Bk.new
    generalize m3.new (.cells [.int .i64 y.1, u64 y.2] (some 2)) = m4 at hx4 hb4 ⊢
    have hb5 := hb3.keep hx4
    have hc5 := hc3.keep hx4
    try simp only [go_sem, ruB, hb4.at_, hb5.at_, hc5.at_]
    refine gC.of (has_spec (p := p) ⟨pv, rfl, (hp.keep hx3).keep hx4⟩) ?_
    rintro _ m5 ⟨rfl, hx5⟩
    simp only [go_sem]
    have hb6 := hb5.keep hx5
    have hb7 := hb4.keep hx5
    have hc7 := hc5.keep hx5
    have hxx : Ext m2 m5 := hx3.trans (hx4.trans hx5)
    have hX : Ext m m5 := hx.trans (hx2.trans hxx)
    have fin2 : pcOk p x.pieces i → pcIn p x.pieces i → ∀ j, j < i + 1 → pcOk p x.pieces j ∧ pcIn p x.pieces j := by
      intro q1 q2 j hj
      by_cases e : j = i
      · subst e; exact ⟨q1, q2⟩
      · exact hall j (by omega)
    have s1 := step1 (show i < 1000000 by omega)
    have key : pcOk p x.pieces i → gT (decide (y.2 &&& ~~~ allB (fr p.frame).toNat ≠ 0#64)) False False → True := fun _ _ => trivial
    try simp only [go_sem, ruB, hb6.at_, hb7.at_, hb4.at_, hb5.at_]
    refine gT.of (fun h5' => ?_) (fun h5' => ?_) <;> (have h5 := h5'; try simp only [decide_eq_true_eq, decide_eq_false_iff_not, beq_iff_eq, bne_iff_ne, beq_eq_false_iff_ne, ne_eq, Bool.not_eq_true', Bool.not_eq_false', bne_eq_false_iff_eq, Int.not_lt, Int.not_le] at h5)
    · try simp only [go_sem, ruB, h5', hb6.at_, hb7.at_]
      exact ⟨fin_no (bad fun h => by rw [hdef] at h; simp [h.1.1] at h5), hX⟩
    · have g5 : hasC p y.1 = true := by simpa using h5'
      try simp only [go_sem, ruB, h5', g5, hb6.at_, hb7.at_]
      refine gT.of (fun h6' => ?_) (fun h6' => ?_) <;> (have h6 := h6'; try simp only [decide_eq_true_eq, decide_eq_false_iff_not, beq_iff_eq, bne_iff_ne, beq_eq_false_iff_ne, ne_eq, Bool.not_eq_true', Bool.not_eq_false', bne_eq_false_iff_eq, Int.not_lt, Int.not_le] at h6)
      · obtain ⟨b', o', c1, c2⟩ := hprev (by omega)
        have c3 := c2 m5 (hx4.trans hx5)
        try simp only [go_sem, ruB, h6', hb6.at_, hb7.at_, sub1 (show 0 < i by omega) (show i < 1000000 by omega), c1, c3]
        refine gT.of (fun h7' => ?_) (fun h7' => ?_) <;> (have h7 := h7'; try simp only [decide_eq_true_eq, decide_eq_false_iff_not, beq_iff_eq, bne_iff_ne, beq_eq_false_iff_ne, ne_eq, Bool.not_eq_true', Bool.not_eq_false', bne_eq_false_iff_eq, Int.not_lt, Int.not_le] at h7)
        · try simp only [go_sem, ruB, h7']
          exact ⟨fin_no (bad fun h => by rw [hdef] at h; have := h.1.2.1 (by omega); omega), hX⟩
        · try simp only [go_sem, ruB, h7', hb7.at_]
          refine gT.of (fun h8' => ?_) (fun h8' => ?_) <;> (have h8 := h8'; try simp only [decide_eq_true_eq, decide_eq_false_iff_not, beq_iff_eq, bne_iff_ne, beq_eq_false_iff_ne, ne_eq, Bool.not_eq_true', Bool.not_eq_false', bne_eq_false_iff_eq, Int.not_lt, Int.not_le] at h8)
          · try simp only [go_sem, ruB, h8']
            exact ⟨fin_no (bad fun h => by rw [hdef] at h; exact h.1.2.2 h8), hX⟩
          · have gok : pcOk p x.pieces i := hdef.2 ⟨g5, fun h => by omega, h8⟩
            try simp only [go_sem, ruB, h8', hb7.at_, hc7.at_]
            refine gC.of mask_All_spec ?_
            rintro _ m_ ⟨rfl, hm_⟩
            replace hm_ := hm_.symm
            subst hm_
            simp only [go_sem]
            try simp only [go_sem, ruB, hb7.at_, hc7.at_]
            refine gT.of (fun h9' => ?_) (fun h9' => ?_) <;> (have h9 := h9'; try simp only [decide_eq_true_eq, decide_eq_false_iff_not, beq_iff_eq, bne_iff_ne, beq_eq_false_iff_ne, ne_eq, Bool.not_eq_true', Bool.not_eq_false', bne_eq_false_iff_eq, Int.not_lt, Int.not_le] at h9)
            · try simp only [go_sem, ruB, h9']
              exact ⟨fin_no (bad fun h => by rw [hdef2] at h; exact h9 h.2.1), hX⟩
            · try simp only [go_sem, ruB, h9', hb7.at_]
              refine gT.of (fun h10' => ?_) (fun h10' => ?_) <;> (have h10 := h10'; try simp only [decide_eq_true_eq, decide_eq_false_iff_not, beq_iff_eq, bne_iff_ne, beq_eq_false_iff_ne, ne_eq, Bool.not_eq_true', Bool.not_eq_false', bne_eq_false_iff_eq, Int.not_lt, Int.not_le] at h10)
              · try simp only [go_sem, ruB, h10']
                exact ⟨fin_no (bad fun h => by rw [hdef2] at h; exact h10 h.2.2), hX⟩
              · try simp only [go_sem, ruB, h10', hb7.at_, s1]
                refine ⟨x.pieces.length - (i + 1), by omega, i + 1, by omega, rfl, by rw [hor], fin2 gok (hdef2.2 ⟨Decidable.not_not.1 h9, Decidable.not_not.1 h10⟩), hxx⟩
      · try simp only [go_sem, ruB, h6', hb7.at_]
        refine gT.of (fun h8' => ?_) (fun h8' => ?_) <;> (have h8 := h8'; try simp only [decide_eq_true_eq, decide_eq_false_iff_not, beq_iff_eq, bne_iff_ne, beq_eq_false_iff_ne, ne_eq, Bool.not_eq_true', Bool.not_eq_false', bne_eq_false_iff_eq, Int.not_lt, Int.not_le] at h8)
        · try simp only [go_sem, ruB, h8']
          exact ⟨fin_no (bad fun h => by rw [hdef] at h; exact h.1.2.2 h8), hX⟩
        · have gok : pcOk p x.pieces i := hdef.2 ⟨g5, fun h => by omega, h8⟩
          try simp only [go_sem, ruB, h8', hb7.at_, hc7.at_]
          refine gC.of mask_All_spec ?_
          rintro _ m_ ⟨rfl, hm_⟩
          replace hm_ := hm_.symm
          subst hm_
          simp only [go_sem]
          try simp only [go_sem, ruB, hb7.at_, hc7.at_]
          refine gT.of (fun h9' => ?_) (fun h9' => ?_) <;> (have h9 := h9'; try simp only [decide_eq_true_eq, decide_eq_false_iff_not, beq_iff_eq, bne_iff_ne, beq_eq_false_iff_ne, ne_eq, Bool.not_eq_true', Bool.not_eq_false', bne_eq_false_iff_eq, Int.not_lt, Int.not_le] at h9)
          · try simp only [go_sem, ruB, h9']
            exact ⟨fin_no (bad fun h => by rw [hdef2] at h; exact h9 h.2.1), hX⟩
          · try simp only [go_sem, ruB, h9', hb7.at_]
            refine gT.of (fun h10' => ?_) (fun h10' => ?_) <;> (have h10 := h10'; try simp only [decide_eq_true_eq, decide_eq_false_iff_not, beq_iff_eq, bne_iff_ne, beq_eq_false_iff_ne, ne_eq, Bool.not_eq_true', Bool.not_eq_false', bne_eq_false_iff_eq, Int.not_lt, Int.not_le] at h10)
            · try simp only [go_sem, ruB, h10']
              exact ⟨fin_no (bad fun h => by rw [hdef2] at h; exact h10 h.2.2), hX⟩
            · try simp only [go_sem, ruB, h10', hb7.at_, s1]
              refine ⟨x.pieces.length - (i + 1), by omega, i + 1, by omega, rfl, by rw [hor], fin2 gok (hdef2.2 ⟨Decidable.not_not.1 h9, Decidable.not_not.1 h10⟩), hxx⟩
  · have hil : i = x.pieces.length := by omega
    have pcs : ∀ j, j < x.pieces.length → pcOk p x.pieces j ∧ pcIn p x.pieces j := fun j hj => hall j (by omega)
    have hX : Ext m m3 := hx.trans (hx2.trans hx3)
    rw [List.take_of_length_le (show x.pieces.length ≤ i by omega)]
    try simp only [go_sem, ruB, h4', hb3.at_, hq3.len]
    refine gT.of (fun h6' => ?_) (fun h6' => ?_) <;> (have h6 := h6'; try simp only [decide_eq_true_eq, decide_eq_false_iff_not, beq_iff_eq, bne_iff_ne, beq_eq_false_iff_ne, ne_eq, Bool.not_eq_true', Bool.not_eq_false', bne_eq_false_iff_eq, Int.not_lt, Int.not_le] at h6)
    · try simp only [go_sem, ruB, h6', hb3.at_]
      refine gT.of (fun h7' => ?_) (fun h7' => ?_) <;> (have h7 := h7'; try simp only [decide_eq_true_eq, decide_eq_false_iff_not, beq_iff_eq, bne_iff_ne, beq_eq_false_iff_ne, ne_eq, Bool.not_eq_true', Bool.not_eq_false', bne_eq_false_iff_eq, Int.not_lt, Int.not_le] at h7)
      · try simp only [go_sem, ruB, h7', hb3.at_]
        refine gC.of mask_Count_spec ?_
        rintro _ m_ ⟨rfl, hm_⟩
        replace hm_ := hm_.symm
        subst hm_
        simp only [go_sem]
        try simp only [go_sem, ruB, hb3.at_]
        refine ⟨fin_iff ?_, hX⟩
        rw [beq_iff_eq]
        exact ⟨fun h => ⟨pcs, by omega, by omega, h⟩, fun h => h.2.2.2⟩
      · try simp only [go_sem, ruB, h7']
        exact ⟨fin_no fun h => by have := h.2.2.1; omega, hX⟩
    · try simp only [go_sem, ruB, h6']
      exact ⟨fin_no fun h => by have := h.2.1; omega, hX⟩
end Go.Am


/- PlanX2 over the table of weave (relayset.py). -/
set_option linter.unusedVariables false
set_option linter.unusedSimpArgs false
namespace Go.Am
open Classical
variable {m : Mem}

def placeP (p : PlanD) (x : Pl) : Prop := isU x.unit ∧ 1 ≤ x.share ∧ x.share ≤ p.frame ∧ (x.pieces.length = 0 → hasC p x.core = true) ∧ (x.pieces.length ≠ 0 → pcsP p x)

theorem place_spec {p : PlanD} {x : Pl} {v w : Value} (hv : PlanV m p v) (hw : PlV m x w) (hl : x.pieces.length < 1000000) : WC R F.plan_place [v, w] m fun r m' => r = .bool (decide (placeP p x)) ∧ Ext m m' := by
  refine WC.of R.plan_place rfl ?_
  obtain ⟨pv, rfl, hp⟩ := hv
  obtain ⟨qv, rfl, hq⟩ := hw
  simp only [RC.plan_place, planV, plV, go_sem, hp.one, hq.one]
  have hx : Ext m (m.new (.cells [.int .i64 p.frame, u32 p.cores, pv] (some 3))) := Ext.new
  have hb : Bk (m.new (.cells [.int .i64 p.frame, u32 p.cores, pv] (some 3))) m.next [.int .i64 p.frame, u32 p.cores, pv] 3 := Bk.new
  generalize m.new (.cells [.int .i64 p.frame, u32 p.cores, pv] (some 3)) = m1 at hx hb ⊢
  have hx2 : Ext m1 (m1.new (.cells [.int .i64 x.unit, .int .i64 x.share, .int .i64 x.core, qv] (some 4))) := Ext.new
  have hb2 : Bk (m1.new (.cells [.int .i64 x.unit, .int .i64 x.share, .int .i64 x.core, qv] (some 4))) m1.next [.int .i64 x.unit, .int .i64 x.share, .int .i64 x.core, qv] 4 := Bk.new
  generalize m1.new (.cells [.int .i64 x.unit, .int .i64 x.share, .int .i64 x.core, qv] (some 4)) = m2 at hx2 hb2 ⊢
  have hb := hb.keep hx2
  have hp := (hp.keep hx).keep hx2
  have hq := (hq.keep hx).keep hx2
  have hX := hx.trans hx2
  try simp only [go_sem, ruB, hb2.at_]
  refine gC.of Kind_spec ?_
  rintro _ m_ ⟨hu, hm_⟩
  replace hm_ := hm_.symm
  subst hm_
  rcases hu with ⟨hu, rfl⟩ | ⟨hu, rfl⟩
  · try simp only [go_sem, ruB, hb2.at_, aExt0, aExt1, aExt2]
    refine gT.of (fun h1' => ?_) (fun h1' => ?_) <;> (have h1 := h1'; try simp only [decide_eq_true_eq, decide_eq_false_iff_not, beq_iff_eq, bne_iff_ne, beq_eq_false_iff_ne, ne_eq, Bool.not_eq_true', Bool.not_eq_false', bne_eq_false_iff_eq, Int.not_lt, Int.not_le] at h1)
    · try simp only [go_sem, ruB, hb2.at_, h1']
      exact ⟨fin_no fun h => by have := h.2.1; omega, hX⟩
    · try simp only [go_sem, ruB, hb2.at_, hb.at_, h1']
      refine gT.of (fun h2' => ?_) (fun h2' => ?_) <;> (have h2 := h2'; try simp only [decide_eq_true_eq, decide_eq_false_iff_not, beq_iff_eq, bne_iff_ne, beq_eq_false_iff_ne, ne_eq, Bool.not_eq_true', Bool.not_eq_false', bne_eq_false_iff_eq, Int.not_lt, Int.not_le] at h2)
      · try simp only [go_sem, ruB, h2']
        exact ⟨fin_no fun h => by have := h.2.2.1; omega, hX⟩
      · try simp only [go_sem, ruB, h2', hb2.at_]
        refine gC.of (split_spec (x := x) ⟨qv, rfl, hq⟩) ?_
        rintro _ m3 ⟨rfl, hx3⟩
        simp only [go_sem]
        have hb2 := hb2.keep hx3
        have hb := hb.keep hx3
        have hp := hp.keep hx3
        have hq := hq.keep hx3
        refine gT.of (fun h3' => ?_) (fun h3' => ?_) <;> (have h3 := h3'; try simp only [decide_eq_true_eq, decide_eq_false_iff_not, beq_iff_eq, bne_iff_ne, beq_eq_false_iff_ne, ne_eq, Bool.not_eq_true', Bool.not_eq_false', bne_eq_false_iff_eq, Int.not_lt, Int.not_le] at h3)
        · try simp only [go_sem, ruB, h3', hb2.at_, hb.at_]
          refine gC.of (pieces_spec (p := p) (x := x) ⟨pv, rfl, hp⟩ ⟨qv, rfl, hq⟩ hl) ?_
          rintro _ m4 ⟨rfl, hx4⟩
          simp only [go_sem]
          exact ⟨fin_iff (by rw [decide_eq_true_eq]; exact ⟨fun h => ⟨hu, by omega, by omega, fun _ => by omega, fun _ => h⟩, fun h => h.2.2.2.2 (by omega)⟩), hX.trans (hx3.trans hx4)⟩
        · try simp only [go_sem, ruB, h3', hb2.at_, hb.at_]
          refine gC.of (has_spec (p := p) (c := x.core) ⟨pv, rfl, hp⟩) ?_
          rintro _ m4 ⟨rfl, hx4⟩
          simp only [go_sem]
          exact ⟨fin_iff ⟨fun h => ⟨hu, by omega, by omega, fun _ => h, fun _ => by omega⟩, fun h => h.2.2.2.1 (by omega)⟩, hX.trans (hx3.trans hx4)⟩
  · try simp only [go_sem, ruB]
    exact ⟨fin_no fun h => hu h.1, hX⟩

/-! ### windows that meet nowhere -/
def wAt (ps : List Pc) (c : Int) : BitVec 64 := winPc c 0#64 ps
def apartP (ps : List Pc) : Prop := ∀ i (h : i < ps.length), (wAt (ps.take i) ps[i].1 &&& ps[i].2) = 0#64
theorem wAt_snoc {ps : List Pc} {y : Pc} {c : Int} : wAt (ps ++ [y]) c = if y.1 = c then wAt ps c ||| y.2 else wAt ps c := by
  unfold wAt winPc; rw [List.foldl_append]; rfl
theorem apartP_snoc {ps : List Pc} {y : Pc} : apartP (ps ++ [y]) ↔ apartP ps ∧ (wAt ps y.1 &&& y.2) = 0#64 := by
  constructor
  · intro h
    refine ⟨fun i hi => ?_, ?_⟩
    · have := h i (by simp; omega)
      rw [List.getElem_append_left hi, List.take_append_of_le_length (by omega)] at this
      exact this
    · have := h ps.length (by simp)
      simpa using this
  · rintro ⟨h1, h2⟩ i hi
    by_cases e : i < ps.length
    · rw [List.getElem_append_left e, List.take_append_of_le_length (by omega)]; exact h1 i e
    · have : i = ps.length := by simp at hi; omega
      subst this
      simpa using h2
theorem apartP_pre {a b : List Pc} (h : apartP (a ++ b)) : apartP a := fun i hi => by
  have := h i (by simp; omega)
  rw [List.getElem_append_left hi, List.take_append_of_le_length (by omega)] at this
  exact this

def preP (l : List Pl) (i : Nat) : List Pc := (l.take i).flatMap (·.pieces)
theorem preP_succ {l : List Pl} {i : Nat} (h : i < l.length) : preP l (i + 1) = preP l i ++ l[i].pieces := by
  unfold preP; rw [List.take_succ_eq_append_getElem h, List.flatMap_append]; simp

/-- The words of sixteen cores. -/
structure Met (m : Mem) (b : Nat) (ps : List Pc) : Prop where
  wit : ∃ W : List (BitVec 64), Bk m b (W.map u64) 16 ∧ W.length = 16 ∧ ∀ c (h : c < W.length), W[c] = wAt ps (c : Nat)
theorem Met.keep {m m' : Mem} {b : Nat} {ps : List Pc} (h : Met m b ps) (hx : Ext m m') : Met m' b ps := let ⟨W, a, l, c⟩ := h.wit; ⟨W, a.keep hx, l, c⟩
theorem Met.get {m : Mem} {b : Nat} {ps : List Pc} (h : Met m b ps) {c : Int} (h0 : 0 ≤ c) (h1 : c < 16) : ldW (m.blk b) c.toNat = some (u64 (wAt ps c)) := by
  obtain ⟨W, a, l, g⟩ := h.wit
  rw [a.at_, ldW_c, List.getElem?_map, List.getElem?_eq_getElem (by omega), Option.map_some, g _ (by omega)]
  congr 3; omega
theorem Met.ne {m : Mem} {b : Nat} {ps : List Pc} (h : Met m b ps) : (b = m.next) = False := let ⟨_, a, _, _⟩ := h.wit; a.ne
theorem load_ext {m m' : Mem} {w : Bool} {u b o : Nat} (hx : Ext m m') (hb : b < m.next) : aLoad w u m' (.pointer (some ⟨b, o, none⟩)) = aLoad w u m (.pointer (some ⟨b, o, none⟩)) := by
  simp only [aLoad, aCells, hx.same b hb]
theorem got_eq {α : Type} {o : Option α} {a : α} {Q : α → Prop} (h : o = some a) (k : Q a) : Got o Q := ⟨a, h, k⟩
theorem Met.put {m : Mem} {b : Nat} {ps : List Pc} (h : Met m b ps) {y : Pc} (h0 : 0 ≤ y.1) (h1 : y.1 < 16) :
    ∃ m', stB m b (m.blk b) y.1.toNat [u64 (wAt ps y.1 ||| y.2)] = some m' ∧ Met m' b (ps ++ [y]) ∧ ∀ m0, Ext m0 m → m0.next ≤ b → Ext m0 m' := by
  obtain ⟨W, a, l, g⟩ := h.wit
  refine ⟨m.set b (some (.cells ((W.set y.1.toNat (wAt ps y.1 ||| y.2)).map u64) (some 16))), ?_, ⟨W.set y.1.toNat (wAt ps y.1 ||| y.2), ⟨by simp [Mem.set], by simpa [Mem.set] using a.lt⟩, by simp [l], fun c hc => ?_⟩, fun m0 hx hb => hx.set hb⟩
  · rw [a.at_, stB_c, if_pos ⟨by simp; omega, rfl⟩, writeL_set (by simp; omega), List.map_set]
  · rw [List.getElem_set, wAt_snoc]
    by_cases e : y.1 = (c : Int)
    · rw [if_pos (by omega), if_pos e, e]
    · rw [if_neg (by omega), if_neg e]
      exact g c (by simpa using hc)

theorem apart1p_loop {m0 : Mem} {x : Pl} {pv qv : Value} {b i n : Nat} {pre : List Pc} (hx0 : Ext m0 m) (hq : PcV m0 x.pieces qv) (hM : Met m b pre) (hb : m0.next ≤ b) (hap : apartP pre) (hl : x.pieces.length < 1000000) (hc : ∀ y ∈ x.pieces, 0 ≤ y.1 ∧ y.1 < 16) :
    WL R [3, 9, 10, 11, 16, 17, 18] RB.plan_apart_1 [(3, pt b), (9, pv), (10, .int .i64 n), (11, .int .i64 i), (16, qv), (17, .int .i64 x.pieces.length), (18, .int .i64 0)] m fun z e m' =>
      (z = .ret ∧ e = [(2, .bool false)] ∧ ¬ apartP (pre ++ x.pieces) ∧ Ext m0 m') ∨ (z = .exit 2 ∧ e = [(3, pt b), (9, pv), (10, .int .i64 n), (11, .int .i64 i), (16, qv), (17, .int .i64 x.pieces.length), (18, .int .i64 x.pieces.length), (19, .bool false)] ∧ Met m' b (pre ++ x.pieces) ∧ apartP (pre ++ x.pieces) ∧ Ext m0 m') := by
  refine WL.of (fun r e m' => ∃ j : Nat, j ≤ x.pieces.length ∧ r = x.pieces.length - j ∧ e = [(3, pt b), (9, pv), (10, .int .i64 n), (11, .int .i64 i), (16, qv), (17, .int .i64 x.pieces.length), (18, .int .i64 j)] ∧ Met m' b (pre ++ x.pieces.take j) ∧ apartP (pre ++ x.pieces.take j) ∧ Ext m0 m') x.pieces.length
    ⟨0, by omega, by omega, by simp only [go_sem] <;> rfl, by simpa using hM, by simpa using hap, hx0⟩ ?_
  rintro _ _ m3 ⟨j, hj, rfl, rfl, hM3, hap3, hx3⟩
  have hq3 := hq.keep hx3
  simp only [RB.plan_apart_1, pt, go_sem]
  refine gT.of (fun h1' => ?_) (fun h1' => ?_) <;> (have h1 := h1'; try simp only [decide_eq_true_eq, decide_eq_false_iff_not, beq_iff_eq, bne_iff_ne, beq_eq_false_iff_ne, ne_eq, Bool.not_eq_true', Bool.not_eq_false', bne_eq_false_iff_eq, Int.not_lt, Int.not_le] at h1)
  · have hjl : j < x.pieces.length := by omega
    obtain ⟨bb, o, a1, a2, a3, a4⟩ := hq3.elem hjl
    have hy := hc _ (List.getElem_mem hjl)
    have htk : x.pieces.take (j + 1) = x.pieces.take j ++ [x.pieces[j]] := List.take_succ_eq_append_getElem hjl
    have hdr : x.pieces = x.pieces.take j ++ [x.pieces[j]] ++ x.pieces.drop (j + 1) := by rw [← htk, List.take_append_drop]
    have s1 := step1 (show j < 1000000 by omega)
    generalize hyy : x.pieces[j] = y at *
    simp only [pcV] at a2
    have g3 := hM3.get hy.1 hy.2
    have n3 := hM3.ne
    try simp only [go_sem, ruB, a1, a2, hy.1, hy.2, g3, n3]
    have hx4 : Ext m3 (m3.new (.cells [.int .i64 y.1, u64 y.2] (some 2))) := Ext.new
    have hb4 : Bk (m3.new (.cells [.int .i64 y.1, u64 y.2] (some 2))) m3.next [.int .i64 y.1, u64 y.2] 2 := Bk.new
    generalize m3.new (.cells [.int .i64 y.1, u64 y.2] (some 2)) = m4 at hx4 hb4 ⊢
    have hM4 := hM3.keep hx4
    have g := hM4.get hy.1 hy.2
    try simp only [go_sem, ruB, hb4.at_, hy.1, hy.2, g]
    refine gT.of (fun h2' => ?_) (fun h2' => ?_) <;> (have h2 := h2'; try simp only [decide_eq_true_eq, decide_eq_false_iff_not, beq_iff_eq, bne_iff_ne, beq_eq_false_iff_ne, ne_eq, Bool.not_eq_true', Bool.not_eq_false', bne_eq_false_iff_eq, Int.not_lt, Int.not_le] at h2)
    · try simp only [go_sem, ruB, h2']
      refine .inl ⟨fun h => ?_, hx3.trans hx4⟩
      rw [hdr, ← List.append_assoc, ← List.append_assoc] at h
      exact h2 (apartP_snoc.1 (apartP_pre h)).2
    · try simp only [go_sem, ruB, h2', hb4.at_, hy.1, hy.2, g]
      obtain ⟨m5, q1, q2, q3⟩ := hM4.put hy.1 hy.2
      refine got_eq q1 ?_
      try simp only [go_sem, ruB, s1]
      refine ⟨x.pieces.length - (j + 1), by omega, j + 1, by omega, rfl, rfl, ?_, ?_, q3 _ (hx3.trans hx4) hb⟩
      · rw [htk, ← List.append_assoc]; exact q2
      · rw [htk, ← List.append_assoc, apartP_snoc]; exact ⟨hap3, Decidable.not_not.1 h2⟩
  · have : j = x.pieces.length := by omega
    subst this
    rw [List.take_length] at hM3 hap3
    try simp only [go_sem, ruB, h1']
    exact .inr ⟨hM3, hap3, hx3⟩

theorem apart_spec {p : PlanD} {v : Value} (hv : PlanV m p v) (hl : p.places.length < 1000000) (hp1 : ∀ x ∈ p.places, x.pieces.length < 1000000) (hc : ∀ x ∈ p.places, ∀ y ∈ x.pieces, 0 ≤ y.1 ∧ y.1 < 16) :
    WC R F.plan_apart [v] m fun r m' => r = .bool (decide (apartP (preP p.places p.places.length))) ∧ Ext m m' := by
  refine WC.of R.plan_apart rfl ?_
  obtain ⟨pv, rfl, hp⟩ := hv
  simp only [RC.plan_apart, planV, go_sem, hp.one]
  have hx : Ext m (m.new (.cells [.int .i64 p.frame, u32 p.cores, pv] (some 3))) := Ext.new
  have hb : Bk (m.new (.cells [.int .i64 p.frame, u32 p.cores, pv] (some 3))) m.next [.int .i64 p.frame, u32 p.cores, pv] 3 := Bk.new
  generalize m.new (.cells [.int .i64 p.frame, u32 p.cores, pv] (some 3)) = m1 at hx hb ⊢
  have hp1' := hp.keep hx
  have hbn := hb.ne
  try simp only [go_sem, ruB, hb.at_, hbn, hp1'.len]
  have hx2 : Ext m1 (m1.new (.cells [u64 0#64, u64 0#64, u64 0#64, u64 0#64, u64 0#64, u64 0#64, u64 0#64, u64 0#64, u64 0#64, u64 0#64, u64 0#64, u64 0#64, u64 0#64, u64 0#64, u64 0#64, u64 0#64] (some 16))) := Ext.new
  have hb2 : Bk (m1.new (.cells [u64 0#64, u64 0#64, u64 0#64, u64 0#64, u64 0#64, u64 0#64, u64 0#64, u64 0#64, u64 0#64, u64 0#64, u64 0#64, u64 0#64, u64 0#64, u64 0#64, u64 0#64, u64 0#64] (some 16))) m1.next [u64 0#64, u64 0#64, u64 0#64, u64 0#64, u64 0#64, u64 0#64, u64 0#64, u64 0#64, u64 0#64, u64 0#64, u64 0#64, u64 0#64, u64 0#64, u64 0#64, u64 0#64, u64 0#64] 16 := Bk.new
  generalize m1.new (.cells [u64 0#64, u64 0#64, u64 0#64, u64 0#64, u64 0#64, u64 0#64, u64 0#64, u64 0#64, u64 0#64, u64 0#64, u64 0#64, u64 0#64, u64 0#64, u64 0#64, u64 0#64, u64 0#64] (some 16)) = m2 at hx2 hb2 ⊢
  have hb2' := hb.keep hx2
  have hM2 : Met m2 m1.next [] := ⟨List.replicate 16 0#64, hb2, rfl, fun c hc => by rw [List.getElem_replicate]; rfl⟩
  try simp only [go_sem, ruB, hb2'.at_, hp1'.len]
  refine WL.of (fun n e m' => ∃ i : Nat, i ≤ p.places.length ∧ n = p.places.length - i ∧ e = [(3, pt m1.next), (9, pv), (10, .int .i64 p.places.length), (11, .int .i64 i)] ∧ Met m' m1.next (preP p.places i) ∧ apartP (preP p.places i) ∧ Ext m1 m') p.places.length
    ⟨0, by omega, by omega, by simp only [go_sem] <;> rfl, by simpa [preP] using hM2, by intro k hk; simp [preP] at hk, hx2⟩ ?_
  rintro _ _ m3 ⟨i, hi, rfl, rfl, hM, hap, hx3⟩
  have hp3 := hp1'.keep hx3
  simp only [RB.plan_apart_2, pt, go_sem]
  refine gT.of (fun h1' => ?_) (fun h1' => ?_) <;> (have h1 := h1'; try simp only [decide_eq_true_eq, decide_eq_false_iff_not, beq_iff_eq, bne_iff_ne, beq_eq_false_iff_ne, ne_eq, Bool.not_eq_true', Bool.not_eq_false', bne_eq_false_iff_eq, Int.not_lt, Int.not_le] at h1)
  · have hil : i < p.places.length := by omega
    obtain ⟨b, o, qv, a1, a2, a3, a4, a5⟩ := hp1'.elem hil
    rw [← load_ext hx3 a5] at a2
    have hpre := preP_succ hil
    have hmem := List.getElem_mem hil
    have hpl := hp1 _ hmem
    have hcc := hc _ hmem
    have s1 := step1 (show i < 1000000 by omega)
    have hrest : preP p.places p.places.length = preP p.places (i + 1) ++ (p.places.drop (i + 1)).flatMap (·.pieces) := by
      unfold preP
      rw [← List.flatMap_append, List.take_length, List.take_append_drop]
    generalize p.places[i] = x at *
    simp only [plV] at a2
    try simp only [go_sem, ruB, a1, a2, a4.one]
    have hx4 : Ext m3 (m3.new (.cells [.int .i64 x.unit, .int .i64 x.share, .int .i64 x.core, qv] (some 4))) := Ext.new
    have hb4 : Bk (m3.new (.cells [.int .i64 x.unit, .int .i64 x.share, .int .i64 x.core, qv] (some 4))) m3.next [.int .i64 x.unit, .int .i64 x.share, .int .i64 x.core, qv] 4 := Bk.new
    generalize m3.new (.cells [.int .i64 x.unit, .int .i64 x.share, .int .i64 x.core, qv] (some 4)) = m4 at hx4 hb4 ⊢
    try simp only [go_sem, ruB, hb4.at_, a4.len]
    have hx34 : Ext m1 m4 := hx3.trans hx4
    refine WL.mono (apart1p_loop (m0 := m1) (x := x) (b := m1.next) (pre := preP p.places i) hx34 a4 (hM.keep hx4) (Nat.le_refl _) hap hpl hcc) ?_
    rintro _ _ m5 (⟨rfl, rfl, hno, hx5⟩ | ⟨rfl, rfl, hM5, hap5, hx5⟩)
    · try simp only [go_sem, ruB]
      exact ⟨fin_no fun h => by rw [hrest, hpre] at h; exact hno (apartP_pre h), hx.trans hx5⟩
    · simp only [pt]
      try simp only [go_sem, ruB, s1]
      exact ⟨p.places.length - (i + 1), by omega, i + 1, by omega, rfl, rfl, by rw [hpre]; exact hM5, by rw [hpre]; exact hap5, hx5⟩
  · have : i = p.places.length := by omega
    subst this
    try simp only [go_sem, ruB, h1']
    exact ⟨fin_yes hap, hx.trans hx3⟩
end Go.Am


/- PlanX3 over the table of weave (relayset.py). -/
set_option linter.unusedVariables false
set_option linter.unusedSimpArgs false
namespace Go.Am
open Classical
variable {m : Mem}

def plC (p : PlanD) (i : Nat) : Prop := ∃ h : i < p.places.length, placeP p p.places[i] ∧ ∀ h : 0 < i, (p.places[i - 1]'(by omega)).unit < p.places[i].unit
def CheckP (p : PlanD) : Prop :=
  2 ≤ p.frame ∧ p.frame ≤ 64 ∧ p.cores ≠ 0#32 ∧ p.cores >>> 16 = 0#32 ∧ (∀ i, i < p.places.length → plC p i) ∧ apartP (preP p.places p.places.length) ∧ p.places.countP isSp < (csP p 16).length ∧
  ∀ c ∈ csP p 16, 0 ≤ leftP p (c : Nat)

theorem plC_r {p : PlanD} (h : 2 ≤ p.frame) (h2 : p.frame ≤ 64) (hl : PlanL p) (ha : ∀ i, i < p.places.length → plC p i) : PlanR p := by
  refine ⟨hl.len, hl.pcs, fun x hx => ?_, by omega, h2⟩
  obtain ⟨i, hi, rfl⟩ := List.getElem_of_mem hx
  obtain ⟨_, h, -⟩ := ha i hi
  have := h.2.1; have := h.2.2.1
  omega
theorem plC_cores {p : PlanD} (ha : ∀ i, i < p.places.length → plC p i) : ∀ x ∈ p.places, ∀ y ∈ x.pieces, 0 ≤ y.1 ∧ y.1 < 16 := by
  intro x hx y hy
  obtain ⟨i, hi, rfl⟩ := List.getElem_of_mem hx
  obtain ⟨_, h, -⟩ := ha i hi
  have := h.2.2.2.2 (by intro e; rw [List.eq_nil_of_length_eq_zero e] at hy; cases hy)
  obtain ⟨j, hj, rfl⟩ := List.getElem_of_mem hy
  obtain ⟨⟨_, g, -⟩, -⟩ := this.1 j hj
  exact hasC_range g

noncomputable def chk (p : PlanD) : Value := .int .i64 (if CheckP p then 0 else 30)
theorem chk_no {p : PlanD} (h : ¬ CheckP p) : Value.int .i64 30 = chk p := by unfold chk; rw [if_neg h]
theorem chk_yes {p : PlanD} (h : CheckP p) : Value.int .i64 0 = chk p := by unfold chk; rw [if_pos h]

set_option maxHeartbeats 4000000 in
theorem Check_spec {p : PlanD} {v : Value} (hv : PlanV m p v) (hl : PlanL p) : WC R F.plan_Check [v] m fun r m' => r = chk p ∧ Ext m m' := by
  refine WC.of R.plan_Check rfl ?_
  obtain ⟨pv, rfl, hp⟩ := hv
  simp only [RC.plan_Check, planV, go_sem, hp.one]
  have hx : Ext m (m.new (.cells [.int .i64 p.frame, u32 p.cores, pv] (some 3))) := Ext.new
  have hb : Bk (m.new (.cells [.int .i64 p.frame, u32 p.cores, pv] (some 3))) m.next [.int .i64 p.frame, u32 p.cores, pv] 3 := Bk.new
  generalize m.new (.cells [.int .i64 p.frame, u32 p.cores, pv] (some 3)) = m1 at hx hb ⊢
  try simp only [go_sem, ruB, hb.at_]
  refine gT.of (fun h1' => ?_) (fun h1' => ?_) <;> (have h1 := h1'; try simp only [decide_eq_true_eq, decide_eq_false_iff_not, beq_iff_eq, bne_iff_ne, beq_eq_false_iff_ne, ne_eq, Bool.not_eq_true', Bool.not_eq_false', bne_eq_false_iff_eq, Int.not_lt, Int.not_le] at h1)
  · try simp only [go_sem, ruB, h1']
    exact ⟨chk_no fun h => by have := h.1; omega, hx⟩
  · try simp only [go_sem, ruB, h1', hb.at_]
    refine gT.of (fun h2' => ?_) (fun h2' => ?_) <;> (have h2 := h2'; try simp only [decide_eq_true_eq, decide_eq_false_iff_not, beq_iff_eq, bne_iff_ne, beq_eq_false_iff_ne, ne_eq, Bool.not_eq_true', Bool.not_eq_false', bne_eq_false_iff_eq, Int.not_lt, Int.not_le] at h2)
    · try simp only [go_sem, ruB, h2']
      exact ⟨chk_no fun h => by have := h.2.1; omega, hx⟩
    · try simp only [go_sem, ruB, h2', hb.at_]
      refine gT.of (fun h3' => ?_) (fun h3' => ?_) <;> (have h3 := h3'; try simp only [decide_eq_true_eq, decide_eq_false_iff_not, beq_iff_eq, bne_iff_ne, beq_eq_false_iff_ne, ne_eq, Bool.not_eq_true', Bool.not_eq_false', bne_eq_false_iff_eq, Int.not_lt, Int.not_le] at h3)
      · try simp only [go_sem, ruB, h3']
        exact ⟨chk_no fun h => h.2.2.1 h3, hx⟩
      · try simp only [go_sem, ruB, h3', hb.at_]
        refine gT.of (fun h4' => ?_) (fun h4' => ?_) <;> (have h4 := h4'; try simp only [decide_eq_true_eq, decide_eq_false_iff_not, beq_iff_eq, bne_iff_ne, beq_eq_false_iff_ne, ne_eq, Bool.not_eq_true', Bool.not_eq_false', bne_eq_false_iff_eq, Int.not_lt, Int.not_le] at h4)
        · try simp only [go_sem, ruB, h4']
          exact ⟨chk_no fun h => h4 h.2.2.2.1, hx⟩
        · have hc : p.cores >>> 16 = 0#32 := Decidable.not_not.1 h4
          have hpk := hp.keep hx
          try simp only [go_sem, ruB, h4', hb.at_, hpk.len]
          refine WL.of (fun n e m' => ∃ i : Nat, i ≤ p.places.length ∧ n = p.places.length - i ∧ e = [(1, pt m.next), (27, pv), (28, .int .i64 p.places.length), (29, .int .i64 i)] ∧ (∀ j, j < i → plC p j) ∧ Ext m1 m') p.places.length
            ⟨0, by omega, by omega, by simp only [go_sem] <;> rfl, fun d hd => by omega, Ext.refl _⟩ ?_
          rintro _ _ m2 ⟨i, hi, rfl, rfl, hall, hx2⟩
          have hp2 := hpk.keep hx2
          have hb2 := hb.keep hx2
          simp only [RB.plan_Check_2, pt, go_sem]
          refine gT.of (fun h5' => ?_) (fun h5' => ?_) <;> (have h5 := h5'; try simp only [decide_eq_true_eq, decide_eq_false_iff_not, beq_iff_eq, bne_iff_ne, beq_eq_false_iff_ne, ne_eq, Bool.not_eq_true', Bool.not_eq_false', bne_eq_false_iff_eq, Int.not_lt, Int.not_le] at h5)
          · have hil : i < p.places.length := by omega
            obtain ⟨b, o, qv, a1, a2, a3, a4, a5⟩ := hp2.elem hil
            have hprev : ∀ h : 0 < i, ∃ b' o', aIdxS 4 pv (.int .i64 (i - 1 : Nat)) = some (.pointer (some ⟨b', o', none⟩)) ∧ ∀ m', Ext m2 m' → aLoad false 1 m' (.pointer (some ⟨b', o', none⟩)) = some (.int .i64 (p.places[i - 1]'(by omega)).unit) := fun h => hp2.prev (by omega)
            have bad : ¬ (placeP p p.places[i] ∧ ∀ h : 0 < i, (p.places[i - 1]'(by omega)).unit < p.places[i].unit) → ¬ CheckP p := fun h h2 => h (let ⟨_, g⟩ := h2.2.2.2.2.1 i hil; g)
            have good : (placeP p p.places[i] ∧ ∀ h : 0 < i, (p.places[i - 1]'(by omega)).unit < p.places[i].unit) → ∀ j, j < i + 1 → plC p j := by
              intro h j hj
              by_cases e : j = i
              · subst e; exact ⟨hil, h⟩
              · exact hall j (by omega)
            have hpl := hl.pcs _ (List.getElem_mem hil)
            have n2 := hb2.ne
            generalize p.places[i] = x at *
            simp only [plV] at a2
            try simp only [go_sem, ruB, hb2.at_, a1, a2, n2, a4.one]
            have hx3 : Ext m2 (m2.new (.cells [.int .i64 x.unit, .int .i64 x.share, .int .i64 x.core, qv] (some 4))) := Ext.new
            have hb3 : Bk (m2.new (.cells [.int .i64 x.unit, .int .i64 x.share, .int .i64 x.core, qv] (some 4))) m2.next [.int .i64 x.unit, .int .i64 x.share, .int .i64 x.core, qv] 4 := Bk.new
            generalize m2.new (.cells [.int .i64 x.unit, .int .i64 x.share, .int .i64 x.core, qv] (some 4)) = m3 at hx3 hb3 ⊢
            have hp3 := hp2.keep hx3
            have hc3 := hb2.keep hx3
            try simp only [go_sem, ruB, hc3.at_, hb3.at_]
            refine gC.of (place_spec (p := p) (x := x) ⟨pv, rfl, hp3⟩ ⟨qv, rfl, a4.keep hx3⟩ hpl) ?_
            rintro _ m4 ⟨rfl, hx4⟩
            simp only [go_sem]
            have hb4 := hb3.keep hx4
            have hc4 := hc3.keep hx4
            have hx24 := hx3.trans hx4
            try simp only [go_sem, ruB, hc3.at_, hb3.at_, hb4.at_, hc4.at_]
            refine gT.of (fun h6' => ?_) (fun h6' => ?_) <;> (have h6 := h6'; try simp only [decide_eq_true_eq, decide_eq_false_iff_not, beq_iff_eq, bne_iff_ne, beq_eq_false_iff_ne, ne_eq, Bool.not_eq_true', Bool.not_eq_false', bne_eq_false_iff_eq, Int.not_lt, Int.not_le] at h6)
            · try simp only [go_sem, ruB, h6']
              exact ⟨chk_no (bad fun h => h6 h.1), hx.trans (hx2.trans hx24)⟩
            · have h6 : placeP p x := by simpa using h6'
              try simp only [go_sem, ruB, h6', hb4.at_, hc4.at_]
              refine gT.of (fun h7' => ?_) (fun h7' => ?_) <;> (have h7 := h7'; try simp only [decide_eq_true_eq, decide_eq_false_iff_not, beq_iff_eq, bne_iff_ne, beq_eq_false_iff_ne, ne_eq, Bool.not_eq_true', Bool.not_eq_false', bne_eq_false_iff_eq, Int.not_lt, Int.not_le] at h7)
              · obtain ⟨b', o', c1, c2⟩ := hprev (by omega)
                try simp only [go_sem, ruB, h7', hb4.at_, hc4.at_, sub1 (show 0 < i by omega) (show i < 1000000 by have := hl.len; omega), c1, c2 _ hx24]
                refine gT.of (fun h8' => ?_) (fun h8' => ?_) <;> (have h8 := h8'; try simp only [decide_eq_true_eq, decide_eq_false_iff_not, beq_iff_eq, bne_iff_ne, beq_eq_false_iff_ne, ne_eq, Bool.not_eq_true', Bool.not_eq_false', bne_eq_false_iff_eq, Int.not_lt, Int.not_le] at h8)
                · try simp only [go_sem, ruB, h8']
                  exact ⟨chk_no (bad fun h => by have := h.2 (by omega); omega), hx.trans (hx2.trans hx24)⟩
                · try simp only [go_sem, ruB, h8', step1 (show i < 1000000 by have := hl.len; omega)]
                  exact ⟨p.places.length - (i + 1), by omega, i + 1, by omega, rfl, rfl, good ⟨h6, fun h => by omega⟩, hx2.trans hx24⟩
              · try simp only [go_sem, ruB, h7', step1 (show i < 1000000 by have := hl.len; omega)]
                exact ⟨p.places.length - (i + 1), by omega, i + 1, by omega, rfl, rfl, good ⟨h6, fun h => by omega⟩, hx2.trans hx24⟩
          · have hi : i = p.places.length := by omega
            subst hi
            have hr := plC_r (by omega) (by omega) hl hall
            try simp only [go_sem, ruB, h5', hb2.at_]
            refine gC.of (apart_spec (p := p) ⟨pv, rfl, hp2⟩ hl.len hl.pcs (plC_cores hall)) ?_
            rintro _ m3 ⟨rfl, hx3⟩
            simp only [go_sem]
            have hb3 := hb2.keep hx3
            have hp3 := hp2.keep hx3
            try simp only [go_sem, ruB, hb3.at_, hb2.at_]
            refine gT.of (fun h6' => ?_) (fun h6' => ?_) <;> (have h6 := h6'; try simp only [decide_eq_true_eq, decide_eq_false_iff_not, beq_iff_eq, bne_iff_ne, beq_eq_false_iff_ne, ne_eq, Bool.not_eq_true', Bool.not_eq_false', bne_eq_false_iff_eq, Int.not_lt, Int.not_le] at h6)
            · try simp only [go_sem, ruB, h6']
              exact ⟨chk_no fun h => h6 h.2.2.2.2.2.1, hx.trans (hx2.trans hx3)⟩
            · have h6 : apartP (preP p.places p.places.length) := by simpa using h6'
              try simp only [go_sem, ruB, h6', hb3.at_]
              refine gC.of (Splits_spec (p := p) ⟨pv, rfl, hp3⟩ hl.len) ?_
              rintro _ m4 ⟨rfl, hx4⟩
              simp only [go_sem]
              have hb4 := hb3.keep hx4
              have hp4 := hp3.keep hx4
              try simp only [go_sem, ruB, hb3.at_, hb4.at_]
              refine gC.of (Cores_spec (p := p) ⟨pv, rfl, hp4⟩) ?_
              rintro w m5 ⟨ho, hx5⟩
              have hb5 := hb4.keep hx5
              have hp5 := hp4.keep hx5
              try simp only [go_sem, ruB, hb4.at_, hb5.at_, ho.sl.len]
              refine gT.of (fun h7' => ?_) (fun h7' => ?_) <;> (have h7 := h7'; try simp only [decide_eq_true_eq, decide_eq_false_iff_not, beq_iff_eq, bne_iff_ne, beq_eq_false_iff_ne, ne_eq, Bool.not_eq_true', Bool.not_eq_false', bne_eq_false_iff_eq, Int.not_lt, Int.not_le] at h7)
              · try simp only [go_sem, ruB, h7']
                exact ⟨chk_no fun h => by have := h.2.2.2.2.2.2.1; omega, hx.trans (hx2.trans (hx3.trans (hx4.trans hx5)))⟩
              · try simp only [go_sem, ruB, h7', hb5.at_]
                refine gC.of (Cores_spec (p := p) ⟨pv, rfl, hp5⟩) ?_
                rintro w2 m6 ⟨ho6, hx6⟩
                have hsl := ho6.sl
                have hlt := ho6.lt
                have hlen := csP_len (p := p) (n := 16)
                try simp only [go_sem, ruB, hsl.len]
                refine WL.of (fun n e m' => ∃ k : Nat, k ≤ (csP p 16).length ∧ n = (csP p 16).length - k ∧ e = [(1, pt m.next), (67, w2), (68, .int .i64 (csP p 16).length), (69, .int .i64 k)] ∧ (∀ c ∈ (csP p 16).take k, 0 ≤ leftP p (c : Nat)) ∧ Ext m6 m') (csP p 16).length
                  ⟨0, by omega, by omega, by simp only [go_sem] <;> rfl, by simp, Ext.refl _⟩ ?_
                rintro _ _ m7 ⟨k, hk, rfl, rfl, hld, hx7⟩
                have hb7 := (hb5.keep hx6).keep hx7
                have hp7 := (hp5.keep hx6).keep hx7
                have hsl7 := hsl.keep hlt hx7
                simp only [RB.plan_Check_1, pt, go_sem]
                refine gT.of (fun h8' => ?_) (fun h8' => ?_) <;> (have h8 := h8'; try simp only [decide_eq_true_eq, decide_eq_false_iff_not, beq_iff_eq, bne_iff_ne, beq_eq_false_iff_ne, ne_eq, Bool.not_eq_true', Bool.not_eq_false', bne_eq_false_iff_eq, Int.not_lt, Int.not_le] at h8)
                · have hkl : k < (csP p 16).length := by omega
                  obtain ⟨q, e1, e2⟩ := hsl7.get (k := .i64) (i := k) hkl
                  rw [ints_get hkl] at e2
                  have hsn : (csP p 16).take (k + 1) = (csP p 16).take k ++ [(csP p 16)[k]] := List.take_succ_eq_append_getElem hkl
                  have hmm : (csP p 16)[k] ∈ csP p 16 := List.getElem_mem hkl
                  generalize (csP p 16)[k] = c at *
                  try simp only [go_sem, ruB, hb7.at_, e1, e2]
                  refine gC.of (left_spec (p := p) (c := c) ⟨pv, rfl, hp7⟩ hr) ?_
                  rintro _ m8 ⟨rfl, hx8⟩
                  simp only [go_sem]
                  have hb8 := hb7.keep hx8
                  try simp only [go_sem, ruB, hb7.at_, hb8.at_]
                  refine gT.of (fun h9' => ?_) (fun h9' => ?_) <;> (have h9 := h9'; try simp only [decide_eq_true_eq, decide_eq_false_iff_not, beq_iff_eq, bne_iff_ne, beq_eq_false_iff_ne, ne_eq, Bool.not_eq_true', Bool.not_eq_false', bne_eq_false_iff_eq, Int.not_lt, Int.not_le] at h9)
                  · try simp only [go_sem, ruB, h9']
                    exact ⟨chk_no fun h => by have := h.2.2.2.2.2.2.2 c hmm; omega, hx.trans (hx2.trans (hx3.trans (hx4.trans (hx5.trans (hx6.trans (hx7.trans hx8))))))⟩
                  · try simp only [go_sem, ruB, h9', step1 (show k < 1000000 by omega)]
                    refine ⟨(csP p 16).length - (k + 1), by omega, k + 1, by omega, rfl, rfl, ?_, hx7.trans hx8⟩
                    intro c' hc'
                    rw [hsn] at hc'
                    rcases List.mem_append.1 hc' with h | h
                    · exact hld c' h
                    · rw [List.mem_singleton.1 h]; omega
                · try simp only [go_sem, ruB, h8']
                  rw [List.take_of_length_le (by omega)] at hld
                  exact ⟨chk_yes ⟨by omega, by omega, h3, hc, hall, h6, by omega, hld⟩, hx.trans (hx2.trans (hx3.trans (hx4.trans (hx5.trans (hx6.trans hx7)))))⟩
end Go.Am


/- PlanX4 over the table of weave (relayset.py). -/
set_option linter.unusedVariables false
set_option linter.unusedSimpArgs false
namespace Go.Am
open Classical
variable {m : Mem}

theorem sc_u64 {x y : BitVec 64} : scalEq .int (u64 x) (u64 y) = some (decide (x = y)) := by
  unfold u64
  rw [sc_int]
  congr 1
  rw [Bool.eq_iff_iff, beq_iff_eq, decide_eq_true_eq]
  constructor
  · intro h; apply BitVec.eq_of_toNat_eq; omega
  · intro h; rw [h]
attribute [go_sem] sc_u64

theorem refSamePlace_spec {x y : Pl} {v w : Value} (hv : PlV m x v) (hw : PlV m y w) (hl : x.pieces.length < 1000000) (hk : y.pieces.length < 1000000) :
    WC R F.ref16_SamePlace [v, w] m fun r m' => r = .bool (decide (x = y)) ∧ Ext m m' := by
  refine WC.of R.ref16_SamePlace rfl ?_
  obtain ⟨pv, rfl, hp⟩ := hv
  obtain ⟨qv, rfl, hq⟩ := hw
  have hex : x = y ↔ x.unit = y.unit ∧ x.share = y.share ∧ x.core = y.core ∧ x.pieces = y.pieces := by
    cases x; cases y; simp
  simp only [RC.ref16_SamePlace, plV, go_sem, hp.one, hq.one]
  have hx : Ext m (m.new (.cells [.int .i64 x.unit, .int .i64 x.share, .int .i64 x.core, pv] (some 4))) := Ext.new
  have hb : Bk (m.new (.cells [.int .i64 x.unit, .int .i64 x.share, .int .i64 x.core, pv] (some 4))) m.next [.int .i64 x.unit, .int .i64 x.share, .int .i64 x.core, pv] 4 := Bk.new
  generalize m.new (.cells [.int .i64 x.unit, .int .i64 x.share, .int .i64 x.core, pv] (some 4)) = m1 at hx hb ⊢
  have hx2 : Ext m1 (m1.new (.cells [.int .i64 y.unit, .int .i64 y.share, .int .i64 y.core, qv] (some 4))) := Ext.new
  have hb2 : Bk (m1.new (.cells [.int .i64 y.unit, .int .i64 y.share, .int .i64 y.core, qv] (some 4))) m1.next [.int .i64 y.unit, .int .i64 y.share, .int .i64 y.core, qv] 4 := Bk.new
  generalize m1.new (.cells [.int .i64 y.unit, .int .i64 y.share, .int .i64 y.core, qv] (some 4)) = m2 at hx2 hb2 ⊢
  have hb := hb.keep hx2
  have hp := (hp.keep hx).keep hx2
  have hq := (hq.keep hx).keep hx2
  have hX := hx.trans hx2
  try simp only [go_sem, ruB, hb.at_, hb2.at_]
  refine gT.of (fun h1' => ?_) (fun h1' => ?_) <;> (have h1 := h1'; try simp only [decide_eq_true_eq, decide_eq_false_iff_not, beq_iff_eq, bne_iff_ne, beq_eq_false_iff_ne, ne_eq, Bool.not_eq_true', Bool.not_eq_false', bne_eq_false_iff_eq, Int.not_lt, Int.not_le] at h1)
  · try simp only [go_sem, ruB, h1']
    exact ⟨fin_no fun h => h1 (hex.1 h).1, hX⟩
  · try simp only [go_sem, ruB, h1', hb.at_, hb2.at_]
    refine gT.of (fun h2' => ?_) (fun h2' => ?_) <;> (have h2 := h2'; try simp only [decide_eq_true_eq, decide_eq_false_iff_not, beq_iff_eq, bne_iff_ne, beq_eq_false_iff_ne, ne_eq, Bool.not_eq_true', Bool.not_eq_false', bne_eq_false_iff_eq, Int.not_lt, Int.not_le] at h2)
    · try simp only [go_sem, ruB, h2']
      exact ⟨fin_no fun h => h2 (hex.1 h).2.1, hX⟩
    · try simp only [go_sem, ruB, h2', hb.at_, hb2.at_]
      refine gT.of (fun h3' => ?_) (fun h3' => ?_) <;> (have h3 := h3'; try simp only [decide_eq_true_eq, decide_eq_false_iff_not, beq_iff_eq, bne_iff_ne, beq_eq_false_iff_ne, ne_eq, Bool.not_eq_true', Bool.not_eq_false', bne_eq_false_iff_eq, Int.not_lt, Int.not_le] at h3)
      · try simp only [go_sem, ruB, h3']
        exact ⟨fin_no fun h => h3 (hex.1 h).2.2.1, hX⟩
      · try simp only [go_sem, ruB, h3', hb.at_, hb2.at_, hp.len, hq.len]
        refine gT.of (fun h4' => ?_) (fun h4' => ?_) <;> (have h4 := h4'; try simp only [decide_eq_true_eq, decide_eq_false_iff_not, beq_iff_eq, bne_iff_ne, beq_eq_false_iff_ne, ne_eq, Bool.not_eq_true', Bool.not_eq_false', bne_eq_false_iff_eq, Int.not_lt, Int.not_le] at h4)
        · try simp only [go_sem, ruB, h4']
          exact ⟨fin_no fun h => h4 (by rw [(hex.1 h).2.2.2]), hX⟩
        · have hlk : x.pieces.length = y.pieces.length := by have := h4; omega
          try simp only [go_sem, ruB, h4']
          refine WL.of (fun n e m' => ∃ i : Nat, i ≤ x.pieces.length ∧ n = x.pieces.length - i ∧ e = [(2, pt m.next), (3, pt m1.next), (5, .int .i64 i)] ∧ (∀ j (h1 : j < x.pieces.length) (h2 : j < y.pieces.length), j < i → x.pieces[j] = y.pieces[j]) ∧ m' = m2) x.pieces.length
            ⟨0, by omega, by omega, by simp only [go_sem] <;> rfl, fun _ _ _ h => by omega, rfl⟩ ?_
          rintro _ _ _ ⟨i, hi, rfl, rfl, hj, hm⟩
          replace hm := hm.symm
          subst hm
          simp only [RB.ref16_SamePlace_1, pt, go_sem, ruB, hb.at_, hp.len]
          refine gT.of (fun h5' => ?_) (fun h5' => ?_) <;> (have h5 := h5'; try simp only [decide_eq_true_eq, decide_eq_false_iff_not, beq_iff_eq, bne_iff_ne, beq_eq_false_iff_ne, ne_eq, Bool.not_eq_true', Bool.not_eq_false', bne_eq_false_iff_eq, Int.not_lt, Int.not_le] at h5)
          · have hil : i < x.pieces.length := by omega
            have hik : i < y.pieces.length := by omega
            obtain ⟨b, o, a1, a2, a3, a4⟩ := hp.elem hil
            obtain ⟨b', o', c1, c2, c3, c4⟩ := hq.elem hik
            simp only [pcV] at a2 c2
            try simp only [go_sem, ruB, h5', a1, a2, c1, c2, hb.at_, hb2.at_]
            refine gT.of (fun h6 => ?_) (fun h6 => ?_)
            · have : x ≠ y := by
                rintro rfl
                simp at h6
              try simp only [go_sem, ruB, h6]
              exact ⟨fin_no this, hX⟩
            · have h7 : x.pieces[i] = y.pieces[i] := by
                apply Prod.ext
                · simp at h6; exact h6.1
                · simp at h6; exact h6.2
              try simp only [go_sem, ruB, h6, step1 (show i < 1000000 by omega)]
              refine ⟨x.pieces.length - (i + 1), by omega, i + 1, by omega, rfl, rfl, ?_⟩
              intro j g1 g2 g3
              by_cases e : j = i
              · subst e; exact h7
              · exact hj j g1 g2 (by omega)
          · have : x.pieces = y.pieces := List.ext_getElem hlk fun j g1 g2 => hj j g1 g2 (by omega)
            try simp only [go_sem, ruB, h5']
            exact ⟨fin_yes (hex.2 ⟨h1, h2, h3, this⟩), hX⟩
end Go.Am


/- What putting behind a slice touches: its own block alone. -/
set_option linter.unusedVariables false
namespace Go.Am

/-- The block of a slice. -/
def vb : Value → List Nat
  | .slice (some a) _ _ => [a.block]
  | _ => []

theorem SlOff.vb_iff {v : Value} {fp : List Nat} : SlOff fp v ↔ ∀ b ∈ vb v, b ∉ fp := by
  unfold SlOff vb
  split <;> simp
theorem SlLt.vb_iff {m : Mem} {v : Value} : SlLt m v ↔ ∀ b ∈ vb v, b < m.next := by
  unfold SlLt vb
  split <;> simp

theorem aWrite_upd {m m' : Mem} {b o : Nat} {xs : List Value} (h : aWrite m b o xs = some m') : Upd m m' [b] ∧ m'.next = m.next := by
  unfold aWrite at h
  split at h
  · split at h
    · cases h; exact ⟨Upd.set (by simp), rfl⟩
    · cases h
  · cases h

/-- A function value is called. -/
def gV (R : Nat → Option FEnt) (fv : Value) (vs : List Value) (m : Mem) (Q : Value → Mem → Prop) (_ : Ph Q := ph) : Prop := ∃ f a b, fv = .func (.func f) a b ∧ WC R f (a.toList ++ vs ++ b.toList) m Q
theorem a_callv {R : Nat → Option FEnt} {at_ : Option Nat} {e : Env} {m : Mem} {Q : Value → Mem → Prop} {x : X} {xs : List X} : gpA R at_ e m (.callv x xs) Q = Got (x.ev e) fun fv => Got (evs e xs) fun vs => gV R fv vs m Q := by
  refine propext ⟨?_, ?_⟩
  · rintro ⟨f, a, b, vs, h1, h2, h3⟩; exact ⟨_, h1, _, h2, f, a, b, rfl, h3⟩
  · rintro ⟨_, h1, vs, h2, f, a, b, rfl, h3⟩; exact ⟨f, a, b, vs, h1, h2, h3⟩
theorem gV_func {R : Nat → Option FEnt} {m : Mem} {Q : Value → Mem → Prop} {f : Nat} {vs : List Value} : gV R (.func (.func f) #[] #[]) vs m Q = gC R f vs m Q := by
  refine propext ⟨?_, fun h => ⟨f, #[], #[], rfl, by have h : WC R f vs m Q := h; simpa using h⟩⟩
  rintro ⟨_, _, _, h, k⟩
  cases h
  show WC R f vs m Q
  simpa using k
attribute [go_sem] a_callv gV_func

theorem gV.of {R : Nat → Option FEnt} {fv : Value} {vs : List Value} {m : Mem} {Q Q' : Value → Mem → Prop} (h : gV R fv vs m Q') (k : ∀ v m', Q' v m' → Q v m') : gV R fv vs m Q := by
  obtain ⟨f, a, b, rfl, h2⟩ := h
  exact ⟨f, a, b, rfl, h2.mono k⟩
theorem Own.updq {m0 m m' : Mem} {u n : Nat} {cs : List Value} {v : Value} {fp : List Nat} (h : Own m0 m u n cs v) (hx : Upd m m' fp) (ho : ∀ b ∈ vb v, b ∉ fp) : Own m0 m' u n cs v := by
  cases h with
  | nil h hc => exact .nil h hc
  | @«at» b c all hb hb2 hn hm hl hcs h1 => exact .at hb (Nat.lt_of_lt_of_le hb2 hx.next) hn (by rw [hx.same b hb2 (ho b (by simp [vb]))]; exact hm) hl hcs h1
end Go.Am


/- PlanX5 over the table of weave (relayset.py). -/
set_option linter.unusedVariables false
set_option linter.unusedSimpArgs false
namespace Go.Am
open Classical
variable {m : Mem}

end Go.Am


/- PlanM3 over the table of weave (relayset.py). -/
set_option linter.unusedVariables false
set_option linter.unusedSimpArgs false
namespace Go.Am
open Classical

theorem orW_bit {t : Nat} : ∀ {l : List Pc}, (orW l).getLsbD t = l.any fun y => y.2.getLsbD t := by
  have : ∀ (l : List Pc) (a : BitVec 64), (l.foldl (fun a y => a ||| y.2) a).getLsbD t = (a.getLsbD t || l.any fun y => y.2.getLsbD t) := by
    intro l
    induction l with
    | nil => intro a; simp
    | cons y l ih => intro a; rw [List.foldl_cons, ih, BitVec.getLsbD_or, List.any_cons, Bool.or_assoc]
  intro l
  unfold orW; rw [this]; simp

theorem cntA_eq {x : Pl} {t : Nat} (ht : t < 64) : cntA x t = x.pieces.countP fun y => y.2.getLsbD t := by
  unfold cntA
  exact List.countP_congr fun y _ => by rw [atB_all ht]

theorem any_count {α : Type} {f : α → Bool} {l : List α} : (l.any f = true) ↔ 0 < l.countP f := by
  rw [List.countP_pos_iff, List.any_eq_true]

theorem and_zero {a b : BitVec 64} : (a &&& b) = 0#64 ↔ ∀ t, t < 64 → ¬ (a.getLsbD t = true ∧ b.getLsbD t = true) := by
  constructor
  · intro h t _ ⟨h1, h2⟩
    have := congrArg (fun z => z.getLsbD t) h
    simp [h1, h2] at this
  · intro h
    refine word_ext fun t ht => ?_
    have := h t ht
    rw [BitVec.getLsbD_and]
    simp only [BitVec.getLsbD_zero]
    cases e1 : a.getLsbD t <;> cases e2 : b.getLsbD t <;> simp_all

/-- At most one at each tick: each one meets nobody ahead of it. -/
theorem once_iff {l : List Pc} {t : Nat} : (l.countP fun y => y.2.getLsbD t) ≤ 1 ↔ ∀ i (h : i < l.length), ¬ (l[i].2.getLsbD t = true ∧ (orW (l.take i)).getLsbD t = true) := by
  constructor
  · intro h i hi ⟨h1, h2⟩
    rw [orW_bit, any_count] at h2
    have e := countP_take (f := fun (y : Pc) => y.2.getLsbD t) hi
    rw [if_pos h1] at e
    have : (l.take (i + 1)).countP (fun y => y.2.getLsbD t) ≤ l.countP (fun y => y.2.getLsbD t) := (List.take_sublist _ _).countP_le
    omega
  · intro h
    have : ∀ n, n ≤ l.length → (l.take n).countP (fun y => y.2.getLsbD t) ≤ 1 := by
      intro n
      induction n with
      | zero => intro _; simp
      | succ n ih =>
        intro hn
        have e := countP_take (f := fun (y : Pc) => y.2.getLsbD t) (show n < l.length by omega)
        have := ih (by omega)
        rw [e]
        split
        · rename_i hb
          have := h n (by omega)
          rw [orW_bit, any_count] at this
          have : ¬ 0 < (l.take n).countP (fun y => y.2.getLsbD t) := fun g => this ⟨hb, g⟩
          omega
        · omega
    have := this l.length (Nat.le_refl _)
    rwa [List.take_length] at this

theorem pop_cnt {x : Pl} (h : ∀ t, t < 64 → cntA x t ≤ 1) : (pop (orW x.pieces) : Int) = sumA x 64 := by
  rw [pop_tks, tks_S, sumA_S]
  refine S_congr fun t ht => ?_
  have h1 := h t ht
  rw [cntA_eq ht] at *
  split
  · rename_i e; rw [orW_bit, any_count] at e; omega
  · rename_i e; rw [orW_bit, any_count] at e; omega

theorem pcs_iff {p : PlanD} {x : Pl} (h2 : 2 ≤ p.frame) (h64 : p.frame ≤ 64) (hne : x.pieces.length ≠ 0) :
    pcsP p x ↔ ((∀ i, i < x.pieces.length → pcOk p x.pieces i) ∧ (∀ t, t < 64 → cntA x t ≤ 1 ∧ (0 < cntA x t → (t : Int) < p.frame)) ∧ 2 ≤ x.pieces.length ∧ x.core = 0 ∧ (sumA x 64 : Int) = x.share) := by
  have hfr : (fr p.frame).toNat = p.frame.toNat := by unfold fr; omega
  have hin : (∀ i, i < x.pieces.length → pcIn p x.pieces i) ↔ ∀ t, t < 64 → cntA x t ≤ 1 ∧ (0 < cntA x t → (t : Int) < p.frame) := by
    constructor
    · intro h t ht
      rw [cntA_eq ht]
      refine ⟨once_iff.2 fun i hi => ?_, fun hpos => ?_⟩
      · obtain ⟨_, _, g⟩ := h i hi
        exact and_zero.1 g t ht
      · rw [← any_count, List.any_eq_true] at hpos
        obtain ⟨y, hy, hb⟩ := hpos
        obtain ⟨i, hi, rfl⟩ := List.getElem_of_mem hy
        obtain ⟨_, g, _⟩ := h i hi
        have := and_zero.1 g t ht
        rw [hfr, BitVec.getLsbD_not, allB_bit] at this
        simp [hb, ht] at this
        omega
    · intro h i hi
      refine ⟨hi, and_zero.2 fun t ht ⟨h1, h3⟩ => ?_, and_zero.2 fun t ht => ?_⟩
      · rw [hfr, BitVec.getLsbD_not, allB_bit] at h3
        have := (h t ht).2 (by rw [cntA_eq ht, ← any_count, List.any_eq_true]; exact ⟨_, List.getElem_mem hi, h1⟩)
        simp [ht] at h3
        omega
      · have := (h t ht).1
        rw [cntA_eq ht] at this
        exact once_iff.1 this i hi
  unfold pcsP
  constructor
  · rintro ⟨a, b, c, d⟩
    have q := hin.1 fun i hi => (a i hi).2
    exact ⟨fun i hi => (a i hi).1, q, by omega, c, by rw [← pop_cnt fun t ht => (q t ht).1]; exact d⟩
  · rintro ⟨a, q, b, c, d⟩
    exact ⟨fun i hi => ⟨a i hi, hin.2 q i hi⟩, by omega, c, by rw [pop_cnt fun t ht => (q t ht).1]; exact d⟩

theorem place_iff {p : PlanD} {x : Pl} (h2 : 2 ≤ p.frame) (h64 : p.frame ≤ 64) : placeP p x ↔ refPlaceP p x := by
  unfold placeP refPlaceP
  constructor
  · rintro ⟨a, b, c, d, e⟩; exact ⟨a, b, c, d, fun h => (pcs_iff h2 h64 h).1 (e h)⟩
  · rintro ⟨a, b, c, d, e⟩; exact ⟨a, b, c, d, fun h => (pcs_iff h2 h64 h).2 (e h)⟩

theorem flat_cnt {l : List Pl} {c t : Int} : cntL l c t = (l.flatMap (·.pieces)).countP (atB c t) := by
  induction l with
  | nil => rfl
  | cons x l ih => rw [cntL_cons, ih, List.flatMap_cons, List.countP_append]

theorem wAt_bit {ps : List Pc} {c t : Nat} (ht : t < 64) : (wAt ps (c : Nat)).getLsbD t = true ↔ 0 < ps.countP (atB (c : Nat) (t : Nat)) := by
  unfold wAt
  rw [winPc_bit]
  simp only [BitVec.getLsbD_zero, Bool.false_or]
  rw [any_count]
  have : ps.countP (fun y => decide (y.1 = (c : Int)) && y.2.getLsbD t) = ps.countP (atB (c : Nat) (t : Nat)) := List.countP_congr fun y _ => by rw [atB_eq ht]
  rw [this]

theorem apart_iff {ps : List Pc} (hc : ∀ y ∈ ps, 0 ≤ y.1 ∧ y.1 < 16) : apartP ps ↔ ∀ c, c < 16 → ∀ t, t < 64 → ps.countP (atB (c : Nat) (t : Nat)) ≤ 1 := by
  constructor
  · intro h c hc16 t ht
    have : ∀ n, n ≤ ps.length → (ps.take n).countP (atB (c : Nat) (t : Nat)) ≤ 1 := by
      intro n
      induction n with
      | zero => intro _; simp
      | succ n ih =>
        intro hn
        have e := countP_take (f := atB (c : Nat) (t : Nat)) (show n < ps.length by omega)
        have := ih (by omega)
        rw [e]
        split
        · rename_i hb
          have g := and_zero.1 (h n (by omega)) t ht
          rw [atB_eq ht] at hb
          simp only [Bool.and_eq_true, decide_eq_true_eq] at hb
          have hn0 : ¬ 0 < (ps.take n).countP (atB (c : Nat) (t : Nat)) := by
            intro hpos
            refine g ⟨?_, hb.2⟩
            rw [hb.1]
            exact (wAt_bit ht).2 hpos
          omega
        · omega
    have := this ps.length (Nat.le_refl _)
    rwa [List.take_length] at this
  · intro h i hi
    refine and_zero.2 fun t ht ⟨h1, h2⟩ => ?_
    obtain ⟨h0, h16⟩ := hc _ (List.getElem_mem hi)
    obtain ⟨c, hcc⟩ := Int.eq_ofNat_of_zero_le h0
    rw [hcc] at h1 h16
    have hpos := (wAt_bit ht).1 h1
    have e := countP_take (f := atB (c : Nat) (t : Nat)) hi
    rw [if_pos (by rw [atB_eq ht]; simp [hcc, h2])] at e
    have : (ps.take (i + 1)).countP (atB (c : Nat) (t : Nat)) ≤ ps.countP (atB (c : Nat) (t : Nat)) := (List.take_sublist _ _).countP_le
    have := h c (by omega) t ht
    omega

/-- Both call the same plans right. -/
theorem check_iff {p : PlanD} : CheckP p ↔ RightP p := by
  unfold CheckP RightP
  have hcores : p.cores >>> 16 = 0#32 ↔ p.cores.toNat ≤ 65535 := by
    rw [← BitVec.toNat_inj, BitVec.toNat_ushiftRight, Nat.shiftRight_eq_div_pow]
    have := p.cores.isLt
    simp; omega
  constructor
  · rintro ⟨a, b, c, d, e, f, g, h⟩
    refine ⟨a, b, c, hcores.1 d, fun i hi => ?_, ?_, g, fun c hc => ?_⟩
    · obtain ⟨q, r, s⟩ := e i hi
      exact ⟨q, (place_iff a b).1 r, s⟩
    · intro c hc t ht
      rw [flat_cnt]
      have hf : preP p.places p.places.length = p.places.flatMap (·.pieces) := by unfold preP; rw [List.take_length]
      rw [hf] at f
      exact (apart_iff (by
        intro y hy
        obtain ⟨x, hx, hy⟩ := List.mem_flatMap.1 hy
        exact plC_cores e x hx y hy)).1 f c hc t ht
    · have := h c hc
      rw [leftP_eq] at this; omega
  · rintro ⟨a, b, c, d, e, f, g, h⟩
    have e' : ∀ i, i < p.places.length → plC p i := fun i hi => by
      obtain ⟨q, r, s⟩ := e i hi
      exact ⟨q, (place_iff a b).2 r, s⟩
    refine ⟨a, b, c, hcores.2 d, e', ?_, g, fun c hc => ?_⟩
    · have hf : preP p.places p.places.length = p.places.flatMap (·.pieces) := by unfold preP; rw [List.take_length]
      rw [hf]
      refine (apart_iff (by
        intro y hy
        obtain ⟨x, hx, hy⟩ := List.mem_flatMap.1 hy
        exact plC_cores e' x hx y hy)).2 fun c hc t ht => ?_
      rw [← flat_cnt]; exact f c hc t ht
    · have := h c hc
      rw [leftP_eq]; omega
end Go.Am


/- Cuts of slices. -/
set_option linter.unusedVariables false
set_option linter.unusedSimpArgs false
namespace Go.Am

/-- A slice that may be cut. -/
def Cut (u : Nat) (m : Mem) (v : Value) : Prop := ∀ b o n c, v = .slice (some ⟨b, o, none⟩) n c → unitOk u m b = true
theorem Cutable.cut {u : Nat} {m : Mem} {v : Value} (h : Cutable m v) : Cut u m v := fun b o n c e => by subst e; exact h.unit
theorem Own.cut {m0 m : Mem} {u n : Nat} {cs : List Value} {v : Value} (h : Own m0 m u n cs v) : Cut u m v := by
  intro b o n' c e
  cases h with
  | nil => cases e
  | «at» hb hb2 hn hm hl hcs h1 => cases e; exact unitOk_own hm
theorem Cut.keep {u : Nat} {m m' : Mem} {v : Value} (h : Cut u m v) (hb : SlLt m v) (hx : Ext m m') : Cut u m' v := by
  intro b o n c e
  have := h b o n c e
  subst e
  unfold unitOk at this ⊢
  rw [hx.same b hb]; exact this

theorem aCells_split {m : Mem} {b o n k : Nat} {cs : List Value} (h : aCells m b o n = some cs) (hk : k ≤ n) : aCells m b o k = some (cs.take k) ∧ aCells m b (o + k) (n - k) = some (cs.drop k) := by
  unfold aCells at h ⊢
  split at h
  · rename_i c w hm
    split at h
    · rename_i hle
      cases h
      constructor
      · rw [if_pos (by omega), List.take_take, Nat.min_eq_left hk]
      · rw [if_pos (by omega), ← List.drop_drop, List.drop_take]
    · cases h
  · cases h

theorem Sl.to {m : Mem} {u n : Nat} {cs : List Value} {v : Value} (h : Sl m u n cs v) (hc : Cut u m v) {k : IntKind} {i : Nat} (hi : i ≤ n) :
    ∃ v', aSub u m v none (some (.int k i)) none = some v' ∧ Sl m u i (cs.take (i * u)) v' ∧ (SlLt m v → SlLt m v') ∧ Cut u m v' := by
  cases h with
  | nil h hcs =>
    subst hcs
    have : i = 0 := by omega
    subst this
    exact ⟨.slice none 0 0, rfl, .nil rfl (by simp), id, fun _ _ _ _ e => by cases e⟩
  | @«at» b o c hnc h =>
    have hu := hc b o n c rfl
    refine ⟨.slice (some ⟨b, o, none⟩) i c, sub_to hu (by omega), .at (by omega) (aCells_split h (Nat.mul_le_mul_right _ hi)).1, id, fun _ _ _ _ e => by cases e; exact hu⟩

theorem Sl.from {m : Mem} {u n : Nat} {cs : List Value} {v : Value} (h : Sl m u n cs v) (hc : Cut u m v) {k : IntKind} {i : Nat} (hi : i ≤ n) :
    ∃ v', aSub u m v (some (.int k i)) none none = some v' ∧ Sl m u (n - i) (cs.drop (i * u)) v' ∧ (SlLt m v → SlLt m v') ∧ Cut u m v' := by
  cases h with
  | nil h hcs =>
    subst hcs
    have : i = 0 := by omega
    subst this
    exact ⟨.slice none 0 0, rfl, .nil (by omega) (by simp), id, fun _ _ _ _ e => by cases e⟩
  | @«at» b o c hnc h =>
    have hu := hc b o n c rfl
    refine ⟨.slice (some ⟨b, o + i * u, none⟩) (n - i) (c - i), sub_from hu hi hnc, .at (by omega) ?_, id, fun _ _ _ _ e => by cases e; exact hu⟩
    rw [Nat.sub_mul]
    exact (aCells_split h (Nat.mul_le_mul_right _ hi)).2

/-- Full: no room behind its last one. -/
def Full (v : Value) : Prop := ∀ a p q, v = .slice a p q → p = q
theorem app_full {u by_ : Nat} {m m' : Mem} {v v' x : Value} {k : Nat} (h : aApp none u by_ m v x = some (v', m')) (hk : sliceLen x = some k) (hf : Full v) : Full v' := by
  unfold aApp at h
  rw [hk] at h
  simp only [Option.bind_some] at h
  obtain ⟨xs, hx, h'⟩ := Option.bind_eq_some_iff.1 h
  clear h
  have h := h'
  clear h'
  split at h
  · split at h
    · cases h; intro a p q e; cases e; rfl
    · split at h
      · cases h; intro a p q e; cases e; rfl
      · cases h
  · rename_i b o l c
    have hlc : l = c := hf _ _ _ rfl
    split at h
    · split at h
      · cases h; intro a p q e; cases e; exact hlc
      · cases h
    · split at h
      · omega
      · split at h
        · split at h
          · cases h; intro a p q e; cases e; rfl
          · cases h
        · cases h
  · cases h
end Go.Am


/- One's own slice whose first block is older than what else is there: only that block, and newer ones, are touched. -/
set_option linter.unusedVariables false
set_option linter.unusedSimpArgs false
namespace Go.Am

theorem app_updA {at_ : Option Nat} {u by_ M : Nat} {m m' : Mem} {v v' x : Value} (h : aApp at_ u by_ m v x = some (v', m')) (ha : ∀ k, at_ = some k → M ≤ k) (hM : M ≤ m.next) :
    m.next ≤ m'.next ∧ (∀ b, b < M → b ∉ vb v → m'.blk b = m.blk b) ∧ (vb v' = vb v ∨ ∃ k, vb v' = [k] ∧ M ≤ k) := by
  have hpl : ∀ (m1 : Mem) (o : AObj), m1.next = m.next → m.next ≤ (place at_ m1 o).2.next ∧ (∀ b, b < M → (place at_ m1 o).2.blk b = m1.blk b) ∧ M ≤ (place at_ m1 o).1 := by
    intro m1 o h1
    unfold place
    split
    · refine ⟨by show m.next ≤ m1.next + 1; omega, fun b hb => ?_, by show M ≤ m1.next; omega⟩
      show (if b = m1.next then _ else _) = _
      rw [if_neg (by omega)]
    · rename_i k
      have := ha k rfl
      refine ⟨by show m.next ≤ m1.next; omega, fun b hb => ?_, this⟩
      show (if b = k then _ else _) = _
      rw [if_neg (by omega)]
  unfold aApp at h
  rw [Option.bind_eq_some_iff] at h
  obtain ⟨n, hn, h⟩ := h
  rw [Option.bind_eq_some_iff] at h
  obtain ⟨xs, hxs, h⟩ := h
  split at h
  · split at h
    · cases h; exact ⟨Nat.le_refl _, fun _ _ _ => rfl, .inl rfl⟩
    · split at h
      · obtain ⟨p1, p2, p3⟩ := hpl m (.cells xs (some u)) rfl
        generalize place at_ m (.cells xs (some u)) = P at h p1 p2 p3
        obtain ⟨b, m1⟩ := P
        cases h
        exact ⟨p1, fun b hb _ => p2 b hb, .inr ⟨_, rfl, p3⟩⟩
      · cases h
  · rename_i b o l c
    split at h
    · split at h
      · cases h; exact ⟨Nat.le_refl _, fun _ _ _ => rfl, .inl rfl⟩
      · cases h
    · split at h
      · rw [Option.map_eq_some_iff] at h
        obtain ⟨m1, h1, h2⟩ := h
        cases h2
        obtain ⟨a1, a2⟩ := aWrite_upd h1
        refine ⟨by omega, fun x hx hn => ?_, .inl rfl⟩
        exact a1.same x (by omega) hn
      · split at h
        · rename_i cs own hb
          split at h
          · have hs : ∀ c : Bool, (if c = true then m.set b none else m).next = m.next ∧ ∀ x, x ≠ b → (if c = true then m.set b none else m).blk x = m.blk x := by
              intro c
              cases c
              · exact ⟨rfl, fun _ _ => rfl⟩
              · refine ⟨rfl, fun x hx => ?_⟩
                show (if x = b then _ else _) = _
                rw [if_neg hx]
            simp only [] at h
            generalize hm1 : (if own.isSome = true ∧ o + c * u = cs.length then m.set b none else m) = m1 at h
            have hs1 : m1.next = m.next ∧ ∀ x, x ≠ b → m1.blk x = m.blk x := by
              rw [← hm1]
              split
              · exact hs true
              · exact hs false
            obtain ⟨p1, p2, p3⟩ := hpl m1 (.cells (List.take (l * u) (List.drop o cs) ++ xs) (some u)) hs1.1
            generalize place at_ m1 (.cells (List.take (l * u) (List.drop o cs) ++ xs) (some u)) = P at h p1 p2 p3
            obtain ⟨b', m2⟩ := P
            cases h
            refine ⟨p1, fun x hx hn => ?_, .inr ⟨_, rfl, p3⟩⟩
            rw [p2 x hx, hs1.2 x (by intro e; apply hn; simp [vb, e])]
          · cases h
        · cases h
  · cases h

theorem Own.ge {m0 m : Mem} {u n : Nat} {cs : List Value} {v : Value} (h : Own m0 m u n cs v) : ∀ b ∈ vb v, m0.next ≤ b := by
  cases h with
  | nil => intro b hb; simp [vb] at hb
  | «at» hb hb2 hn hm hl hcs h1 => intro b' hb'; simp [vb] at hb'; subst hb'; exact hb

structure OwnQ (m0 mb m : Mem) (q u n : Nat) (cs : List Value) (v : Value) : Prop where
  own : Own m0 m u n cs v
  upd : Upd mb m [q]
  at_ : ∀ b ∈ vb v, b = q ∨ mb.next ≤ b
  ext : Ext m0 m

variable {m0 mb m m' : Mem} {q u n : Nat} {cs : List Value} {v : Value}
theorem OwnQ.keep (h : OwnQ m0 mb m q u n cs v) (hx : Ext m m') : OwnQ m0 mb m' q u n cs v :=
  ⟨h.own.keep hx, h.upd.trans hx.upd (fun _ h => h) (fun _ h => .inl h), h.at_, h.ext.trans hx⟩

theorem OwnQ.app {by_ : Nat} {es : List Value} (h : OwnQ m0 mb m q u n cs v) (hu : 0 < u) (he : es.length = u) (h1 : oneCells es = true) (hby : (n + 1) * by_ ≤ 2 ^ 47) (hn : n + 1 < 2 ^ 62) :
    ∃ v' m', aApp none u by_ (m.new (.cells es (some u))) v (.slice (some ⟨m.next, 0, none⟩) 1 1) = some (v', m') ∧ OwnQ m0 mb m' q u (n + 1) (cs ++ es) v' := by
  obtain ⟨v', m', e1, e2, e3⟩ := h.own.app (by_ := by_) h.ext hu he h1 hby hn
  have hx : Ext m (m.new (.cells es (some u))) := Ext.new
  obtain ⟨a1, a2, a3⟩ := app_updA (M := (m.new (.cells es (some u))).next) e1 (fun k hk => by cases hk) (Nat.le_refl _)
  refine ⟨v', m', e1, e2, ?_, fun b hb => ?_, e3⟩
  · have hk := h.keep hx
    refine ⟨Nat.le_trans hk.upd.next a1, fun b hb hn => ?_⟩
    have hb2 := hk.upd.next
    rw [a2 b (by omega) (fun hm => by exact (h.at_ b hm).elim (fun e => hn (by simp [e])) (fun e => by omega)), hk.upd.same b hb hn]
  · have := h.upd.next
    have := hx.next
    rcases a3 with e | ⟨k, e, hk⟩
    · rw [e] at hb; exact h.at_ b hb
    · rw [e] at hb; simp at hb; subst hb; exact .inr (by omega)

theorem OwnQ.put {w : Value} {k : IntKind} {i o : Nat} (h : OwnQ m0 mb m q u n cs v) (hi : i < n) (ho : o < u) (hw : w.cells = #[w]) (hone : w.oneCell' = true) :
    ∃ b m', aIdxS u v (.int k i) = some (.pointer (some ⟨b, i * u, none⟩)) ∧ aStore 1 m (.pointer (some ⟨b, i * u + o, none⟩)) w = some m' ∧ OwnQ m0 mb m' q u n (cs.set (i * u + o) w) v := by
  obtain ⟨b, m', e1, e2, e3, e4⟩ := h.own.put (k := k) h.ext hi ho hw hone
  refine ⟨b, m', e1, e2, e3, ?_, h.at_, e4⟩
  have hbv : b ∈ vb v := by
    cases h.own with
    | nil h hc => omega
    | @«at» b2 c all hb hb2 hn hm hl hcs h1 =>
      simp only [aIdxS] at e1
      split at e1
      · have e1 := Option.some.inj e1
        simp only [Value.pointer.injEq, Option.some.injEq, Addr.mk.injEq] at e1
        rw [← e1.1]; simp [vb]
      · cases e1
  have hw' : aWrite m b (i * u + o) w.cells.toList = some m' := by
    simp only [aStore] at e2
    split at e2
    · exact e2
    · cases e2
  obtain ⟨a1, a2⟩ := aWrite_upd hw'
  refine ⟨by have := h.upd.next; omega, fun x hx hn => ?_⟩
  have := h.upd.next
  rw [a1.same x (by omega) (by simp; intro e; subst e; exact (h.at_ x hbv).elim (fun e => hn (by simp [e])) (fun e => by omega)), h.upd.same x hx hn]
end Go.Am


/- Weave: a tick is given to a core, and cores give theirs away: the walk. -/
set_option linter.unusedVariables false
set_option linter.unusedSimpArgs false
namespace Go.Am
open Classical
variable {m : Mem}

theorem Own.rebase {m0 m1 m : Mem} {u n : Nat} {cs : List Value} {v : Value} (h : Own m0 m u n cs v) (e : m1.next ≤ m0.next) : Own m1 m u n cs v := by
  cases h with
  | nil h hc => exact .nil h hc
  | «at» hb hb2 hn hm hl hcs h1 => exact .at (by omega) hb2 hn hm hl hcs h1
theorem Own.putU {m0 m : Mem} {u n : Nat} {cs : List Value} {v w : Value} (h : Own m0 m u n cs v) (hx : Ext m0 m) {k : IntKind} {i o : Nat} (hi : i < n) (ho : o < u) (hw : w.cells = #[w]) (hone : w.oneCell' = true) :
    ∃ b m', aIdxS u v (.int k i) = some (.pointer (some ⟨b, i * u, none⟩)) ∧ aStore 1 m (.pointer (some ⟨b, i * u + o, none⟩)) w = some m' ∧ Own m0 m' u n (cs.set (i * u + o) w) v ∧ Ext m0 m' ∧ Upd m m' (vb v) := by
  obtain ⟨b, m', e1, e2, e3, e4⟩ := h.put (k := k) hx hi ho hw hone
  refine ⟨b, m', e1, e2, e3, e4, ?_⟩
  have hbv : b ∈ vb v := by
    cases h with
    | nil h hc => omega
    | @«at» b2 c all hb hb2 hn hm hl hcs h1 =>
      simp only [aIdxS] at e1
      split at e1
      · have e1 := Option.some.inj e1
        simp only [Value.pointer.injEq, Option.some.injEq, Addr.mk.injEq] at e1
        rw [← e1.1]; simp [vb]
      · cases e1
  have hw' : aWrite m b (i * u + o) w.cells.toList = some m' := by
    simp only [aStore] at e2
    split at e2
    · exact e2
    · cases e2
  exact (aWrite_upd hw').1.trans (Upd.refl _ _) (fun x hx => by simp at hx; subst hx; exact hbv) (fun x hx => .inl hx)
theorem Own.putB {mB m : Mem} {u n : Nat} {cs : List Value} {v w : Value} (h : Own mB m u n cs v) {k : IntKind} {i o : Nat} (hi : i < n) (ho : o < u) (hw : w.cells = #[w]) (hone : w.oneCell' = true) :
    ∃ b m', aIdxS u v (.int k i) = some (.pointer (some ⟨b, i * u, none⟩)) ∧ aStore 1 m (.pointer (some ⟨b, i * u + o, none⟩)) w = some m' ∧ Own mB m' u n (cs.set (i * u + o) w) v ∧ Upd m m' (vb v) ∧ b ∈ vb v := by
  have hb : ∃ b, aIdxS u v (.int k i) = some (.pointer (some ⟨b, i * u, none⟩)) ∧ b ∈ vb v ∧ mB.next ≤ b ∧ b < m.next := by
    cases h with
    | nil h hc => omega
    | @«at» b c all hb hb2 hn hm hl hcs h1 =>
      refine ⟨b, ?_, by simp [vb], hb, hb2⟩
      simp only [aIdxS]
      rw [if_pos (by omega), Int.toNat_natCast, Nat.zero_add]
  obtain ⟨b, hb1, hb2, hb3, hb4⟩ := hb
  obtain ⟨b', m', e1, e2, e3, e4, e5⟩ := (h.rebase (m1 := ⟨mB.next, m.blk⟩) (Nat.le_refl _)).putU (m0 := ⟨mB.next, m.blk⟩) ⟨by show mB.next ≤ m.next; omega, fun b hb => rfl⟩ (k := k) hi ho hw hone
  rw [hb1] at e1
  cases e1
  exact ⟨b, m', hb1, e2, e3.rebase (Nat.le_refl _), e5, hb2⟩
/-- So many cells. -/
def rgC (n : Nat) (g : Nat → Value) : List Value := (List.range n).map g
theorem rgC_len {n : Nat} {g : Nat → Value} : (rgC n g).length = n := by simp [rgC]
theorem rgC_get {n i : Nat} {g : Nat → Value} (h : i < n) : (rgC n g)[i]? = some (g i) := by simp [rgC, h]
theorem rgC_set {n i : Nat} {g : Nat → Value} {v : Value} : (rgC n g).set i v = rgC n (fup g i v) := by
  refine List.ext_getElem (by simp [rgC]) fun j h1 h2 => ?_
  rw [List.getElem_set]
  simp only [rgC, List.getElem_map, List.getElem_range]
  by_cases e : i = j
  · rw [if_pos e, e, fup_at]
  · rw [if_neg e, fup_ne (Ne.symm e)]
def intV (x : Int) : Value := .int .i64 x
theorem fup_int {us : Nat → Int} {i : Nat} {x : Int} : fup (fun k => intV (us k)) i (intV x) = fun k => intV (fup us i x k) := by
  funext k; unfold fup; split <;> rfl
theorem fup_nat {to : Nat → Nat} {i x : Nat} : fup (fun k => intV (to k : Nat)) i (intV (x : Nat)) = fun k => intV (fup to i x k : Nat) := by
  funext k; unfold fup; split <;> rfl
def bmC (bl : Nat) (to : Nat → Nat) (usV : Value) : List Value := pt bl :: (rgC 64 (fun s => intV (to s : Nat)) ++ [usV])
theorem bmC_len {bl : Nat} {to : Nat → Nat} {usV : Value} : (bmC bl to usV).length = 66 := by simp [bmC, rgC]
theorem bmC_0 {bl : Nat} {to : Nat → Nat} {usV : Value} : (bmC bl to usV)[0]? = some (pt bl) := rfl
theorem bmC_65 {bl : Nat} {to : Nat → Nat} {usV : Value} : (bmC bl to usV)[65]? = some usV := by
  show (rgC 64 (fun s => intV (to s : Nat)) ++ [usV])[64]? = _
  rw [List.getElem?_append_right (by rw [rgC_len]; omega), rgC_len]; rfl
theorem bmC_t {bl : Nat} {to : Nat → Nat} {usV : Value} {t : Nat} (h : t < 64) : (bmC bl to usV)[1 + t]? = some (intV (to t : Nat)) := by
  rw [Nat.add_comm]
  show (rgC 64 _ ++ [usV])[t]? = _
  rw [List.getElem?_append_left (by rw [rgC_len]; omega), rgC_get h]
theorem bmC_set {bl : Nat} {to : Nat → Nat} {usV : Value} {t x : Nat} (h : t < 64) : (bmC bl to usV).set (1 + t) (intV (x : Nat)) = bmC bl (fup to t x) usV := by
  rw [Nat.add_comm]
  show pt bl :: (rgC 64 _ ++ [usV]).set t _ = _
  rw [List.set_append_left _ _ (by rw [rgC_len]; omega), rgC_set, fup_nat]; rfl
structure MtV (mE m : Mem) (bl bm bw f n : Nat) (csV gV rV usV : Value) (gs : Nat → BitVec 64) (r : Nat → Int) (to : Nat → Nat) (us : Nat → Int) (w : BitVec 32) : Prop where
  lo : Bk m bl [intV (f : Nat), csV, gV, rV] 4
  cl : aLen csV = some (intV (n : Nat))
  g : Sl m 1 n (rgC n fun i => u64 (gs i)) gV
  gl : SlLt m gV
  rr : Sl m 1 n (rgC n fun i => intV (r i)) rV
  rl : SlLt m rV
  bk : Bk m bm (bmC bl to usV) 66
  uo : Own mE m 1 n (rgC n fun i => intV (us i)) usV
  bwk : Bk m bw [u32 w] 1
  off : ∀ x ∈ bm :: bw :: vb usV, x ≠ bl ∧ x ∉ vb gV ∧ x ∉ vb rV
  d1 : bm ≠ bw
  d2 : bm ∉ vb usV
  d3 : bw ∉ vb usV
section
variable {mE : Mem} {bl bm bw f n : Nat} {csV gV rV usV : Value} {gs : Nat → BitVec 64} {r : Nat → Int} {to : Nat → Nat} {us : Nat → Int} {w : BitVec 32}
theorem MtV.next (h : MtV mE m bl bm bw f n csV gV rV usV gs r to us w) {m' : Mem} {to' : Nat → Nat} {us' : Nat → Int} {w' : BitVec 32} (hU : Upd m m' (bm :: bw :: vb usV)) (h1 : Bk m' bm (bmC bl to' usV) 66) (h2 : Own mE m' 1 n (rgC n fun i => intV (us' i)) usV) (h3 : Bk m' bw [u32 w'] 1) :
    MtV mE m' bl bm bw f n csV gV rV usV gs r to' us' w' :=
  ⟨h.lo.upd hU (fun hm => (h.off bl hm).1 rfl), h.cl, h.g.upd h.gl (SlOff.vb_iff.2 fun x hx hm => (h.off x hm).2.1 hx) hU, h.gl.upd hU, h.rr.upd h.rl (SlOff.vb_iff.2 fun x hx hm => (h.off x hm).2.2 hx) hU, h.rl.upd hU, h1, h2, h3, h.off, h.d1, h.d2, h.d3⟩
theorem MtV.setW (h : MtV mE m bl bm bw f n csV gV rV usV gs r to us w) {w' : BitVec 32} : MtV mE (m.set bw (some (.cells [u32 w'] (some 1)))) bl bm bw f n csV gV rV usV gs r to us w' ∧ Upd m (m.set bw (some (.cells [u32 w'] (some 1)))) (bm :: bw :: vb usV) := by
  have hU : Upd m (m.set bw (some (.cells [u32 w'] (some 1)))) [bw] := Upd.set (by simp)
  have hU2 : Upd m (m.set bw (some (.cells [u32 w'] (some 1)))) (bm :: bw :: vb usV) := Upd.set (by simp)
  exact ⟨h.next hU2 (h.bk.upd hU (by simpa using h.d1)) (h.uo.updq hU (fun x hx hm => by rw [List.mem_singleton] at hm; exact h.d3 (hm ▸ hx))) ⟨by simp [Mem.set], h.bwk.lt⟩, hU2⟩
theorem MtV.setT (h : MtV mE m bl bm bw f n csV gV rV usV gs r to us w) {t x : Nat} : MtV mE (m.set bm (some (.cells (bmC bl (fup to t x) usV) (some 66)))) bl bm bw f n csV gV rV usV gs r (fup to t x) us w ∧ Upd m (m.set bm (some (.cells (bmC bl (fup to t x) usV) (some 66)))) (bm :: bw :: vb usV) := by
  have hU : Upd m (m.set bm (some (.cells (bmC bl (fup to t x) usV) (some 66)))) [bm] := Upd.set (by simp)
  have hU2 : Upd m (m.set bm (some (.cells (bmC bl (fup to t x) usV) (some 66)))) (bm :: bw :: vb usV) := Upd.set (by simp)
  exact ⟨h.next hU2 ⟨by simp [Mem.set], h.bk.lt⟩ (h.uo.updq hU (fun y hy hm => by rw [List.mem_singleton] at hm; exact h.d2 (hm ▸ hy))) (h.bwk.upd hU (by simpa using h.d1.symm)), hU2⟩
theorem MtV.stT (h : MtV mE m bl bm bw f n csV gV rV usV gs r to us w) {t x : Nat} (ht : t < 64) : stB m bm (m.blk bm) (1 + t) [.int .i64 (x : Nat)] = some (m.set bm (some (.cells (bmC bl (fup to t x) usV) (some 66)))) := by
  rw [h.bk.at_, stB_c, if_pos ⟨by rw [bmC_len]; simp; omega, rfl⟩, writeL_set (by rw [bmC_len]; omega)]
  rw [show (Value.int .i64 ((x : Nat) : Int)) = intV (x : Nat) from rfl, bmC_set ht]
theorem MtV.l0 (h : MtV mE m bl bm bw f n csV gV rV usV gs r to us w) : ldW (m.blk bm) 0 = some (pt bl) := by rw [h.bk.at_, ldW_c, bmC_0]
theorem MtV.l65 (h : MtV mE m bl bm bw f n csV gV rV usV gs r to us w) : ldW (m.blk bm) 65 = some usV := by rw [h.bk.at_, ldW_c, bmC_65]
theorem MtV.lt (h : MtV mE m bl bm bw f n csV gV rV usV gs r to us w) {t : Nat} (ht : t < 64) : ldW (m.blk bm) (1 + t) = some (.int .i64 (to t : Nat)) := by rw [h.bk.at_, ldW_c, bmC_t ht]; rfl
theorem MtV.gg (h : MtV mE m bl bm bw f n csV gV rV usV gs r to us w) {i : Nat} (hi : i < n) : ∃ p, aIdxS 1 gV (.int .i64 (i : Nat)) = some p ∧ aLoad false 1 m p = some (u64 (gs i)) := by
  obtain ⟨p, a, b⟩ := h.g.get (k := .i64) hi
  exact ⟨p, a, by rw [b, rgC_get hi]⟩
theorem MtV.rg (h : MtV mE m bl bm bw f n csV gV rV usV gs r to us w) {i : Nat} (hi : i < n) : ∃ p, aIdxS 1 rV (.int .i64 (i : Nat)) = some p ∧ aLoad false 1 m p = some (.int .i64 (r i)) := by
  obtain ⟨p, a, b⟩ := h.rr.get (k := .i64) hi
  exact ⟨p, a, by rw [b, rgC_get hi]; rfl⟩
theorem MtV.ug (h : MtV mE m bl bm bw f n csV gV rV usV gs r to us w) {i : Nat} (hi : i < n) : ∃ p, aIdxS 1 usV (.int .i64 (i : Nat)) = some p ∧ aLoad false 1 m p = some (.int .i64 (us i)) := by
  obtain ⟨p, a, b⟩ := h.uo.sl.get (k := .i64) hi
  exact ⟨p, a, by rw [b, rgC_get hi]; rfl⟩
theorem MtV.putU (h : MtV mE m bl bm bw f n csV gV rV usV gs r to us w) {i : Nat} (hi : i < n) {x : Int} : ∃ p m', aIdxS 1 usV (.int .i64 (i : Nat)) = some p ∧ aStore 1 m p (.int .i64 x) = some m' ∧ MtV mE m' bl bm bw f n csV gV rV usV gs r to (fup us i x) w ∧ Upd m m' (bm :: bw :: vb usV) := by
  obtain ⟨b, m', e1, e2, e3, e4, e5⟩ := h.uo.putB (w := .int .i64 x) (k := .i64) (i := i) (o := 0) hi (by omega) rfl rfl
  have hU : Upd m m' (bm :: bw :: vb usV) := e4.trans (Upd.refl _ _) (fun x hx => by simp [hx]) (fun x hx => .inl hx)
  simp only [Nat.mul_one, Nat.add_zero] at e1 e2 e3
  rw [show (Value.int .i64 x) = intV x from rfl, rgC_set, fup_int] at e3
  exact ⟨_, m', e1, e2, h.next hU (h.bk.upd e4 h.d2) e3 (h.bwk.upd e4 h.d3), hU⟩
end
theorem inB_nat' {x : BitVec 64} {j : Nat} : inB x (j : Int) = x.getLsbD j := by
  by_cases h : j < 64
  · rw [inB_of (by omega) (by omega), Int.toNat_natCast]
  · rw [inB_not (by omega)]
    exact (BitVec.getLsbD_of_ge x j (by omega)).symm
def metF (w : BitVec 32) : Nat → Bool := fun i => w.getLsbD i
theorem metF_or {w : BitVec 32} {i k : Nat} (hi : i < 32) : metF (w ||| 1#32 <<< i) k = (metF w k || decide (k = i)) := by
  unfold metF
  rw [BitVec.getLsbD_or]
  congr 1
  rw [BitVec.getLsbD_shiftLeft]
  by_cases e : k = i
  · subst e; simp [hi]
  · by_cases q : k < i
    · simp [e, q]
    · have : (1#32).getLsbD (k - i) = false := by
        rw [BitVec.getLsbD_one]; simp; omega
      simp [e, this]
/-- How many cores are not met. -/
def unm (n : Nat) (w : BitVec 32) : Int := S (fun i => if metF w i = true then 0 else 1) n
theorem unm_le {n : Nat} {w w' : BitVec 32} (h : ∀ i, metF w i = true → metF w' i = true) : unm n w' ≤ unm n w := S_le fun i _ => by
  by_cases e : metF w i = true
  · rw [if_pos e, if_pos (h i e)]; omega
  · rw [if_neg e]; split <;> omega
theorem unm_or {n : Nat} {w : BitVec 32} {i : Nat} (hi : i < n) (h32 : i < 32) (h : metF w i = false) : unm n (w ||| 1#32 <<< i) + 1 = unm n w := by
  have one : S (fun k => if k = i then (1 : Int) else 0) n = 1 := S_one hi
  have e : unm n w = S (fun k => (if metF (w ||| 1#32 <<< i) k = true then (0 : Int) else 1) + if k = i then 1 else 0) n := S_congr fun k _ => by
    rw [metF_or h32]
    by_cases e : k = i
    · subst e; simp [h]
    · simp [e]
  rw [e, S_add, one]; rfl
theorem unm_nonneg {n : Nat} {w : BitVec 32} : 0 ≤ unm n w := by
  have : S (fun _ => (0 : Int)) n ≤ unm n w := S_le fun i _ => by split <;> omega
  rw [S_zero] at this; exact this
end Go.Am


/- Weave: push and try, walked. -/
set_option linter.unusedVariables false
set_option linter.unusedSimpArgs false
namespace Go.Am
open Classical
variable {m : Mem}

def gF (gs : Nat → BitVec 64) : Nat → Nat → Bool := fun i s => (gs i).getLsbD s
theorem cntT_nonneg {f : Nat} {to : Nat → Nat} {i : Nat} : 0 ≤ cntT f to i := by
  have : S (fun _ => (0 : Int)) f ≤ cntT f to i := S_le fun s _ => by split <;> omega
  rw [S_zero] at this; exact this
theorem PushS.weak {n f : Nat} {G : Nat → Nat → Bool} {r : Nat → Int} {to : Nat → Nat} {us : Nat → Int} {met met1 : Nat → Bool} {i : Nat} {to' : Nat → Nat} {us' : Nat → Int} (h : PushS n f G r to us met1 i to' us') (hm : ∀ k, met k = true → met1 k = true) : PushS n f G r to us met i to' us' :=
  ⟨fun s => (h.ch s).imp id fun ⟨k, k1, k2, k3⟩ => ⟨k, k1, k2, k3.imp id fun g => (by
      cases e : met k with
      | false => rfl
      | true => rw [hm k e] at g; cases g)⟩, h.v, h.z, h.c, h.rm, h.ri, h.M⟩
/-- What try tells. -/
def TryO (mE : Mem) (bl bm bw f n : Nat) (csV gV rV usV : Value) (gs : Nat → BitVec 64) (r : Nat → Int) (to : Nat → Nat) (us : Nat → Int) (w : BitVec 32) (t : Nat) (m : Mem) (v : Value) (m' : Mem) : Prop := ∃ w' to' us', Upd m m' (bm :: bw :: vb usV) ∧ MtV mE m' bl bm bw f n csV gV rV usV gs r to' us' w' ∧
    ((v = .bool false ∧ to' = to ∧ us' = us ∧ TryF n f (gF gs) r to us (metF w) t (metF w')) ∨ (v = .bool true ∧ TryS n f (gF gs) r to us (metF w) t to' us'))
def PushO (mE : Mem) (bl bm bw f n : Nat) (csV gV rV usV : Value) (gs : Nat → BitVec 64) (r : Nat → Int) (to : Nat → Nat) (us : Nat → Int) (w : BitVec 32) (i : Nat) (m : Mem) (v : Value) (m' : Mem) : Prop := ∃ w' to' us', Upd m m' (bm :: bw :: vb usV) ∧ MtV mE m' bl bm bw f n csV gV rV usV gs r to' us' w' ∧
      ((v = .bool false ∧ to' = to ∧ us' = us ∧ Clo n f (gF gs) r to us (metF w) (metF w') ∧ ∀ s, s < f → to s = i + 1 → ∀ j, j < n → gF gs j s = true → metF w' j = true) ∨ (v = .bool true ∧ PushS n f (gF gs) r to us (metF w) i to' us'))
def TrySp (k : Int) : Prop := ∀ {m mE : Mem} {bl bm bw f n : Nat} {csV gV rV usV : Value} {gs : Nat → BitVec 64} {r : Nat → Int} {to : Nat → Nat} {us : Nat → Int} {w : BitVec 32} {t : Nat},
  MtV mE m bl bm bw f n csV gV rV usV gs r to us w → Va n f (gF gs) r to us → n ≤ 16 → f ≤ 64 → (∀ i, i < n → r i ≤ 64) → t < f → (to t = 0 ∨ ∃ i, to t = i + 1 ∧ metF w i = true) → unm n w ≤ k →
  WC R F.weave_match_try [pt bm, .int .i64 (t : Nat), pt bw] m fun v m' => TryO mE bl bm bw f n csV gV rV usV gs r to us w t m v m'
theorem Upd.sameF {a b c : Mem} {fp : List Nat} (h : Upd a b fp) (k : Upd b c fp) : Upd a c fp := h.trans k (fun _ h => h) (fun _ h => .inl h)
set_option maxHeartbeats 4000000 in
theorem push_spec {k : Int} (IH : TrySp k) {mE : Mem} {bl bm bw f n : Nat} {csV gV rV usV : Value} {gs : Nat → BitVec 64} {r : Nat → Int} {to : Nat → Nat} {us : Nat → Int} {w : BitVec 32} {i : Nat}
    (h : MtV mE m bl bm bw f n csV gV rV usV gs r to us w) (hv : Va n f (gF gs) r to us) (hn : n ≤ 16) (hf : f ≤ 64) (hr : ∀ i, i < n → r i ≤ 64) (hi : i < n) (hm : metF w i = true) (hk : unm n w ≤ k) :
    WC R F.weave_match_push [pt bm, .int .i64 (i : Nat), pt bw] m fun v m' => PushO mE bl bm bw f n csV gV rV usV gs r to us w i m v m' := by
  refine WC.of R.weave_match_push rfl ?_
  have l0 := h.l0
  have lo := h.lo
  simp only [RC.weave_match_push, pt, go_sem, ruB, l0, lo.at_, intV]
  refine WL.of (fun z e m' => ∃ (s : Nat) (w1 : BitVec 32), s ≤ f ∧ z = f - s ∧ e = [(0, pt bm), (1, .int .i64 (i : Nat)), (2, pt bw), (14, .int .i64 (f : Nat)), (15, .int .i64 (s : Nat))] ∧ Upd m m' (bm :: bw :: vb usV) ∧ MtV mE m' bl bm bw f n csV gV rV usV gs r to us w1 ∧ Clo n f (gF gs) r to us (metF w) (metF w1) ∧ ∀ s', s' < s → to s' = i + 1 → ∀ j, j < n → gF gs j s' = true → metF w1 j = true) f
    ⟨0, w, by omega, by omega, by simp only [pt, go_sem] <;> rfl, Upd.refl _ _, h, Clo.refl, fun s' hs' => by omega⟩ ?_
  rintro _ _ m1 ⟨s, w1, hs, rfl, rfl, hU1, h1, hc1, hg1⟩
  simp only [RB.weave_match_push_1, pt, go_sem]
  have s1 := step1 (show s < 1000000 by omega)
  have s2 := step1 (show i < 1000000 by omega)
  by_cases g : s < f
  rotate_left
  · have e1 : decide (((s : Nat) : Int) < ((f : Nat) : Int)) = false := decide_eq_false (by omega)
    try simp only [go_sem, ruB, e1]
    exact ⟨w1, to, us, hU1, h1, .inl ⟨rfl, rfl, rfl, hc1, fun s' hs' => hg1 s' (by omega)⟩⟩
  have e1 : decide (((s : Nat) : Int) < ((f : Nat) : Int)) = true := decide_eq_true (by omega)
  have lt := h1.lt (show s < 64 by omega)
  have b1 : (0 : Int) ≤ ((s : Nat) : Int) ∧ ((s : Nat) : Int) < 64 := by omega
  by_cases e : to s = i + 1
  rotate_left
  · have e2 : (((to s : Nat) : Int) != ((i + 1 : Nat) : Int)) = true := by rw [bne_iff_ne]; omega
    try simp only [go_sem, ruB, e1, lt, s1, s2, e2, b1.1, b1.2, Int.toNat_natCast]
    exact ⟨f - (s + 1), by omega, s + 1, w1, by omega, rfl, rfl, hU1, h1, hc1, fun s' hs' ht => by
      by_cases q : s' = s
      · exact absurd (q ▸ ht) e
      · exact hg1 s' (by omega) ht⟩
  have e2 : (((to s : Nat) : Int) != ((i + 1 : Nat) : Int)) = false := by rw [bne_eq_false_iff_eq]; omega
  try simp only [go_sem, ruB, e1, lt, s1, s2, e2, b1.1, b1.2, Int.toNat_natCast]
  refine gC.of (IH h1 hv hn hf hr g (.inr ⟨i, e, hc1.1 i hm⟩) (Int.le_trans (unm_le hc1.1) hk)) ?_
  rintro v m2 ⟨w2, to2, us2, hU2, h2, ⟨rfl, rfl, rfl, hF⟩ | ⟨rfl, hS⟩⟩
  · try simp only [go_sem, ruB, s1]
    exact ⟨f - (s + 1), by omega, s + 1, w2, by omega, rfl, rfl, hU1.sameF hU2, h2, hc1.trans hF.clo, fun s' hs' ht => by
      by_cases q : s' = s
      · subst q; exact hF.gap
      · exact fun j hj hG => hF.clo.1 j (hg1 s' (by omega) ht j hj hG)⟩
  · have l65 := h2.l65
    obtain ⟨p, u1, u2⟩ := h2.ug hi
    obtain ⟨p', m3, u1', u3, h3, hU3⟩ := h2.putU hi (x := us2 i - 1)
    have hp := Option.some.inj (u1.symm.trans u1')
    subst hp
    have c := hS.c i hi
    have c2 := hS.rm i hi
    have c3 := hr i hi
    have c4 := @cntT_nonneg f to2 i
    rw [if_pos e] at c
    have w1' : IntKind.wrap .i64 (us2 i - 1) = us2 i - 1 := wrap_i64 (by omega) (by omega)
    try simp only [go_sem, ruB, l65, u1, u2, u3, w1']
    exact ⟨w2, to2, fup us2 i (us2 i - 1), (hU1.sameF hU2).sameF hU3, h3, .inr ⟨rfl, (pushS_of_try hi g e hS).weak hc1.1⟩⟩

set_option maxHeartbeats 8000000 in
theorem try_step {k : Int} (IH : k = 0 ∨ TrySp (k - 1)) : TrySp k := by
  intro m mE bl bm bw f n csV gV rV usV gs r to us w t h hv hn hf hr ht htt hk
  refine WC.of R.weave_match_try rfl ?_
  have l0 := h.l0
  have lo := h.lo
  have cl := h.cl
  simp only [intV] at cl
  simp only [RC.weave_match_try, pt, go_sem, ruB, l0, lo.at_, intV, cl]
  refine WL.of (fun z e m' => ∃ (i : Nat) (w1 : BitVec 32), i ≤ n ∧ z = n - i ∧ e = [(0, pt bm), (1, .int .i64 (t : Nat)), (2, pt bw), (15, .int .i64 (n : Nat)), (16, .int .i64 (i : Nat))] ∧ Upd m m' (bm :: bw :: vb usV) ∧ MtV mE m' bl bm bw f n csV gV rV usV gs r to us w1 ∧ Clo n f (gF gs) r to us (metF w) (metF w1) ∧ ∀ j, j < i → gF gs j t = true → metF w1 j = true) n
    ⟨0, w, by omega, by omega, by simp only [pt, go_sem] <;> rfl, Upd.refl _ _, h, Clo.refl, fun s' hs' => by omega⟩ ?_
  rintro _ _ m1 ⟨i, w1, hi, rfl, rfl, hU1, h1, hc1, hg1⟩
  simp only [RB.weave_match_try_1, pt, go_sem]
  have s1 := step1 (show i < 1000000 by omega)
  by_cases g : i < n
  rotate_left
  · have e1 : decide (((i : Nat) : Int) < ((n : Nat) : Int)) = false := decide_eq_false (by omega)
    try simp only [go_sem, ruB, e1]
    exact ⟨w1, to, us, hU1, h1, .inl ⟨rfl, rfl, rfl, hc1, fun j hj => hg1 j (by omega)⟩⟩
  have e1 : decide (((i : Nat) : Int) < ((n : Nat) : Int)) = true := decide_eq_true (by omega)
  have l01 := h1.l0
  have lo1 := h1.lo
  obtain ⟨p, g1, g2⟩ := h1.gg g
  try simp only [go_sem, ruB, e1, l01, lo1.at_, g1, g2]
  refine gC.of mask_Has_spec ?_
  rintro _ mx ⟨rfl, hmx⟩
  replace hmx := hmx.symm
  subst hmx
  have bw1 := h1.bwk
  have hib : inB (gs i) (t : Nat) = gF gs i t := inB_nat'
  rw [hib]
  by_cases e : gF gs i t = true
  rotate_left
  · have e' : gF gs i t = false := by simpa using e
    try simp only [go_sem, ruB, e', s1]
    exact ⟨n - (i + 1), by omega, i + 1, w1, by omega, rfl, rfl, hU1, h1, hc1, fun j hj hG => by
      by_cases q : j = i
      · subst q; exact absurd hG e
      · exact hg1 j (by omega) hG⟩
  have i0 : (0 : Int) ≤ ((i : Nat) : Int) := by omega
  by_cases e2 : metF w1 i = true
  · have e2' : w1.getLsbD i = true := e2
    try simp only [go_sem, ruB, e, bw1.at_, i0, Int.toNat_natCast, bit32, e2', s1]
    exact ⟨n - (i + 1), by omega, i + 1, w1, by omega, rfl, rfl, hU1, h1, hc1, fun j hj hG => by
      by_cases q : j = i
      · subst q; exact e2
      · exact hg1 j (by omega) hG⟩
  have e2' : w1.getLsbD i = false := by
    have : ¬ w1.getLsbD i = true := e2
    simpa using this
  obtain ⟨h2, hU2⟩ := h1.setW (w' := w1 ||| 1#32 <<< i)
  have n1 : (bm = bw) = False := eq_false h1.d1
  have n2 : (bl = bw) = False := eq_false (fun q => (h1.off bw (by simp)).1 q.symm)
  have l65 := h1.l65
  obtain ⟨pu, u1, u2⟩ := h2.ug g
  obtain ⟨pr, r1, r2⟩ := h2.rg g
  have met2 := @metF_or w1 i
  have unm1 := unm_or g (by omega) (show metF w1 i = false from e2')
  have unm2 : unm n (w1 ||| 1#32 <<< i) ≤ k - 1 := by have := unm_le (n := n) hc1.1; omega
  have hnn := @unm_nonneg n (w1 ||| 1#32 <<< i)
  have mono1 : ∀ q, metF w1 q = true → metF (w1 ||| 1#32 <<< i) q = true := fun q hq => by rw [metF_or (by omega), hq]; rfl
  have mI : metF (w1 ||| 1#32 <<< i) i = true := by rw [metF_or (by omega)]; simp
  have weakm : ∀ q, metF (w1 ||| 1#32 <<< i) q = false → metF w q = false := fun q hq => by
    cases e9 : metF w q with
    | false => rfl
    | true => rw [mono1 q (hc1.1 q e9)] at hq; cases hq
  have wi0 : metF w i = false := by
    cases e9 : metF w i with
    | false => rfl
    | true => exact absurd (hc1.1 i e9) e2
  have ui := hv.c i g
  have ui2 := hv.rm i g
  have ui3 := hr i g
  have ui4 := @cntT_nonneg f to i
  by_cases lt : us i < r i
  · have lt' : decide (us i < r i) = true := decide_eq_true lt
    have w1' : IntKind.wrap .i64 (us i + 1) = us i + 1 := wrap_i64 (by omega) (by omega)
    obtain ⟨p', m3, u1', u3, h3, hU3⟩ := h2.putU g (x := us i + 1)
    have hp := Option.some.inj (u1.symm.trans u1')
    subst hp
    have b0 := h3.bk.at_
    obtain ⟨h4, hU4⟩ := h3.setT (t := t) (x := i + 1)
    have st := h3.stT (t := t) (x := i + 1) (by omega)
    have t0 : (0 : Int) ≤ ((t : Nat) : Int) ∧ ((t : Nat) : Int) < 64 := by omega
    try simp only [go_sem, ruB, e, bw1.at_, i0, Int.toNat_natCast, bit32, e2', s1, ↓cells_u32, one_u32, n1, n2, l65, l01, lo1.at_, u1, r1, u2, r2, lt', w1', u3, st, t0.1, t0.2]
    exact ⟨_, _, _, ((hU1.sameF hU2).sameF hU3).sameF hU4, h4, .inr ⟨rfl, tryS_of_push hv g ht e wi0 weakm htt (pushS_self hv g lt)⟩⟩
  · have lt' : decide (us i < r i) = false := decide_eq_false lt
    try simp only [go_sem, ruB, e, bw1.at_, i0, Int.toNat_natCast, bit32, e2', s1, ↓cells_u32, one_u32, n1, n2, l65, l01, lo1.at_, u1, r1, u2, r2, lt']
    rcases IH with rfl | IH
    · exfalso; omega
    refine gC.of (push_spec IH h2 hv hn hf hr g mI unm2) ?_
    rintro v m3 ⟨w3, to3, us3, hU3, h3, ⟨rfl, rfl, rfl, hF, hF2⟩ | ⟨rfl, hS⟩⟩
    · try simp only [go_sem, ruB, s1]
      have cl3 : Clo n f (gF gs) r to3 us3 (metF w1) (metF w3) := ⟨fun q hq => hF.1 q (mono1 q hq), fun q hq hm3 => by
        rcases hF.2 q hq hm3 with e9 | e9
        · rw [metF_or (by omega)] at e9
          by_cases e8 : q = i
          · subst e8; exact .inr ⟨by omega, hF2⟩
          · exact .inl (by simpa [e8] using e9)
        · exact .inr e9⟩
      exact ⟨n - (i + 1), by omega, i + 1, w3, by omega, rfl, rfl, (hU1.sameF hU2).sameF hU3, h3, hc1.trans cl3, fun j hj hG => by
        by_cases q : j = i
        · subst q; exact hF.1 _ mI
        · exact cl3.1 j (hg1 j (by omega) hG)⟩
    · have l653 := h3.l65
      obtain ⟨pv, v1, v2⟩ := h3.ug g
      obtain ⟨p', m4, v1', v3, h4, hU4⟩ := h3.putU g (x := us3 i + 1)
      have hp := Option.some.inj (v1.symm.trans v1')
      subst hp
      obtain ⟨h5, hU5⟩ := h4.setT (t := t) (x := i + 1)
      have st := h4.stT (t := t) (x := i + 1) (by omega)
      have t0 : (0 : Int) ≤ ((t : Nat) : Int) ∧ ((t : Nat) : Int) < 64 := by omega
      have ci := hS.c i g
      have ri := hS.ri
      have ui5 := @cntT_nonneg f to3 i
      have w1' : IntKind.wrap .i64 (us3 i + 1) = us3 i + 1 := wrap_i64 (by omega) (by omega)
      try simp only [go_sem, ruB, l653, v1, v2, v3, w1', s1, st, t0.1, t0.2, Int.toNat_natCast]
      exact ⟨_, _, _, (((hU1.sameF hU2).sameF hU3).sameF hU4).sameF hU5, h5, .inr ⟨rfl, tryS_of_push hv g ht e wi0 weakm htt hS⟩⟩
theorem try_nat (k : Nat) : TrySp (k : Nat) := by
  induction k with
  | zero => exact @try_step _ (.inl rfl)
  | succ k ih =>
    have e : (((k + 1 : Nat) : Int) - 1) = ((k : Nat) : Int) := by omega
    have h2 : TrySp (((k + 1 : Nat) : Int) - 1) := @(e ▸ @ih)
    exact @try_step _ (.inr @h2)
/-- Try, whatever was met. -/
theorem try_spec {mE : Mem} {bl bm bw f n : Nat} {csV gV rV usV : Value} {gs : Nat → BitVec 64} {r : Nat → Int} {to : Nat → Nat} {us : Nat → Int} {w : BitVec 32} {t : Nat}
    (h : MtV mE m bl bm bw f n csV gV rV usV gs r to us w) (hv : Va n f (gF gs) r to us) (hn : n ≤ 16) (hf : f ≤ 64) (hr : ∀ i, i < n → r i ≤ 64) (ht : t < f) (htt : to t = 0 ∨ ∃ i, to t = i + 1 ∧ metF w i = true) :
    WC R F.weave_match_try [pt bm, .int .i64 (t : Nat), pt bw] m fun v m' => TryO mE bl bm bw f n csV gV rV usV gs r to us w t m v m' := by
  have hk : unm n w ≤ ((unm n w).toNat : Nat) := by have := @unm_nonneg n w; omega
  exact try_nat _ h hv hn hf hr ht htt hk
end Go.Am


/- Weave: how many ticks can be had: the walk. -/
set_option linter.unusedVariables false
set_option linter.unusedSimpArgs false
namespace Go.Am
open Classical
variable {m : Mem}

/-- The loom. -/
structure LmV (m : Mem) (bl f n : Nat) (csV gV rV : Value) (gs : Nat → BitVec 64) (r : Nat → Int) : Prop where
  lo : Bk m bl [intV (f : Nat), csV, gV, rV] 4
  cl : aLen csV = some (intV (n : Nat))
  g : Sl m 1 n (rgC n fun i => u64 (gs i)) gV
  gl : SlLt m gV
  rr : Sl m 1 n (rgC n fun i => intV (r i)) rV
  rl : SlLt m rV
theorem LmV.keep {m m' : Mem} {bl f n : Nat} {csV gV rV : Value} {gs : Nat → BitVec 64} {r : Nat → Int} (h : LmV m bl f n csV gV rV gs r) (hx : Ext m m') : LmV m' bl f n csV gV rV gs r :=
  ⟨h.lo.keep hx, h.cl, h.g.keep h.gl hx, h.gl.keep hx, h.rr.keep h.rl hx, h.rl.keep hx⟩
/-- What most tells. -/
structure MostO (n f : Nat) (G : Nat → Nat → Bool) (r : Nat → Int) (fr : Nat) (lim N : Int) : Prop where
  i : ∃ t to us, MI n f G r fr t to us N ∧ (t = f ∨ lim ≤ N)
  le : N ≤ lim ∨ N = 0
theorem nzT_nonneg {f : Nat} {to : Nat → Nat} : 0 ≤ nzT f to := by
  have : S (fun _ => (0 : Int)) f ≤ nzT f to := S_le fun s _ => by split <;> omega
  rw [S_zero] at this; exact this
theorem nzT_le {f : Nat} {to : Nat → Nat} : nzT f to ≤ f := by
  have h : nzT f to ≤ S (fun _ => (1 : Int)) f := S_le fun s _ => by split <;> omega
  have : ∀ n : Nat, S (fun _ => (1 : Int)) n = n := fun n => by
    induction n with
    | zero => rfl
    | succ n ih => simp only [S]; rw [ih]; omega
  rw [this] at h; exact h
theorem zerosR {n : Nat} : zeros [.int .i64 0] n = rgC n fun _ => intV 0 := by
  rw [zeros_int]
  refine List.ext_getElem (by simp [rgC, intsZ]) fun j h1 h2 => by simp [rgC, intV, intsZ]
theorem rgC_one {n : Nat} {g : Nat → Int} : oneCells (rgC n fun i => intV (g i)) = true := by
  unfold oneCells rgC
  simp [intV, Value.oneCell']
def MlO (m0 : Mem) (bl bm n f : Nat) (G : Nat → Nat → Bool) (r : Nat → Int) (fr : Nat) (lim : Int) (e : Env) (m' : Mem) : Prop := ∃ N rs, e = (0, pt bl) :: (2, .int .i64 lim) :: (7, pt bm) :: (8, .int .i64 N) :: rs ∧ Ext m0 m' ∧ MostO n f G r fr lim N
set_option maxHeartbeats 8000000 in
theorem most_loop {m0 : Mem} {bl bm f n fr : Nat} {csV gV rV usV : Value} {gs : Nat → BitVec 64} {r : Nat → Int} {lim : Int} (h : LmV m0 bl f n csV gV rV gs r) (hn : n ≤ 16) (hf : f ≤ 64) (hr : ∀ i, i < n → 0 ≤ r i ∧ r i ≤ 64) (hfr : fr ≤ f)
    (hx : Ext m0 m) (hb : Bk m bm (bmC bl (fun _ => 0) usV) 66) (hbm : m0.next ≤ bm) (hO : Own m0 m 1 n (rgC n fun _ => intV 0) usV) (hd : bm ∉ vb usV) :
    WL R [0, 2, 7, 8, 9] RB.weave_loom_most_1 [(0, pt bl), (2, .int .i64 lim), (7, pt bm), (8, .int .i64 0), (9, .int .i64 (fr : Nat))] m fun y e m' => y = .exit 0 ∧ MlO m0 bl bm n f (gF gs) r fr lim e m' := by
  refine WL.of (fun z e m' => ∃ (t : Nat) (to : Nat → Nat) (us : Nat → Int) (N : Int), fr ≤ t ∧ t ≤ f ∧ z = f - t ∧ e = [(0, pt bl), (2, .int .i64 lim), (7, pt bm), (8, .int .i64 N), (9, .int .i64 (t : Nat))] ∧ Ext m0 m' ∧ Bk m' bm (bmC bl to usV) 66 ∧ Own m0 m' 1 n (rgC n fun i => intV (us i)) usV ∧ MI n f (gF gs) r fr t to us N ∧ (N ≤ lim ∨ N = 0)) (f - fr)
    ⟨fr, _, fun _ => 0, 0, by omega, by omega, by omega, by simp only [pt, go_sem] <;> rfl, hx, hb, hO, MI.start fun i hi => (hr i hi).1, .inr rfl⟩ ?_
  rintro _ _ m1 ⟨t, to, us, N, ht1, ht2, rfl, rfl, hx1, hb1, hO1, hI, hN⟩
  have h1 := h.keep hx1
  have lo1 := h1.lo.at_
  simp only [intV] at lo1
  simp only [RB.weave_loom_most_1, pt, go_sem, ruB, lo1]
  have s1 := step1 (show t < 1000000 by omega)
  by_cases g : t < f
  rotate_left
  · have e1 : decide (((t : Nat) : Int) < ((f : Nat) : Int)) = false := decide_eq_false (by omega)
    try simp only [go_sem, ruB, e1]
    exact ⟨N, _, rfl, hx1, ⟨t, to, us, hI, .inl (by omega)⟩, hN⟩
  have e1 : decide (((t : Nat) : Int) < ((f : Nat) : Int)) = true := decide_eq_true (by omega)
  by_cases g2 : N < lim
  rotate_left
  · have e2 : decide (N < lim) = false := decide_eq_false g2
    try simp only [go_sem, ruB, e1, e2]
    exact ⟨N, _, rfl, hx1, ⟨t, to, us, hI, .inr (by omega)⟩, hN⟩
  have e2 : decide (N < lim) = true := decide_eq_true g2
  try simp only [go_sem, ruB, e1, e2, ↓cells_u32, one_u32]
  have hx2 : Ext m1 (m1.new (.cells [u32 0#32] (some 1))) := Ext.new
  have hb2 : Bk (m1.new (.cells [u32 0#32] (some 1))) m1.next [u32 0#32] 1 := Bk.new
  have hn2 : (m1.new (.cells [u32 0#32] (some 1))).next = m1.next + 1 := rfl
  generalize m1.new (.cells [u32 0#32] (some 1)) = m2 at hx2 hb2 hn2 ⊢
  have hb12 := hb1.keep hx2
  have hx02 := hx1.trans hx2
  have h2 := h.keep hx02
  have l1 := hb1.lt
  have n1 := hx1.next
  have gO := hO1.ge
  have lO := SlLt.vb_iff.1 hO1.lt
  have ll := h.lo.lt
  have hM : MtV m0 m2 bl bm m1.next f n csV gV rV usV gs r to us 0#32 := by
    refine ⟨h2.lo, h2.cl, h2.g, h2.gl, h2.rr, h2.rl, hb12, hO1.keep hx2, hb2, fun x hx' => ?_, by omega, hd, fun hm => by have := lO _ hm; omega⟩
    have hx9 : m0.next ≤ x := by
      rcases List.mem_cons.1 hx' with rfl | hx'
      · exact hbm
      rcases List.mem_cons.1 hx' with rfl | hx'
      · omega
      · exact gO x hx'
    exact ⟨by omega, fun hm => by have := SlLt.vb_iff.1 h.gl x hm; omega, fun hm => by have := SlLt.vb_iff.1 h.rl x hm; omega⟩
  refine gC.of (try_spec hM hI.va hn hf (fun i hi => (hr i hi).2) g (.inl (hI.out t (by omega)))) ?_
  have fpE : ∀ x ∈ bm :: m1.next :: vb usV, m0.next ≤ x := fun x hx' => by
    rcases List.mem_cons.1 hx' with rfl | hx'
    · exact hbm
    rcases List.mem_cons.1 hx' with rfl | hx'
    · omega
    · exact gO x hx'
  have m0f : metF 0#32 = fun _ => false := by funext i; unfold metF; simp
  rintro v m3 ⟨w3, to3, us3, hU3, h3, ⟨rfl, rfl, rfl, hF⟩ | ⟨rfl, hS⟩⟩
  · rw [m0f] at hF
    try simp only [go_sem, ruB, s1]
    exact ⟨f - (t + 1), by omega, t + 1, to3, us3, N, by omega, by omega, rfl, rfl, hU3.ext_of hx02 fpE, h3.bk, h3.uo, hI.fail hF, hN⟩
  · rw [m0f] at hS
    have nb := hI.num
    have nb1 := @nzT_nonneg f to
    have nb2 := @nzT_le f to
    have w1 : IntKind.wrap .i64 (N + 1) = N + 1 := wrap_i64 (by omega) (by omega)
    try simp only [go_sem, ruB, s1, w1]
    exact ⟨f - (t + 1), by omega, t + 1, to3, us3, N + 1, by omega, by omega, rfl, rfl, hU3.ext_of hx02 fpE, h3.bk, h3.uo, hI.succ g ht1 hS, by omega⟩
set_option maxHeartbeats 8000000 in
theorem most_spec {bl f n fr : Nat} {csV gV rV : Value} {gs : Nat → BitVec 64} {r : Nat → Int} {lim : Int} (h : LmV m bl f n csV gV rV gs r) (hn : n ≤ 16) (hf : f ≤ 64) (hr : ∀ i, i < n → 0 ≤ r i ∧ r i ≤ 64) (hfr : fr ≤ f) :
    WC R F.weave_loom_most [pt bl, .int .i64 (fr : Nat), .int .i64 lim] m fun v m' => Ext m m' ∧ ∃ N : Int, v = .int .i64 N ∧ MostO n f (gF gs) r fr lim N := by
  refine WC.of R.weave_loom_most rfl ?_
  have lo := h.lo
  have cl := h.cl
  simp only [intV] at cl
  have lo' := lo.at_
  simp only [intV] at lo'
  simp only [RC.weave_loom_most, pt, go_sem, ruB, lo', cl]
  refine Got.of (make_eq (n := n) (by omega) (by omega) rfl rfl) ?_
  rw [zerosR]
  have hx1 : Ext m (m.new (.cells (rgC n fun _ => intV 0) (some 1))) := Ext.new
  have hO1 : Own m (m.new (.cells (rgC n fun _ => intV 0) (some 1))) 1 n (rgC n fun _ => intV 0) (.slice (some ⟨m.next, 0, none⟩) n n) := by
    refine .at (all := rgC n fun _ => intV 0) (Nat.le_refl _) (by simp [Mem.new]) (Nat.le_refl _) (by simp [Mem.new]) (by simp [rgC]) ?_ (rgC_one (g := fun _ => 0))
    rw [List.take_of_length_le (by simp [rgC])]
  generalize m.new (.cells (rgC n fun _ => intV 0) (some 1)) = m1 at hx1 hO1 ⊢
  try simp only [go_sem, ruB]
  have hgO := hO1.ge
  have hlO := SlLt.vb_iff.1 hO1.lt
  have n1 := hx1.next
  refine WL.mono (most_loop (m0 := m) (bm := m1.next) (usV := .slice (some ⟨m.next, 0, none⟩) n n) h hn hf hr hfr (hx1.trans Ext.new) ⟨by simp only [Mem.new]; rfl, by simp [Mem.new]⟩ n1 (hO1.keep Ext.new) (fun hm => by have := hlO _ hm; omega)) ?_
  rintro _ e m2 ⟨rfl, N, rs, rfl, hx2, hM⟩
  simp only [pt]
  try simp only [go_sem, ruB]
  exact ⟨hx2, N, rfl, hM⟩
end Go.Am


/- Weave, in plain Lean: the document's least. -/
set_option linter.unusedVariables false
set_option linter.unusedSimpArgs false
namespace Go.Am
open Classical

def lstN (gs : Nat → BitVec 64) (rs : Nat → Int) : Nat → Nat → BitVec 64 → Int → Int
  | 0, _, x, o => (pop x : Int) + o
  | j + 1, k, x, o => if rs k = 0 then lstN gs rs j (k + 1) x o else
      if lstN gs rs j (k + 1) x (o + rs k) < lstN gs rs j (k + 1) (x ||| gs k) o then lstN gs rs j (k + 1) x (o + rs k) else lstN gs rs j (k + 1) (x ||| gs k) o
noncomputable def cutB (gs : Nat → BitVec 64) (rs : Nat → Int) (X : Nat → Prop) : Nat → Nat → BitVec 64 → Int → Int
  | 0, _, x, o => (pop x : Int) + o
  | j + 1, k, x, o => if X k then cutB gs rs X j (k + 1) (x ||| gs k) o else cutB gs rs X j (k + 1) x (o + rs k)
theorem cutB_succ {gs : Nat → BitVec 64} {rs : Nat → Int} {X : Nat → Prop} {j k : Nat} {x : BitVec 64} {o : Int} : cutB gs rs X (j + 1) k x o = if X k then cutB gs rs X j (k + 1) (x ||| gs k) o else cutB gs rs X j (k + 1) x (o + rs k) := rfl
theorem pop_S {x : BitVec 64} : (pop x : Int) = S (fun s => if x.getLsbD s = true then 1 else 0) 64 := by rw [pop_tks, tks_S]
theorem pop_mono {x y : BitVec 64} (h : ∀ s, x.getLsbD s = true → y.getLsbD s = true) : (pop x : Int) ≤ pop y := by
  rw [pop_S, pop_S]
  exact S_le fun s _ => by
    by_cases e : x.getLsbD s = true
    · rw [if_pos e, if_pos (h s e)]; exact Int.le_refl _
    · rw [if_neg e]; split <;> omega
theorem or_mono {x y z : BitVec 64} (h : ∀ s, x.getLsbD s = true → y.getLsbD s = true) : ∀ s, (x ||| z).getLsbD s = true → (y ||| z).getLsbD s = true := fun s hs => by
  rw [BitVec.getLsbD_or, Bool.or_eq_true] at *
  exact hs.imp (h s) id
theorem cutB_mono {gs : Nat → BitVec 64} {rs : Nat → Int} {X : Nat → Prop} : ∀ {j k : Nat} {x y : BitVec 64} {o : Int}, (∀ s, x.getLsbD s = true → y.getLsbD s = true) → cutB gs rs X j k x o ≤ cutB gs rs X j k y o
  | 0, k, x, y, o, h => by show (pop x : Int) + o ≤ pop y + o; have := pop_mono h; omega
  | j + 1, k, x, y, o, h => by
    unfold cutB
    split
    · exact cutB_mono (or_mono h)
    · exact cutB_mono h
theorem cutB_congr {gs : Nat → BitVec 64} {rs : Nat → Int} {X Y : Nat → Prop} : ∀ {j k : Nat} {x : BitVec 64} {o : Int}, (∀ i, k ≤ i → (X i ↔ Y i)) → cutB gs rs X j k x o = cutB gs rs Y j k x o
  | 0, k, x, o, h => rfl
  | j + 1, k, x, o, h => by
    unfold cutB
    by_cases e : X k
    · rw [if_pos e, if_pos ((h k (by omega)).1 e)]; exact cutB_congr fun i hi => h i (by omega)
    · rw [if_neg e, if_neg fun q => e ((h k (by omega)).2 q)]; exact cutB_congr fun i hi => h i (by omega)
theorem lst_le {gs : Nat → BitVec 64} {rs : Nat → Int} (X : Nat → Prop) : ∀ {j k : Nat} {x : BitVec 64} {o : Int}, lstN gs rs j k x o ≤ cutB gs rs X j k x o
  | 0, k, x, o => Int.le_refl _
  | j + 1, k, x, o => by
    unfold lstN cutB
    by_cases e : rs k = 0
    · rw [if_pos e]
      by_cases g : X k
      · rw [if_pos g]
        exact Int.le_trans (lst_le X) (cutB_mono fun s hs => by rw [BitVec.getLsbD_or, hs]; rfl)
      · rw [if_neg g, e, Int.add_zero]; exact lst_le X
    · rw [if_neg e]
      have h1 := @lst_le gs rs X j (k + 1) x (o + rs k)
      have h2 := @lst_le gs rs X j (k + 1) (x ||| gs k) o
      split <;> split <;> omega
theorem lst_eq {gs : Nat → BitVec 64} {rs : Nat → Int} : ∀ {j k : Nat} {x : BitVec 64} {o : Int}, ∃ X, lstN gs rs j k x o = cutB gs rs X j k x o
  | 0, k, x, o => ⟨fun _ => False, rfl⟩
  | j + 1, k, x, o => by
    have no : ∀ o', o + rs k = o' → ∀ Y, ∃ X, cutB gs rs Y j (k + 1) x o' = cutB gs rs X (j + 1) k x o := fun o' ho Y => ⟨fun i => i ≠ k ∧ Y i, by
      rw [cutB_succ, if_neg (fun q => q.1 rfl), ho]
      exact cutB_congr fun i hi => ⟨fun q => ⟨by omega, q⟩, fun q => q.2⟩⟩
    unfold lstN
    by_cases e : rs k = 0
    · rw [if_pos e]
      obtain ⟨Y, hY⟩ := @lst_eq gs rs j (k + 1) x o
      rw [hY]; exact no o (by omega) Y
    · rw [if_neg e]
      split
      · obtain ⟨Y, hY⟩ := @lst_eq gs rs j (k + 1) x (o + rs k)
        rw [hY]; exact no _ rfl Y
      · obtain ⟨Y, hY⟩ := @lst_eq gs rs j (k + 1) (x ||| gs k) o
        refine ⟨fun i => i = k ∨ Y i, ?_⟩
        rw [hY]
        rw [cutB_succ, if_pos (.inl rfl)]
        exact cutB_congr fun i hi => ⟨.inr, fun q => q.elim (fun q => by omega) id⟩
theorem S_head {f : Nat → Int} {n : Nat} : S f (n + 1) = f 0 + S (fun i => f (i + 1)) n := by
  induction n with
  | zero => simp [S]
  | succ n ih => rw [S, ih]; simp only [S]; omega
theorem cutB_eq {gs : Nat → BitVec 64} {rs : Nat → Int} {X : Nat → Prop} : ∀ {j k : Nat} {x : BitVec 64} {o : Int}, cutB gs rs X j k x o = S (fun s => if x.getLsbD s = true ∨ ∃ c, k ≤ c ∧ c < k + j ∧ X c ∧ (gs c).getLsbD s = true then 1 else 0) 64 + o + S (fun i => if X (k + i) then 0 else rs (k + i)) j
  | 0, k, x, o => by
    show (pop x : Int) + o = _
    rw [pop_S, S, Int.add_zero]
    congr 1
    refine S_congr fun s _ => ?_
    by_cases e : x.getLsbD s = true
    · rw [if_pos e, if_pos (.inl e)]
    · rw [if_neg e, if_neg]
      rintro (q | ⟨c, q1, q2, -⟩)
      · exact e q
      · omega
  | j + 1, k, x, o => by
    have hd := @S_head (fun i => if X (k + i) then 0 else rs (k + i)) j
    simp only [Nat.add_zero] at hd
    have tl : S (fun i => if X (k + (i + 1)) then 0 else rs (k + (i + 1))) j = S (fun i => if X (k + 1 + i) then 0 else rs (k + 1 + i)) j := S_congr fun i _ => by
      rw [show k + (i + 1) = k + 1 + i by omega]
    rw [hd, tl]
    unfold cutB
    by_cases e : X k
    · rw [if_pos e, if_pos e, cutB_eq, Int.zero_add]
      congr 2
      refine S_congr fun s _ => ?_
      have : ((x ||| gs k).getLsbD s = true ∨ ∃ c, k + 1 ≤ c ∧ c < k + 1 + j ∧ X c ∧ (gs c).getLsbD s = true) ↔ (x.getLsbD s = true ∨ ∃ c, k ≤ c ∧ c < k + (j + 1) ∧ X c ∧ (gs c).getLsbD s = true) := by
        rw [BitVec.getLsbD_or, Bool.or_eq_true]
        constructor
        · rintro ((q | q) | ⟨c, q1, q2, q3⟩)
          · exact .inl q
          · exact .inr ⟨k, by omega, by omega, e, q⟩
          · exact .inr ⟨c, by omega, by omega, q3⟩
        · rintro (q | ⟨c, q1, q2, q3, q4⟩)
          · exact .inl (.inl q)
          · by_cases h : c = k
            · subst h; exact .inl (.inr q4)
            · exact .inr ⟨c, by omega, by omega, q3, q4⟩
      by_cases g : x.getLsbD s = true ∨ ∃ c, k ≤ c ∧ c < k + (j + 1) ∧ X c ∧ (gs c).getLsbD s = true
      · rw [if_pos (this.2 g), if_pos g]
      · rw [if_neg g, if_neg fun q => g (this.1 q)]
    · rw [if_neg e, if_neg e, cutB_eq]
      have : S (fun s => if x.getLsbD s = true ∨ ∃ c, k + 1 ≤ c ∧ c < k + 1 + j ∧ X c ∧ (gs c).getLsbD s = true then (1 : Int) else 0) 64 = S (fun s => if x.getLsbD s = true ∨ ∃ c, k ≤ c ∧ c < k + (j + 1) ∧ X c ∧ (gs c).getLsbD s = true then (1 : Int) else 0) 64 := S_congr fun s _ => by
        have : (x.getLsbD s = true ∨ ∃ c, k + 1 ≤ c ∧ c < k + 1 + j ∧ X c ∧ (gs c).getLsbD s = true) ↔ (x.getLsbD s = true ∨ ∃ c, k ≤ c ∧ c < k + (j + 1) ∧ X c ∧ (gs c).getLsbD s = true) := by
          refine or_congr Iff.rfl ⟨fun ⟨c, q1, q2, q3⟩ => ⟨c, by omega, by omega, q3⟩, fun ⟨c, q1, q2, q3, q4⟩ => ?_⟩
          by_cases h : c = k
          · subst h; exact absurd q3 e
          · exact ⟨c, by omega, by omega, q3, q4⟩
        by_cases g : x.getLsbD s = true ∨ ∃ c, k ≤ c ∧ c < k + (j + 1) ∧ X c ∧ (gs c).getLsbD s = true
        · rw [if_pos (this.2 g), if_pos g]
        · rw [if_neg g, if_neg fun q => g (this.1 q)]
      rw [this]; omega
theorem S_short {g : Nat → Int} {f n : Nat} (h : f ≤ n) (h0 : ∀ i, f ≤ i → i < n → g i = 0) : S g n = S g f := by
  induction n with
  | zero => have : f = 0 := by omega
            rw [this]
  | succ n ih =>
    by_cases e : f = n + 1
    · rw [e]
    · rw [S, ih (by omega) fun i a b => h0 i a (by omega), h0 n (by omega) (by omega)]; omega
def csF (p : PlanD) (j : Nat) : Nat := (csP p 16).getD j 0
theorem csF_get {p : PlanD} {j : Nat} (h : j < (csP p 16).length) : csF p j = (csP p 16)[j] := by simp [csF, h]
theorem csF_has {p : PlanD} {j : Nat} (h : j < (csP p 16).length) : csF p j < 16 ∧ hasC p (csF p j : Nat) = true := by
  rw [csF_get h]; exact csP_mem.1 (List.getElem_mem h)
theorem S_list {f : Nat → Int} {l : List Nat} : S (fun j => f (l.getD j 0)) l.length = sumI (l.map f) := by
  induction l with
  | nil => rfl
  | cons a l ih => rw [List.length_cons, S_head]; simp only [List.getD_cons_zero, List.getD_cons_succ]; rw [ih]; simp [sumI]
theorem S_cs {p : PlanD} {f : Nat → Int} (h : ∀ c, c < 16 → ¬ hasC p (c : Nat) = true → f c = 0) : S (fun j => f (csF p j)) (csP p 16).length = S f 16 := by
  have := @S_list f (csP p 16)
  show S (fun j => f ((csP p 16).getD j 0)) _ = _
  rw [this, sumI_cores]
  exact S_congr fun c hc => by
    split
    · rfl
    · rename_i e; exact (h c hc e).symm
/-- The cuts of both sides. -/
theorem cut_both {p : PlanD} {f fr : Nat} {gs gm : Nat → BitVec 64} {rs : Nat → Int} (hf : f ≤ 64) (hg : ∀ c s, s < 64 → ((gm c).getLsbD s = true ↔ fr ≤ s ∧ (gs c).getLsbD s = true)) (hgf : ∀ c s, (gs c).getLsbD s = true → s < f) (hgh : ∀ c, c < 16 → ¬ hasC p (c : Nat) = true → gs c = 0#64) (hrh : ∀ c, c < 16 → ¬ hasC p (c : Nat) = true → rs c = 0) (X : Nat → Prop) :
    cutN (csP p 16).length f (gF fun j => gs (csF p j)) (fun j => rs (csF p j)) fr (fun j => X (csF p j)) = cutB gm rs X 16 0 0#64 0 := by
  rw [cutB_eq]
  unfold cutN
  have h1 : S (fun j => if X (csF p j) then 0 else rs (csF p j)) (csP p 16).length = S (fun c => if X c then 0 else rs c) 16 := S_cs (f := fun c => if X c then 0 else rs c) fun c hc hh => by
    show (if X c then (0 : Int) else rs c) = 0
    rw [hrh c hc hh]; split <;> rfl
  have h2 : S (fun s => if (0#64).getLsbD s = true ∨ ∃ c, 0 ≤ c ∧ c < 0 + 16 ∧ X c ∧ (gm c).getLsbD s = true then (1 : Int) else 0) 64 = S (fun s => if fr ≤ s ∧ ∃ j, j < (csP p 16).length ∧ X (csF p j) ∧ gF (fun j => gs (csF p j)) j s = true then (1 : Int) else 0) f := by
    rw [← S_short (g := fun s => if fr ≤ s ∧ ∃ j, j < (csP p 16).length ∧ X (csF p j) ∧ gF (fun j => gs (csF p j)) j s = true then (1 : Int) else 0) hf fun s a b => if_neg (by
      rintro ⟨-, j, -, -, q⟩
      have := hgf _ _ q; omega)]
    refine S_congr fun s hs => ?_
    have : ((0#64).getLsbD s = true ∨ ∃ c, 0 ≤ c ∧ c < 0 + 16 ∧ X c ∧ (gm c).getLsbD s = true) ↔ (fr ≤ s ∧ ∃ j, j < (csP p 16).length ∧ X (csF p j) ∧ gF (fun j => gs (csF p j)) j s = true) := by
      constructor
      · rintro (q | ⟨c, -, q2, q3, q4⟩)
        · simp at q
        · obtain ⟨q5, q6⟩ := (hg c s hs).1 q4
          refine ⟨q5, ?_⟩
          have hh : hasC p (c : Nat) = true := by
            by_cases e : hasC p (c : Nat) = true
            · exact e
            · rw [hgh c (by omega) e] at q6; simp at q6
          obtain ⟨j, hj, e⟩ := List.getElem_of_mem (csP_mem.2 ⟨show c < 16 by omega, hh⟩)
          refine ⟨j, hj, ?_, ?_⟩
          · rw [csF_get hj, e]; exact q3
          · show (gs (csF p j)).getLsbD s = true
            rw [csF_get hj, e]; exact q6
      · rintro ⟨q, j, hj, q2, q3⟩
        exact .inr ⟨csF p j, by omega, by have := (csF_has hj).1; omega, q2, (hg _ s hs).2 ⟨q, q3⟩⟩
    by_cases e : fr ≤ s ∧ ∃ j, j < (csP p 16).length ∧ X (csF p j) ∧ gF (fun j => gs (csF p j)) j s = true
    · rw [if_pos (this.2 e), if_pos e]
    · rw [if_neg e, if_neg fun q => e (this.1 q)]
  rw [h2, h1]
  simp only [Nat.zero_add]; omega
/-- What most tells, and what the document tells. -/
theorem most_lst {p : PlanD} {f fr : Nat} {gs gm : Nat → BitVec 64} {rs : Nat → Int} {lim N : Int} (hf : f ≤ 64) (hg : ∀ c s, s < 64 → ((gm c).getLsbD s = true ↔ fr ≤ s ∧ (gs c).getLsbD s = true)) (hgf : ∀ c s, (gs c).getLsbD s = true → s < f) (hgh : ∀ c, c < 16 → ¬ hasC p (c : Nat) = true → gs c = 0#64) (hrh : ∀ c, c < 16 → ¬ hasC p (c : Nat) = true → rs c = 0)
    (h : MostO (csP p 16).length f (gF fun j => gs (csF p j)) (fun j => rs (csF p j)) fr lim N) : N ≤ lstN gm rs 16 0 0#64 0 ∧ (lim ≤ N ∨ N = lstN gm rs 16 0 0#64 0) ∧ (N ≤ lim ∨ N = 0) := by
  obtain ⟨t, to, us, hI, hN⟩ := h.i
  have h1 : N ≤ lstN gm rs 16 0 0#64 0 := by
    obtain ⟨X, hX⟩ := @lst_eq gm rs 16 0 0#64 0
    rw [hX, ← cut_both hf hg hgf hgh hrh X]
    exact cut_ge hI _
  refine ⟨h1, ?_, h.le⟩
  rcases hN with rfl | hN
  · right
    obtain ⟨X, hX⟩ := cut_eq hI
    have h2 := @lst_le gm rs (fun c => ∃ j, j < (csP p 16).length ∧ csF p j = c ∧ X j) 16 0 0#64 0
    rw [← cut_both hf hg hgf hgh hrh] at h2
    have h3 : cutN (csP p 16).length t (gF fun j => gs (csF p j)) (fun j => rs (csF p j)) fr (fun j => ∃ j', j' < (csP p 16).length ∧ csF p j' = csF p j ∧ X j') = cutN (csP p 16).length t (gF fun j => gs (csF p j)) (fun j => rs (csF p j)) fr X := by
      have e : ∀ j, j < (csP p 16).length → ((∃ j', j' < (csP p 16).length ∧ csF p j' = csF p j ∧ X j') ↔ X j) := fun j hj => by
        constructor
        · rintro ⟨j', hj', q, q2⟩
          rw [csF_get hj', csF_get hj] at q
          have pw : (csP p 16).Pairwise (· < ·) := by
            unfold csP
            exact List.pairwise_lt_range.sublist List.filter_sublist
          have this : j' = j := by
            rcases Nat.lt_trichotomy j' j with g | g | g
            · have := (List.pairwise_iff_getElem.1 pw) j' j hj' hj g; omega
            · exact g
            · have := (List.pairwise_iff_getElem.1 pw) j j' hj hj' g; omega
          subst this; exact q2
        · intro q; exact ⟨j, hj, rfl, q⟩
      unfold cutN
      congr 1
      · refine S_congr fun s _ => ?_
        have : (fr ≤ s ∧ ∃ j, j < (csP p 16).length ∧ (∃ j', j' < (csP p 16).length ∧ csF p j' = csF p j ∧ X j') ∧ gF (fun j => gs (csF p j)) j s = true) ↔ (fr ≤ s ∧ ∃ j, j < (csP p 16).length ∧ X j ∧ gF (fun j => gs (csF p j)) j s = true) :=
          and_congr Iff.rfl ⟨fun ⟨j, a, b, c⟩ => ⟨j, a, (e j a).1 b, c⟩, fun ⟨j, a, b, c⟩ => ⟨j, a, (e j a).2 b, c⟩⟩
        by_cases q : fr ≤ s ∧ ∃ j, j < (csP p 16).length ∧ X j ∧ gF (fun j => gs (csF p j)) j s = true
        · rw [if_pos (this.2 q), if_pos q]
        · rw [if_neg q, if_neg fun k => q (this.1 k)]
      · refine S_congr fun j hj => ?_
        by_cases q : X j
        · rw [if_pos ((e j hj).2 q), if_pos q]
        · rw [if_neg q, if_neg fun k => q ((e j hj).1 k)]
    rw [h3] at h2
    omega
  · exact .inl hN
end Go.Am


/- A row, or a map, that lies already, and of which nobody knows, becomes a block. -/
namespace Go.Am
open Go.RowKit
variable {P : Program} {B0 : Nat} {σ : Inj} {m : Mem} {w : World}

theorem part_live {b : Nat} {i : Img} {b' : Nat} {i' : Img} (hb' : Inj.set σ b (.live i) b' = .live i') : (b' = b ∧ i' = i) ∨ (b' ≠ b ∧ σ b' = .live i') := by
  by_cases e : b' = b
  · subst e; simp at hb'; exact .inl ⟨rfl, hb'.symm⟩
  · exact .inr ⟨e, by rw [Inj.set_ne _ _ e] at hb'; exact hb'⟩
theorem new_self {o : AObj} : (m.new o).blk m.next = some o := by simp [Mem.new]
theorem new_ne {o : AObj} {k : Nat} (h : k ≠ m.next) : (m.new o).blk k = m.blk k := by simp [Mem.new, h]

theorem MR.adopt (h : MR B0 σ m w) {c : List Value} {u : Nat} {i : Img} (hB : B0 ≤ i.block) (hlt : i.block < w.heap.size) (hlen : i.len = c.length) (hu : i.unit = u)
    (hrel : ∀ (j : Nat) v, c[j]? = some v → ∃ v', w.cell? ⟨i.block, i.off + j, none⟩ = some v' ∧ VR σ v v')
    (hrw : ∀ j, j < i.len + i.spare → (∃ v', w.cell? ⟨i.block, i.off + j, none⟩ = some v') ∧ ∀ o, w.frozen? ⟨i.block, o, none⟩ = false)
    (hd : ∀ b' i', σ b' = .live i' → i.disj i') : MR B0 (σ.set m.next (.live i)) (m.new (.cells c (some u))) w := by
  have hf := h.fresh m.next (Nat.le_refl _)
  have he : Evo σ (σ.set m.next (.live i)) := Evo.set_fresh hf _
  refine ⟨h.size, ?_, ?_, ?_, ?_, ?_, ?_, ?_, ?_, ?_⟩
  · intro b' hb'
    simp only [Mem.new] at hb'
    rw [Inj.set_ne _ _ (by omega)]; exact h.fresh b' (by omega)
  · intro b' hn
    by_cases e : b' = m.next
    · subst e; exact absurd (Inj.set_self _ _ _) (hn _)
    · rw [new_ne e]; exact h.dom b' fun i hi => hn i (by rw [Inj.set_ne _ _ e]; exact hi)
  · intro b' i' hb'
    rcases part_live hb' with ⟨rfl, rfl⟩ | ⟨e, hb'⟩
    · exact hlt
    · exact h.lt b' i' hb'
  · intro b' i' hb'
    rcases part_live hb' with ⟨rfl, rfl⟩ | ⟨e, hb'⟩
    · exact .inl ⟨_, _, new_self⟩
    · rw [new_ne e]; exact h.obj b' i' hb'
  · intro b' i' c' own hb' hm
    rcases part_live hb' with ⟨rfl, rfl⟩ | ⟨e, hb'⟩
    · rw [new_self] at hm
      obtain ⟨rfl, rfl⟩ : c = c' ∧ some u = own := by simpa using hm
      refine ⟨hlen, fun j v hj => ?_⟩
      obtain ⟨v', h1, h2⟩ := hrel j v hj
      exact ⟨v', h1, h2.mono he⟩
    · rw [new_ne e] at hm
      obtain ⟨h1, h2⟩ := h.cells b' i' c' own hb' hm
      refine ⟨h1, fun j v hj => ?_⟩
      obtain ⟨v', a, b⟩ := h2 j v hj
      exact ⟨v', a, b.mono he⟩
  · intro b' i' c' hb' hm
    rcases part_live hb' with ⟨rfl, rfl⟩ | ⟨e, hb'⟩
    · rw [new_self] at hm; simp at hm
    · rw [new_ne e] at hm; exact h.ro b' i' c' hb' hm
  · intro b' i' c' u' hb' hm
    rcases part_live hb' with ⟨rfl, rfl⟩ | ⟨e, hb'⟩
    · rw [new_self] at hm
      obtain ⟨rfl, rfl⟩ : c = c' ∧ u = u' := by simpa using hm
      exact ⟨hu, hB, hrw⟩
    · rw [new_ne e] at hm; exact h.rw b' i' c' u' hb' hm
  · intro b' i' es hb' hm
    rcases part_live hb' with ⟨rfl, rfl⟩ | ⟨e, hb'⟩
    · rw [new_self] at hm; simp at hm
    · rw [new_ne e] at hm
      obtain ⟨h1, ES, cl, h2, h3⟩ := h.map b' i' es hb' hm
      exact ⟨h1, ES, cl, h2, h3.mono he⟩
  · intro b1 b2 i1 i2 hne h1 h2 ho
    rcases part_live h1 with ⟨rfl, rfl⟩ | ⟨e1, h1'⟩ <;> rcases part_live h2 with ⟨rfl, rfl⟩ | ⟨e2, h2'⟩
    · exact absurd rfl hne
    · exact hd b2 i2 h2'
    · exact (hd b1 i1 h1').symm
    · refine h.apart b1 b2 i1 i2 hne h1' h2' ?_
      rcases ho with ⟨c', u', hc⟩ | ⟨es, hc⟩
      · rw [new_ne e1] at hc; exact .inl ⟨c', u', hc⟩
      · rw [new_ne e1] at hc; exact .inr ⟨es, hc⟩

/-- A new row of the model's, as what a call hands back. -/
theorem OpR.row (h : MR B0 σ m w) {w2 : World} (hb : Below w.heap.size w w2) {t : TypeId} {u n : Nat} {v2 : Value} {c C : List Value} (hr : w2.ownsRow w.heap.size t u v2 n C) (hc : ∀ (j : Nat) v, c[j]? = some v → ∃ v', C[j]? = some v' ∧ VR σ v v') (hl : c.length = n * u)
    (hn : v2 = .slice none 0 0 → n = 0) (hB : Below B0 w w2) :
    (v2 = .slice none 0 0 → OpR P B0 σ m w none (.slice none 0 0) m v2 w2) ∧ (v2 ≠ .slice none 0 0 → OpR P B0 σ m w none (.slice (some ⟨m.next, 0, none⟩) n n) (m.new (.cells c (some u))) v2 w2) := by
  have hm2 := h.below hb
  refine ⟨fun e => ?_, fun hne => ?_⟩
  · subst e
    exact ⟨σ, .sliceNil, hm2, .refl σ, hB, Nat.le_refl _, fun _ _ _ h => h⟩
  · rcases hr.2 with ⟨rfl, -⟩ | ⟨g, cap, cur, rfl, hg, hgb, hnc, -, hsz, htk⟩
    · exact absurd rfl hne
    · have hf := h.fresh m.next (Nat.le_refl _)
      have hle : n * u ≤ cap * u := Nat.mul_le_mul_right _ hnc
      have hsp : n * u + (cap * u - n * u) = cap * u := by omega
      have hcell : ∀ j, j < cap * u → w2.cell? ⟨g, 0 + j, none⟩ = cur[j]? := fun j hj => by
        simp [World.cell?, hgb]
      refine ⟨σ.set m.next (.live ⟨g, 0, n * u, cap * u - n * u, u⟩), .slice (Inj.set_self _ _ _) hnc (fun _ => by simp; omega), ?_, Evo.set_fresh hf _, hB, by simp [Mem.new], fun b hb _ hfr => by rw [Inj.set_ne _ _ (by omega)]; exact hfr⟩
      refine hm2.adopt (Nat.le_trans h.size hg) (Array.getElem?_eq_some_iff.1 hgb).1 hl.symm rfl (fun j v hj => ?_) (fun j hj => ?_) (fun b' i' hb' => ?_)
      · obtain ⟨v', h1, h2⟩ := hc j v hj
        have hjl : j < n * u := by rw [← hl]; exact (List.getElem?_eq_some_iff.1 hj).1
        refine ⟨v', ?_, h2⟩
        rw [hcell j (by omega), ← h1, ← htk, List.getElem?_take, if_pos hjl, Array.getElem?_toList]
      · simp only [hsp] at hj
        refine ⟨⟨cur[j]'(by omega), ?_⟩, ?_⟩
        · rw [hcell j hj]; exact Array.getElem?_eq_getElem _
        · intro o; simp [World.frozen?, hgb]
      · have := h.lt b' i' hb'
        show _ ≠ _; simp only; omega
end Go.Am


/- slices.Insert of one element, in our machine. -/
set_option linter.unusedVariables false
namespace Go.Am
open Go.RowKit

def insRow (u i : Nat) (row v : List Value) : List Value := row.take (i * u) ++ v ++ row.drop (i * u)

def X.insert (u by_ : Nat) : List Value → Mem → Option (Value × Mem)
  | [.slice none 0 0, .int .i64 i, .slice (some xa) 1 vc], m => if i = 0 then aApp none u by_ m (.slice none 0 0) (.slice (some xa) 1 vc) else none
  | [.slice (some ⟨b, o, none⟩) n cp, .int .i64 i, .slice (some ⟨vb, vo, none⟩) 1 vc], m =>
    if i = n then aApp none u by_ m (.slice (some ⟨b, o, none⟩) n cp) (.slice (some ⟨vb, vo, none⟩) 1 vc)
    else
      match m.blk b, m.blk vb with
      | some (.cells cs (some u')), some (.cells xs (some _)) =>
        if u' = u ∧ 0 < u ∧ 0 < by_ ∧ 0 ≤ i ∧ i < n ∧ vb ≠ b ∧ n ≤ cp ∧ o + cp * u = cs.length ∧ (n + 1) * by_ ≤ 2 ^ 47 ∧ n < 1000000000 ∧ vo + u ≤ xs.length ∧ oneCells ((cs.drop o).take (n * u)) = true ∧ oneCells ((xs.drop vo).take u) = true then
          some (.slice (some ⟨m.next, 0, none⟩) (n + 1) (n + 1), (m.set b none).new (.cells (insRow u i.toNat ((cs.drop o).take (n * u)) ((xs.drop vo).take u)) (some u)))
        else none
      | _, _ => none
  | _, _ => none

structure InsOk (P : Program) (f u by_ : Nat) (ts te : TypeId) : Prop where
  ht : P.underlying ts = some (.slice te)
  hs : szOf P te = some u
  hby : byOf P te = some by_
  hz : ∃ z, zeroOf P te = some z ∧ z.cells.size = u
  hu : 0 < u
  hb0 : 0 < by_
  shift : ∀ (b off n c i vb voff vc : Nat) (cs vs : List Value) (w : World), i < n → n + 1 ≤ c → n ≤ 1000000000 → vb ≠ b → cs.length = n * u → vs.length = u →
    (∀ j v, cs[j]? = some v → w.cell? ⟨b, off + j, none⟩ = some v) → (∀ j, j < (n + 1) * u → (w.cell? ⟨b, off + j, none⟩).isSome = true) → (∀ j, w.frozen? ⟨b, j, none⟩ = false) →
    (∀ j v, vs[j]? = some v → w.cell? ⟨vb, voff + j, none⟩ = some v) → (∀ v ∈ cs, v.oneCell' = true) → (∀ v ∈ vs, v.oneCell' = true) →
    ∀ (tA tB : TypeId) (kA kB : Nat), w.shape? vb = some (tA, kA) → w.shape? b = some (tB, kB) → kB ≠ 0 → w.frozen? ⟨vb, voff, none⟩ = false → w.frozen? ⟨vb, kA, none⟩ = false →
    Calls P f #[.slice (some ⟨b, off, none⟩) n c, .int .i64 i, .slice (some ⟨vb, voff, none⟩) 1 vc] w fun e w' =>
      e = .returned (.slice (some ⟨b, off, none⟩) (n + 1) c) ∧ w' = (w.drew.setCells b (off + (i + 1) * u) (cs.drop (i * u))).setCells b (off + i * u) vs
  grow : ∀ (b off n c i vb voff vc : Nat) (cs vs : List Value) (w : World), i < n → n ≤ c → c < n + 1 → (n + 1) * by_ ≤ 140737488355328 → vb ≠ b → cs.length = n * u → vs.length = u →
    (∀ j v, cs[j]? = some v → w.cell? ⟨b, off + j, none⟩ = some v) → (∀ j v, vs[j]? = some v → w.cell? ⟨vb, voff + j, none⟩ = some v) → (∀ v ∈ cs, v.oneCell' = true) → (∀ v ∈ vs, v.oneCell' = true) →
    Calls P f #[.slice (some ⟨b, off, none⟩) n c, .int .i64 i, .slice (some ⟨vb, voff, none⟩) 1 vc] w fun e w' =>
      ∃ (G : Nat) (R : Array Value), e = .returned (.slice (some ⟨w.heap.size, 0, none⟩) (n + 1) G) ∧ n + 1 ≤ G ∧ R.size = G * u ∧ (∀ j, j < i * u → R[j]? = cs[j]?) ∧
        w' = (((w.alloc (.cells R te)).drew.setCells w.heap.size (i * u) vs).drew).setCells w.heap.size ((i + 1) * u) (cs.drop (i * u))
  end_ : ∀ (base : Option Addr) (n c : Nat) (xa : Option Addr) (vc : Nat) (w w2 : World) (v2 : Value), n ≤ c → (base = none → c = 0) →
    (Builtin.append_ #[ts, ts] ts #[.slice base n c, .slice xa 1 vc]).run P w = .ok v2 w2 →
    Calls P f #[.slice base n c, .int .i64 n, .slice xa 1 vc] w fun e w' => e = .returned v2 ∧ w' = w2

variable {P : Program} {B0 : Nat} {σ : Inj} {m : Mem} {w : World}

theorem LR.app {xs ys xs' ys' : List Value} (h : LR σ xs ys) (k : LR σ xs' ys') : LR σ (xs ++ xs') (ys ++ ys') :=
  ⟨by rw [List.length_append, List.length_append, h.1, k.1], fun j x y hx hy => by
    by_cases hj : j < xs.length
    · rw [List.getElem?_append_left hj] at hx
      rw [List.getElem?_append_left (by rw [← h.1]; exact hj)] at hy
      exact h.2 j x y hx hy
    · rw [List.getElem?_append_right (by omega)] at hx
      rw [List.getElem?_append_right (by rw [← h.1]; omega), ← h.1] at hy
      exact k.2 _ x y hx hy⟩
theorem LR.row {u i : Nat} {r r' v v' : List Value} (h : LR σ r r') (k : LR σ v v') : LR σ (insRow u i r v) (insRow u i r' v') := ((h.take _).app k).app (h.drop _)
end Go.Am
namespace Go.Proofs
open Go.RowKit
end Go.Proofs


/- slices.Insert at one's own row. -/
set_option linter.unusedVariables false
set_option linter.unusedSimpArgs false
namespace Go.Am

end Go.Am


/- Weave: begin, walked. -/
set_option linter.unusedVariables false
set_option linter.unusedSimpArgs false
namespace Go.Am
open Classical
variable {m : Mem}

theorem watch_nil {e : Env} {m m' : Mem} : watchOk e m m' [] = True := rfl
theorem watch_one {e : Env} {m m' : Mem} {x : Nat} {r : List Nat} : watchOk e m m' (x :: r) = ((match Env.get e x with | some v => (match blkOf v with | some b => m'.blk b = m.blk b | none => True) | none => False) ∧ watchOk e m m' r) := rfl
theorem blk_ptr {a : Addr} : blkOf (.pointer (some a)) = some a.block := rfl
theorem Own.appB {mB m : Mem} {u n by_ q M : Nat} {cs xs : List Value} {v x : Value} (h : Own mB m u n cs v) (hs : Sl m u 1 xs x) (h1 : oneCells xs = true) (hby : (n + 1) * by_ ≤ 2 ^ 47) (hn : n + 1 < 2 ^ 62) (hq : M ≤ q) (hM : mB.next ≤ M) (hq2 : q < m.next) (ho : SlOff [q] v) :
    ∃ v' m', aApp (some q) u by_ m v x = some (v', m') ∧ Own mB m' u (n + 1) (cs ++ xs) v' ∧ m.next ≤ m'.next ∧ (∀ b, b < M → b ∉ vb v → m'.blk b = m.blk b) ∧ (∀ b ∈ vb v', b ∈ vb v ∨ M ≤ b) := by
  obtain ⟨v', m', a1, a2, -⟩ := (h.rebase (m1 := ⟨mB.next, m.blk⟩) (Nat.le_refl _)).appAt (m0 := ⟨mB.next, m.blk⟩) (by_ := by_) ⟨by show mB.next ≤ m.next; omega, fun b hb => rfl⟩ hs h1 hby hn (by show mB.next ≤ q; omega) hq2 ho
  obtain ⟨c1, c2, c3⟩ := app_updA (M := M) a1 (fun k hk => by cases hk; exact hq) (by omega)
  refine ⟨v', m', a1, a2.rebase (Nat.le_refl _), c1, c2, fun b hb => ?_⟩
  rcases c3 with e | ⟨k, e, hk⟩
  · rw [e] at hb; exact .inl hb
  · rw [e] at hb; simp at hb; rw [hb]; exact .inr hk
theorem Own.same {m0 m m' : Mem} {u n : Nat} {cs : List Value} {v : Value} (h : Own m0 m u n cs v) (hn : m.next ≤ m'.next) (he : ∀ x ∈ vb v, m'.blk x = m.blk x) : Own m0 m' u n cs v := by
  cases h with
  | nil h hc => exact .nil h hc
  | @«at» b c all hb hb2 hn' hm hl hcs h1 => exact .at hb (by omega) hn' (by rw [he b (by simp [vb])]; exact hm) hl hcs h1
theorem rgC_succ {n : Nat} {g : Nat → Value} : rgC (n + 1) g = rgC n g ++ [g n] := by simp [rgC, List.range_succ]
theorem slice_own {m0 m : Mem} {u n : Nat} {cs : List Value} {v : Value} (h : Own m0 m u n cs v) : ∃ a n c, v = .slice a n c := by cases h <;> exact ⟨_, _, _, rfl⟩
/-- The gaps of a core. -/
def gapP (p : PlanD) (c : Nat) : BitVec 64 := allB (fr p.frame).toNat &&& ~~~ winW p.places (c : Nat)
structure BgV (mE m : Mem) (p : PlanD) (bl ig ir : Nat) (csV gV rV : Value) : Prop where
  lo : Bk m bl [.int .i64 p.frame, csV, gV, rV] 4
  b0 : mE.next ≤ bl
  co : Own mE m 1 (csP p 16).length (ints (csP p 16)) csV
  go : Own mE m 1 ig (rgC ig fun j => u64 (gapP p (csF p j))) gV
  ro : Own mE m 1 ir (rgC ir fun j => intV (roomP p (csF p j : Nat))) rV
  d1 : bl ∉ vb csV ∧ bl ∉ vb gV ∧ bl ∉ vb rV
  d2 : (∀ x ∈ vb gV, x ∉ vb rV ∧ x ∉ vb csV) ∧ ∀ x ∈ vb rV, x ∉ vb csV
  x : Ext mE m
/-- One more behind one's own row, in new blocks. -/
theorem Own.appW {mE m2 : Mem} {i M q1 q2 : Nat} {cs : List Value} {v x : Value} (h : Own mE m2 1 i cs v) (hx1 : oneCells [x] = true) (hi : i < 1000) (hlt : ∀ b ∈ vb v, b < M) (hM : mE.next ≤ M) (h1 : M ≤ q1) (h2 : q1 < q2) (h3 : q2 < m2.next) :
    ∃ v' m4, aApp (some q2) 1 8 (m2.set q1 (some (.cells [x] (some 1)))) v (.slice (some ⟨q1, 0, none⟩) 1 1) = some (v', m4) ∧ Own mE m4 1 (i + 1) (cs ++ [x]) v' ∧ m2.next ≤ m4.next ∧ (∀ b, b < M → b ∉ vb v → m4.blk b = m2.blk b) ∧ (∀ b ∈ vb v', b ∈ vb v ∨ M ≤ b) := by
  have hU : Upd m2 (m2.set q1 (some (.cells [x] (some 1)))) [q1] := Upd.set (by simp)
  have s4 : Sl (m2.set q1 (some (.cells [x] (some 1)))) 1 1 [x] (.slice (some ⟨q1, 0, none⟩) 1 1) := by
    refine .at (Nat.le_refl _) ?_
    unfold aCells
    simp [Mem.set]
  have o4 := h.updq hU (fun b hb => by have := hlt b hb; simp; omega)
  obtain ⟨v', m4, r1, r2, r3, r4, r5⟩ := o4.appB (n := i) (q := q2) (M := M) (by_ := 8) s4 hx1 (by omega) (by omega) (by omega) hM (by simpa [Mem.set] using h3) (SlOff.vb_iff.2 fun b hb => by have := hlt b hb; simp; omega)
  exact ⟨v', m4, r1, r2, r3, fun b hb hn => by rw [r4 b hb hn, hU.same b (by omega) (by simp; omega)], r5⟩
theorem BgV.g1 {mE m1 m2 : Mem} {p : PlanD} {bl i ir q1 q2 : Nat} {csV gV rV : Value} (h : BgV mE m1 p bl i ir csV gV rV) (hi : i < 1000) (hx : Ext m1 m2) (h1 : m1.next ≤ q1) (h2 : q1 < q2) (h3 : q2 < m2.next) :
    ∃ gV' m4, aApp (some q2) 1 8 (m2.set q1 (some (.cells [u64 (gapP p (csF p i))] (some 1)))) gV (.slice (some ⟨q1, 0, none⟩) 1 1) = some (gV', m4) ∧ Bk m4 bl [.int .i64 p.frame, csV, gV, rV] 4 ∧ (∃ a n c, gV' = .slice a n c) ∧ BgV mE (m4.set bl (some (.cells [.int .i64 p.frame, csV, gV', rV] (some 4)))) p bl (i + 1) ir csV gV' rV ∧ m2.next ≤ m4.next := by
  have lG := SlLt.vb_iff.1 h.go.lt
  have lR := SlLt.vb_iff.1 h.ro.lt
  have lC := SlLt.vb_iff.1 h.co.lt
  have lb := h.lo.lt
  have gG := h.go.ge
  have gR := h.ro.ge
  have gC := h.co.ge
  have n1 := h.x.next
  have n2 := hx.next
  obtain ⟨v', m4, r1, r2, r3, r4, r5⟩ := (h.go.keep hx).appW (x := u64 (gapP p (csF p i))) rfl hi lG n1 h1 h2 h3
  have lo4 : Bk m4 bl [.int .i64 p.frame, csV, gV, rV] 4 := ⟨by rw [r4 bl lb h.d1.2.1, hx.same bl lb]; exact h.lo.at_, by omega⟩
  have hU : Upd m4 (m4.set bl (some (.cells [.int .i64 p.frame, csV, v', rV] (some 4)))) [bl] := Upd.set (by simp)
  have nv : bl ∉ vb v' := fun hm => (r5 bl hm).elim h.d1.2.1 fun q => by omega
  refine ⟨v', m4, r1, lo4, slice_own r2, ⟨⟨by simp [Mem.set], by show bl < m4.next; omega⟩, h.b0, ?_, ?_, ?_, ⟨h.d1.1, nv, h.d1.2.2⟩, ⟨fun x hx' => ?_, h.d2.2⟩, ?_⟩, r3⟩
  · refine ((h.co.keep hx).same r3 fun x hx' => r4 x (lC x hx') (fun q => (h.d2.1 x q).2 hx')).updq hU fun x hx' hm => ?_
    rw [List.mem_singleton] at hm; exact h.d1.1 (hm ▸ hx')
  · rw [rgC_succ]
    refine r2.updq hU fun x hx' hm => ?_
    rw [List.mem_singleton] at hm; exact nv (hm ▸ hx')
  · refine ((h.ro.keep hx).same r3 fun x hx' => r4 x (lR x hx') (fun q => (h.d2.1 x q).1 hx')).updq hU fun x hx' hm => ?_
    rw [List.mem_singleton] at hm; exact h.d1.2.2 (hm ▸ hx')
  · rcases r5 x hx' with q | q
    · exact h.d2.1 x q
    · exact ⟨fun k => by have := lR x k; omega, fun k => by have := lC x k; omega⟩
  · refine Ext.set ⟨by omega, fun b hb => ?_⟩ h.b0
    rw [r4 b (by omega) (fun q => by have := gG b q; omega), (h.x.trans hx).same b hb]
theorem BgV.r1 {mE m1 m2 : Mem} {p : PlanD} {bl i ir q1 q2 : Nat} {csV gV rV : Value} (h : BgV mE m1 p bl ir i csV gV rV) (hi : i < 1000) (hx : Ext m1 m2) (h1 : m1.next ≤ q1) (h2 : q1 < q2) (h3 : q2 < m2.next) :
    ∃ rV' m4, aApp (some q2) 1 8 (m2.set q1 (some (.cells [.int .i64 (roomP p (csF p i : Nat))] (some 1)))) rV (.slice (some ⟨q1, 0, none⟩) 1 1) = some (rV', m4) ∧ Bk m4 bl [.int .i64 p.frame, csV, gV, rV] 4 ∧ (∃ a n c, rV' = .slice a n c) ∧ BgV mE (m4.set bl (some (.cells [.int .i64 p.frame, csV, gV, rV'] (some 4)))) p bl ir (i + 1) csV gV rV' ∧ m2.next ≤ m4.next := by
  have lG := SlLt.vb_iff.1 h.go.lt
  have lR := SlLt.vb_iff.1 h.ro.lt
  have lC := SlLt.vb_iff.1 h.co.lt
  have lb := h.lo.lt
  have gG := h.go.ge
  have gR := h.ro.ge
  have gC := h.co.ge
  have n1 := h.x.next
  have n2 := hx.next
  obtain ⟨v', m4, r1, r2, r3, r4, r5⟩ := (h.ro.keep hx).appW (x := .int .i64 (roomP p (csF p i : Nat))) rfl hi lR n1 h1 h2 h3
  have lo4 : Bk m4 bl [.int .i64 p.frame, csV, gV, rV] 4 := ⟨by rw [r4 bl lb h.d1.2.2, hx.same bl lb]; exact h.lo.at_, by omega⟩
  have hU : Upd m4 (m4.set bl (some (.cells [.int .i64 p.frame, csV, gV, v'] (some 4)))) [bl] := Upd.set (by simp)
  have nv : bl ∉ vb v' := fun hm => (r5 bl hm).elim h.d1.2.2 fun q => by omega
  refine ⟨v', m4, r1, lo4, slice_own r2, ⟨⟨by simp [Mem.set], by show bl < m4.next; omega⟩, h.b0, ?_, ?_, ?_, ⟨h.d1.1, h.d1.2.1, nv⟩, ⟨fun x hx' => ⟨fun q => ?_, (h.d2.1 x hx').2⟩, fun x hx' => ?_⟩, ?_⟩, r3⟩
  · refine ((h.co.keep hx).same r3 fun x hx' => r4 x (lC x hx') (fun q => h.d2.2 x q hx')).updq hU fun x hx' hm => ?_
    rw [List.mem_singleton] at hm; exact h.d1.1 (hm ▸ hx')
  · refine ((h.go.keep hx).same r3 fun x hx' => r4 x (lG x hx') (fun q => (h.d2.1 x hx').1 q)).updq hU fun x hx' hm => ?_
    rw [List.mem_singleton] at hm; exact h.d1.2.1 (hm ▸ hx')
  · rw [rgC_succ]
    refine r2.updq hU fun x hx' hm => ?_
    rw [List.mem_singleton] at hm; exact nv (hm ▸ hx')
  · rcases r5 x q with k | k
    · exact (h.d2.1 x hx').1 k
    · have := lG x hx'; omega
  · rcases r5 x hx' with k | k
    · exact h.d2.2 x k
    · intro k2; have := lC x k2; omega
  · refine Ext.set ⟨by omega, fun b hb => ?_⟩ h.b0
    rw [r4 b (by omega) (fun q => by have := gR b q; omega), (h.x.trans hx).same b hb]
set_option maxHeartbeats 8000000 in
theorem begin_loop {mE : Mem} {p : PlanD} {pv : Value} {bp bl : Nat} {csV : Value} (hp : PlsV mE p.places pv) (hbp : Bk mE bp [.int .i64 p.frame, u32 p.cores, pv] 3) (hL : PlanL p) (hR : PlanR p) (h : BgV mE m p bl 0 0 csV (.slice none 0 0) (.slice none 0 0)) :
    WL R [1, 3, 15, 16, 17] RB.weave_begin_1 [(1, pt bp), (3, pt bl), (15, csV), (16, .int .i64 ((csP p 16).length : Nat)), (17, .int .i64 0)] m fun y e m' => y = .exit 0 ∧ (∃ c rs, e = (1, c) :: (3, pt bl) :: rs) ∧ ∃ gV rV, BgV mE m' p bl (csP p 16).length (csP p 16).length csV gV rV := by
  have hcl := csP_len (p := p) (n := 16)
  refine WL.of (fun z e m' => ∃ (i : Nat) (gV rV : Value), i ≤ (csP p 16).length ∧ z = (csP p 16).length - i ∧ e = [(1, pt bp), (3, pt bl), (15, csV), (16, .int .i64 ((csP p 16).length : Nat)), (17, .int .i64 (i : Nat))] ∧ BgV mE m' p bl i i csV gV rV) (csP p 16).length
    ⟨0, _, _, by omega, by omega, by simp only [pt, go_sem] <;> rfl, h⟩ ?_
  rintro _ _ m1 ⟨i, gV, rV, hi, rfl, rfl, hB⟩
  simp only [RB.weave_begin_1, pt, go_sem]
  have s1 := step1 (show i < 1000000 by omega)
  by_cases g : i < (csP p 16).length
  rotate_left
  · have e1 : decide (((i : Nat) : Int) < (((csP p 16).length : Nat) : Int)) = false := decide_eq_false (by omega)
    have : i = (csP p 16).length := by omega
    subst this
    try simp only [go_sem, ruB, e1]
    exact ⟨⟨_, _, rfl⟩, gV, rV, hB⟩
  have e1 : decide (((i : Nat) : Int) < (((csP p 16).length : Nat) : Int)) = true := decide_eq_true (by omega)
  obtain ⟨q, c1, c2⟩ := hB.co.sl.get (k := .i64) g
  have c2' : aLoad false 1 m1 q = some (.int .i64 (csF p i : Nat)) := by
    rw [c2, csF_get g]; unfold ints; rw [List.getElem?_map, List.getElem?_eq_getElem g]; rfl
  have lo1 := hB.lo
  have bp1 := hbp.keep hB.x
  have bne : (bl = bp) = False := eq_false (by have := hbp.lt; have := hB.b0; omega)
  try simp only [go_sem, ruB, e1, c1, c2', lo1.at_, bp1.at_]
  refine gC.of mask_All_spec ?_
  rintro _ mx ⟨rfl, hmx⟩
  replace hmx := hmx.symm
  subst hmx
  have hpb := (hp.keep hB.x).keep (Ext.bump (n := 17))
  have pone := hpb.one
  try simp only [go_sem, ruB, watch_one, watch_nil, blk_ptr]
  refine gC.of (Windows_spec (p := p) (c := (csF p i : Nat)) ⟨pv, rfl, hpb⟩ hL.len hL.pcs) ?_
  rintro _ m2 ⟨rfl, hx2⟩
  have w2 := hx2.same bl (by simp only [Mem.bump_next]; have := lo1.lt; omega)
  have n2 := hx2.next
  simp only [Mem.bump_next] at n2
  have hx12 : Ext m1 m2 := (Ext.bump (n := 17)).trans hx2
  obtain ⟨gV', m4, q1, q2, ⟨ga, gn, gc, rfl⟩, hB5, n4⟩ := hB.g1 (q1 := m1.next + 12) (q2 := m1.next + 13) (by omega) hx12 (by omega) (by omega) (by omega)
  unfold gapP at q1
  have bpne : (bp = bl) = False := eq_false (by have := hbp.lt; have := hB.b0; omega)
  have bp4 : m4.blk bp = some (.cells [.int .i64 p.frame, u32 p.cores, pv] (some 3)) := by
    have := (hbp.keep hB5.x).at_
    simpa [Mem.set, bpne] using this
  try simp only [go_sem, ruB, watch_one, watch_nil, blk_ptr, w2, ↓cells_u64, q1, q2.at_, bpne, bp4, pone]
  have lo5 := hB5.lo
  have M5n : (m4.set bl (some (.cells [.int .i64 p.frame, csV, .slice ga gn gc, rV] (some 4)))).next = m4.next := rfl
  generalize m4.set bl (some (.cells [.int .i64 p.frame, csV, .slice ga gn gc, rV] (some 4))) = m5 at hB5 lo5 M5n ⊢
  have hp5 := (hp.keep hB5.x).keep (Ext.bump (n := 13))
  refine gC.of (Room_spec (p := p) (c := (csF p i : Nat)) ⟨pv, rfl, hp5⟩ hR) ?_
  rintro _ m6 ⟨rfl, hx6⟩
  have w6 := hx6.same bl (by simp only [Mem.bump_next]; have := lo5.lt; omega)
  have n6 := hx6.next
  simp only [Mem.bump_next] at n6
  have hx56 : Ext m5 m6 := (Ext.bump (n := 13)).trans hx6
  obtain ⟨rV', m7, t1, t2, ⟨ra, rn, rc, rfl⟩, hB8, n7⟩ := hB5.r1 (q1 := m4.next + 8) (q2 := m4.next + 9) (by omega) hx56 (by omega) (by omega) (by omega)
  try simp only [go_sem, ruB, watch_one, watch_nil, blk_ptr, w6, t1, t2.at_, s1]
  exact ⟨(csP p 16).length - (i + 1), by omega, i + 1, _, _, by omega, rfl, rfl, hB8⟩
end Go.Am


/- Weave: begin and Most, walked. -/
set_option linter.unusedVariables false
set_option linter.unusedSimpArgs false
namespace Go.Am
open Classical
variable {m : Mem}

theorem BgV.weak {m0 mE m : Mem} {p : PlanD} {bl i j : Nat} {csV gV rV : Value} (h : BgV mE m p bl i j csV gV rV) (hx : Ext m0 mE) : BgV m0 m p bl i j csV gV rV :=
  ⟨h.lo, Nat.le_trans hx.next h.b0, h.co.rebase hx.next, h.go.rebase hx.next, h.ro.rebase hx.next, h.d1, h.d2, hx.trans h.x⟩
set_option maxHeartbeats 4000000 in
theorem begin_spec {p : PlanD} {v : Value} (hv : PlanV m p v) (hL : PlanL p) (hR : PlanR p) : WC R F.weave_begin [v] m fun r m' => ∃ bl csV gV rV, r = pt bl ∧ BgV m m' p bl (csP p 16).length (csP p 16).length csV gV rV := by
  refine WC.of R.weave_begin rfl ?_
  obtain ⟨pv, rfl, hp⟩ := hv
  have hcl := csP_len (p := p) (n := 16)
  simp only [RC.weave_begin, planV, go_sem, hp.one]
  have hx1 : Ext m (m.new (.cells [.int .i64 p.frame, u32 p.cores, pv] (some 3))) := Ext.new
  have hb1 : Bk (m.new (.cells [.int .i64 p.frame, u32 p.cores, pv] (some 3))) m.next [.int .i64 p.frame, u32 p.cores, pv] 3 := Bk.new
  have hn1 : (m.new (.cells [.int .i64 p.frame, u32 p.cores, pv] (some 3))).next = m.next + 1 := rfl
  generalize m.new (.cells [.int .i64 p.frame, u32 p.cores, pv] (some 3)) = m1 at hx1 hb1 hn1 ⊢
  have hp1 := hp.keep hx1
  try simp only [go_sem, ruB, hb1.at_, hp1.one]
  have hpb := hp1.keep (Ext.bump (n := 7))
  refine gC.of (Cores_spec (p := p) ⟨pv, rfl, hpb⟩) ?_
  rintro cV m2 ⟨hO, hx2⟩
  have n2 := hx2.next
  simp only [Mem.bump_next] at n2
  obtain ⟨ca, cn, cc, rfl⟩ := slice_own hO
  try simp only [go_sem, ruB, watch_one, watch_nil, blk_ptr]
  have hcn : cn = (csP p 16).length := by
    have := hO.sl.len
    simp only [aLen, Option.some.injEq, Value.int.injEq, true_and] at this
    omega
  subst hcn
  have hx12 : Ext m1 m2 := (Ext.bump (n := 7)).trans hx2
  have l1 := hb1.lt
  have lC := SlLt.vb_iff.1 hO.lt
  have gC := hO.ge
  simp only [Mem.bump_next] at gC
  refine ⟨hx12.same _ l1, ?_⟩
  have hU : Upd m2 (m2.set (m1.next + 5) (some (.cells [.int .i64 p.frame, .slice ca (csP p 16).length cc, .slice none 0 0, .slice none 0 0] (some 4)))) [m1.next + 5] := Upd.set (by simp)
  have nC : m1.next + 5 ∉ vb (.slice ca (csP p 16).length cc) := fun hm => by have := gC _ hm; omega
  have hB : BgV m1 (m2.set (m1.next + 5) (some (.cells [.int .i64 p.frame, .slice ca (csP p 16).length cc, .slice none 0 0, .slice none 0 0] (some 4)))) p (m1.next + 5) 0 0 (.slice ca (csP p 16).length cc) (.slice none 0 0) (.slice none 0 0) :=
    ⟨⟨by simp [Mem.set], by show m1.next + 5 < m2.next; omega⟩, by omega, (hO.rebase (m1 := m1) (by simp only [Mem.bump_next]; omega)).updq hU (fun x hx hm => by rw [List.mem_singleton] at hm; exact nC (hm ▸ hx)), .nil rfl rfl, .nil rfl rfl, ⟨nC, by simp [vb], by simp [vb]⟩, ⟨fun x hx => by simp [vb] at hx, fun x hx => by simp [vb] at hx⟩, hx12.set (by omega)⟩
  refine WL.mono (begin_loop (mE := m1) (bp := m.next) (bl := m1.next + 5) hp1 hb1 hL hR hB) ?_
  rintro _ _ m3 ⟨rfl, ⟨c, rs, rfl⟩, gV, rV, hB3⟩
  simp only [pt]
  try simp only [go_sem, ruB]
  exact ⟨_, _, _, _, rfl, hB3.weak hx1⟩
noncomputable def gapH (p : PlanD) (c : Nat) : BitVec 64 := if hasC p (c : Nat) = true then gapP p c else 0#64
/-- As it is asked. -/
theorem BgV.lm {mE m : Mem} {p : PlanD} {bl : Nat} {csV gV rV : Value} (h : BgV mE m p bl (csP p 16).length (csP p 16).length csV gV rV) (hf : 0 ≤ p.frame) : LmV m bl p.frame.toNat (csP p 16).length csV gV rV (fun j => gapH p (csF p j)) (fun j => roomP p (csF p j : Nat)) := by
  have e : ((p.frame.toNat : Nat) : Int) = p.frame := by omega
  have e2 : (rgC (csP p 16).length fun j => u64 (gapP p (csF p j))) = rgC (csP p 16).length fun j => u64 (gapH p (csF p j)) := by
    unfold rgC
    refine List.map_congr_left fun j hj => ?_
    rw [List.mem_range] at hj
    unfold gapH
    rw [if_pos (csF_has hj).2]
  refine ⟨?_, ?_, ?_, h.go.lt, h.ro.sl, h.ro.lt⟩
  · have := h.lo
    unfold intV; rw [e]; exact this
  · exact h.co.sl.len
  · rw [← e2]; exact h.go.sl
theorem gap_lt {p : PlanD} (h2 : 2 ≤ p.frame) (h64 : p.frame ≤ 64) {c s : Nat} (h : (gapP p c).getLsbD s = true) : s < p.frame.toNat := by
  unfold gapP at h
  rw [BitVec.getLsbD_and, Bool.and_eq_true, allB_bit] at h
  have h1 := h.1
  have e : fr p.frame = p.frame := by unfold fr; omega
  rw [e] at h1
  simp at h1
  omega
theorem gapH_lt {p : PlanD} (h2 : 2 ≤ p.frame) (h64 : p.frame ≤ 64) {c s : Nat} (h : (gapH p c).getLsbD s = true) : s < p.frame.toNat := by
  unfold gapH at h
  split at h
  · exact gap_lt h2 h64 h
  · simp at h
theorem gapH_0 {p : PlanD} {c : Nat} (h : ¬ hasC p (c : Nat) = true) : gapH p c = 0#64 := if_neg h
theorem roomP_0 {p : PlanD} {c : Nat} (h : ¬ hasC p (c : Nat) = true) : roomP p (c : Nat) = 0 := by unfold roomP; exact if_neg h
end Go.Am


/- Weave: the document's gaps, rooms, least and Most, walked. -/
set_option linter.unusedVariables false
set_option linter.unusedSimpArgs false
namespace Go.Am
open Classical
variable {m : Mem}

end Go.Am


/- PlanL1 over the table of weave (relayset.py). -/
set_option linter.unusedVariables false
set_option linter.unusedSimpArgs false
namespace Go.Am
open Classical
variable {m : Mem}

theorem light_l {p : PlanD} (h : lightP p = true) : PlanL p := by
  simp only [lightP, Bool.and_eq_true, decide_eq_true_eq, List.all_eq_true] at h
  refine ⟨by omega, fun x hx => ?_⟩
  have := h.1 x (by rw [List.take_of_length_le (by omega)]; exact hx)
  omega
end Go.Am


/- Weave: the document's Most, walked; WeaveMost. -/
set_option linter.unusedVariables false
set_option linter.unusedSimpArgs false
namespace Go.Am
open Classical
variable {m : Mem}

def frW (x : BitVec 64) (fr : Nat) : BitVec 64 := (x >>> fr) <<< fr
theorem frW_bit {x : BitVec 64} {fr s : Nat} (hs : s < 64) : (frW x fr).getLsbD s = true ↔ fr ≤ s ∧ x.getLsbD s = true := by
  unfold frW
  rw [BitVec.getLsbD_shiftLeft, BitVec.getLsbD_ushiftRight]
  by_cases h : s < fr
  · simp [h]; omega
  · have e : fr + (s - fr) = s := by omega
    simp [hs, h, e]; omega
end Go.Am


/- Weave: give, walked. -/
set_option linter.unusedVariables false
set_option linter.unusedSimpArgs false
namespace Go.Am
open Classical
variable {m : Mem}

theorem csF_inj {p : PlanD} {j k : Nat} (hj : j < (csP p 16).length) (hk : k < (csP p 16).length) (h : csF p j = csF p k) : j = k := by
  rw [csF_get hj, csF_get hk] at h
  have pw : (csP p 16).Pairwise (· < ·) := by
    unfold csP
    exact List.pairwise_lt_range.sublist List.filter_sublist
  rcases Nat.lt_trichotomy j k with g | g | g
  · have := (List.pairwise_iff_getElem.1 pw) j k hj hk g; omega
  · exact g
  · have := (List.pairwise_iff_getElem.1 pw) k j hk hj g; omega
theorem rgC_core {p : PlanD} {rm : Nat → Int} {j : Nat} {x : Int} (hj : j < (csP p 16).length) : (rgC (csP p 16).length fun k => intV (fup (fun k => rm (csF p k)) j x k)) = rgC (csP p 16).length fun k => intV (fup rm (csF p j) x (csF p k)) := by
  unfold rgC
  refine List.map_congr_left fun k hk => ?_
  rw [List.mem_range] at hk
  by_cases e : k = j
  · subst e; rw [fup_at, fup_at]
  · rw [fup_ne e, fup_ne fun q => e (csF_inj hk hj q)]
/-- A loom whose rooms change. -/
structure LgV (mE m : Mem) (p : PlanD) (bl : Nat) (csV gV rV : Value) (rm : Nat → Int) : Prop where
  lo : Bk m bl [intV (p.frame.toNat : Nat), csV, gV, rV] 4
  cl : aLen csV = some (intV ((csP p 16).length : Nat))
  g : Sl m 1 (csP p 16).length (rgC (csP p 16).length fun j => u64 (gapH p (csF p j))) gV
  gl : SlLt m gV
  ro : Own mE m 1 (csP p 16).length (rgC (csP p 16).length fun j => intV (rm (csF p j))) rV
  d1 : bl ∉ vb rV
  d2 : ∀ x ∈ vb gV, x ∉ vb rV
  ok : (∀ c, 0 ≤ rm c ∧ rm c ≤ 64) ∧ ∀ c, ¬ hasC p (c : Nat) = true → rm c = 0
theorem LgV.lm {mE m : Mem} {p : PlanD} {bl : Nat} {csV gV rV : Value} {rm : Nat → Int} (h : LgV mE m p bl csV gV rV rm) : LmV m bl p.frame.toNat (csP p 16).length csV gV rV (fun j => gapH p (csF p j)) (fun j => rm (csF p j)) := ⟨h.lo, h.cl, h.g, h.gl, h.ro.sl, h.ro.lt⟩
theorem LgV.keep {mE m m' : Mem} {p : PlanD} {bl : Nat} {csV gV rV : Value} {rm : Nat → Int} (h : LgV mE m p bl csV gV rV rm) (hx : Ext m m') : LgV mE m' p bl csV gV rV rm := ⟨h.lo.keep hx, h.cl, h.g.keep h.gl hx, h.gl.keep hx, h.ro.keep hx, h.d1, h.d2, h.ok⟩
theorem LgV.upd {mE m m' : Mem} {p : PlanD} {bl : Nat} {csV gV rV : Value} {rm : Nat → Int} {fp : List Nat} (h : LgV mE m p bl csV gV rV rm) (hU : Upd m m' fp) (h1 : bl ∉ fp) (h2 : ∀ x ∈ vb gV, x ∉ fp) (h3 : ∀ x ∈ vb rV, x ∉ fp) : LgV mE m' p bl csV gV rV rm :=
  ⟨h.lo.upd hU h1, h.cl, h.g.upd h.gl (SlOff.vb_iff.2 fun x hx hm => h2 x hx hm) hU, h.gl.upd hU, h.ro.updq hU h3, h.d1, h.d2, h.ok⟩
theorem LgV.put {mE m : Mem} {p : PlanD} {bl : Nat} {csV gV rV : Value} {rm : Nat → Int} (h : LgV mE m p bl csV gV rV rm) {j : Nat} (hj : j < (csP p 16).length) {x : Int} (hx : 0 ≤ x ∧ x ≤ 64) : ∃ q m', aIdxS 1 rV (.int .i64 (j : Nat)) = some q ∧ aLoad false 1 m q = some (.int .i64 (rm (csF p j))) ∧ aStore 1 m q (.int .i64 x) = some m' ∧ LgV mE m' p bl csV gV rV (fup rm (csF p j) x) ∧ Upd m m' (vb rV) := by
  obtain ⟨q, a1, a2⟩ := h.ro.sl.get (k := .i64) hj
  rw [rgC_get hj] at a2
  obtain ⟨b, m', e1, e2, e3, e4, e5⟩ := h.ro.putB (w := .int .i64 x) (k := .i64) (i := j) (o := 0) hj (by omega) rfl rfl
  simp only [Nat.mul_one, Nat.add_zero] at e1 e2 e3
  rw [a1] at e1
  cases e1
  rw [show (Value.int .i64 x) = intV x from rfl, rgC_set, fup_int, rgC_core hj] at e3
  refine ⟨_, m', a1, a2, e2, ⟨h.lo.upd e4 h.d1, h.cl, h.g.upd h.gl (SlOff.vb_iff.2 fun x hx hm => h.d2 x hx hm) e4, h.gl.upd e4, e3, h.d1, h.d2, fun c => ?_, fun c hh => ?_⟩, e4⟩
  · by_cases e : c = csF p j
    · rw [e, fup_at]; exact hx
    · rw [fup_ne e]; exact h.ok.1 c
  · by_cases e : c = csF p j
    · exact absurd (e ▸ (csF_has hj).2) hh
    · rw [fup_ne e]; exact h.ok.2 c hh
/-- A core that may have a tick. -/
def okG (G : Nat → BitVec 64) (rm : Nat → Int) (t : Nat) (lack : Int) (c : Nat) : Prop :=
  rm c ≠ 0 ∧ (G c).getLsbD t = true ∧ lack - 1 ≤ lstN (fun c => frW (G c) (t + 1)) (fup rm c (rm c - 1)) 16 0 0#64 0
def GiveO (mE : Mem) (p : PlanD) (bl : Nat) (csV gV rV : Value) (rm : Nat → Int) (t : Nat) (lack : Int) (m : Mem) (v : Value) (m' : Mem) : Prop :=
  Upd m m' (vb rV) ∧ ((v = .int .i64 (-1) ∧ (∀ c, c < 16 → ¬ okG (gapH p) rm t lack c) ∧ LgV mE m' p bl csV gV rV rm) ∨
    ∃ j, j < (csP p 16).length ∧ v = .int .i64 (j : Nat) ∧ okG (gapH p) rm t lack (csF p j) ∧ (∀ c, c < csF p j → ¬ okG (gapH p) rm t lack c) ∧ LgV mE m' p bl csV gV rV (fup rm (csF p j) (rm (csF p j) - 1)))
theorem fup_back {rm : Nat → Int} {c : Nat} : fup (fup rm c (rm c - 1)) c (rm c) = rm := by
  funext k; unfold fup; split
  · rename_i e; rw [e]
  · rfl
theorem Upd.ofExt {a b : Mem} {fp : List Nat} (h : Ext a b) : Upd a b fp := ⟨h.next, fun x hx _ => h.same x hx⟩
set_option maxHeartbeats 8000000 in
theorem give_spec {mE : Mem} {p : PlanD} {bl t : Nat} {csV gV rV : Value} {rm : Nat → Int} {lack : Int} (h : LgV mE m p bl csV gV rV rm) (f2 : 2 ≤ p.frame) (f64 : p.frame ≤ 64) (ht : t < p.frame.toNat) (hl : 1 ≤ lack ∧ lack ≤ 64) :
    WC R F.weave_loom_give [pt bl, .int .i64 (t : Nat), .int .i64 lack] m fun v m' => GiveO mE p bl csV gV rV rm t lack m v m' := by
  refine WC.of R.weave_loom_give rfl ?_
  have hcl := csP_len (p := p) (n := 16)
  have lo := h.lo.at_
  have cl := h.cl
  simp only [intV] at lo cl
  simp only [RC.weave_loom_give, pt, go_sem, ruB, lo, cl]
  refine WL.of (fun z e m' => ∃ j : Nat, j ≤ (csP p 16).length ∧ z = (csP p 16).length - j ∧ e = [(0, pt bl), (1, .int .i64 (t : Nat)), (2, .int .i64 lack), (12, .int .i64 ((csP p 16).length : Nat)), (13, .int .i64 (j : Nat))] ∧ Upd m m' (vb rV) ∧ LgV mE m' p bl csV gV rV rm ∧ ∀ k, k < j → ¬ okG (gapH p) rm t lack (csF p k)) (csP p 16).length
    ⟨0, by omega, by omega, by simp only [pt, go_sem] <;> rfl, Upd.refl _ _, h, fun k hk => by omega⟩ ?_
  rintro _ _ m1 ⟨j, hj, rfl, rfl, hU1, h1, hno⟩
  simp only [RB.weave_loom_give_1, pt, go_sem]
  have s1 := step1 (show j < 1000000 by omega)
  have pw : (csP p 16).Pairwise (· < ·) := by
    unfold csP
    exact List.pairwise_lt_range.sublist List.filter_sublist
  by_cases g : j < (csP p 16).length
  rotate_left
  · have e1 : decide (((j : Nat) : Int) < (((csP p 16).length : Nat) : Int)) = false := decide_eq_false (by omega)
    try simp only [go_sem, ruB, e1]
    refine ⟨hU1, .inl ⟨rfl, fun c hc hok => ?_, h1⟩⟩
    by_cases hh : hasC p (c : Nat) = true
    · obtain ⟨k, hk, e⟩ := List.getElem_of_mem (csP_mem.2 ⟨hc, hh⟩)
      refine hno k (by omega) ?_
      rw [csF_get hk, e]; exact hok
    · exact hok.1 (h1.ok.2 c hh)
  have e1 : decide (((j : Nat) : Int) < (((csP p 16).length : Nat) : Int)) = true := decide_eq_true (by omega)
  have lo1 := h1.lo.at_
  simp only [intV] at lo1
  have next : ¬ okG (gapH p) rm t lack (csF p j) → ∀ k, k < j + 1 → ¬ okG (gapH p) rm t lack (csF p k) := fun q k hk => by
    by_cases e : k = j
    · rw [e]; exact q
    · exact hno k (by omega)
  by_cases r0 : rm (csF p j) = 0
  · obtain ⟨q, -, a1, a2, -, -, -⟩ := h1.put g (x := 0) (by omega)
    have e2 : (rm (csF p j) == 0) = true := by rw [beq_iff_eq]; exact r0
    try simp only [go_sem, ruB, e1, lo1, a1, a2, e2, s1]
    exact ⟨(csP p 16).length - (j + 1), by omega, j + 1, by omega, rfl, rfl, hU1, h1, next fun q => q.1 r0⟩
  have e2 : (rm (csF p j) == 0) = false := by rw [beq_eq_false_iff_ne]; exact r0
  have rb := h1.ok.1 (csF p j)
  obtain ⟨q, m2, a1, a2, a3, h2, hU2⟩ := h1.put g (x := rm (csF p j) - 1) (by omega)
  obtain ⟨pg, g1, g2⟩ := h1.g.get (k := .i64) g
  rw [rgC_get g] at g2
  try simp only [go_sem, ruB, e1, lo1, a1, a2, e2, g1, g2]
  refine gC.of mask_Has_spec ?_
  rintro _ mx ⟨rfl, hmx⟩
  replace hmx := hmx.symm
  subst hmx
  rw [inB_nat']
  by_cases gb : (gapH p (csF p j)).getLsbD t = true
  rotate_left
  · have gb' : (gapH p (csF p j)).getLsbD t = false := by simpa using gb
    try simp only [go_sem, ruB, gb', s1]
    exact ⟨(csP p 16).length - (j + 1), by omega, j + 1, by omega, rfl, rfl, hU1, h1, next fun q => gb q.2.1⟩
  have w1 : IntKind.wrap .i64 (rm (csF p j) - 1) = rm (csF p j) - 1 := wrap_i64 (by omega) (by omega)
  have w2 : IntKind.wrap .i64 (lack - 1) = lack - 1 := wrap_i64 (by omega) (by omega)
  have s2 := step1 (show t < 1000000 by omega)
  try simp only [go_sem, ruB, gb, lo1, a1, a2, a3, w1, w2, s2]
  refine gC.of (most_spec (fr := t + 1) (lim := lack - 1) h2.lm hcl (by omega) (fun i hi => h2.ok.1 _) (by omega)) ?_
  rintro _ m3 ⟨hx3, N, rfl, hM⟩
  obtain ⟨k1, k2, -⟩ := most_lst (p := p) (gs := gapH p) (gm := fun c => frW (gapH p c) (t + 1)) (rs := fup rm (csF p j) (rm (csF p j) - 1)) (f := p.frame.toNat) (by omega) (fun c s hs => frW_bit hs) (fun c s q => gapH_lt f2 f64 q) (fun c _ hh => gapH_0 hh) (fun c _ hh => h2.ok.2 c hh) hM
  have h3 := h2.keep hx3
  have hU3 : Upd m1 m3 (vb rV) := hU2.sameF (Upd.ofExt hx3)
  by_cases gN : lack - 1 ≤ N
  · have e3 : decide (lack - 1 ≤ N) = true := decide_eq_true gN
    try simp only [go_sem, ruB, w2, e3]
    refine ⟨hU1.sameF hU3, .inr ⟨j, g, rfl, ⟨r0, gb, by omega⟩, fun c hc hok => ?_, h3⟩⟩
    have hh : hasC p (c : Nat) = true := by
      by_cases hh : hasC p (c : Nat) = true
      · exact hh
      · exact absurd (h1.ok.2 c hh) hok.1
    have hj16 := (csF_has g).1
    obtain ⟨k, hk, e⟩ := List.getElem_of_mem (csP_mem.2 ⟨show c < 16 by omega, hh⟩)
    have hkj : k < j := by
      rcases Nat.lt_trichotomy k j with q | q | q
      · exact q
      · subst q; rw [csF_get hk, e] at hc; omega
      · have := (List.pairwise_iff_getElem.1 pw) j k g hk q
        rw [e] at this; rw [csF_get g] at hc; omega
    refine hno k hkj ?_
    rw [csF_get hk, e]; exact hok
  · have e3 : decide (lack - 1 ≤ N) = false := decide_eq_false gN
    have lo3 := h3.lo.at_
    simp only [intV] at lo3
    obtain ⟨q', m4, b1, b2, b3, h4, hU4⟩ := h3.put g (x := rm (csF p j)) rb
    rw [fup_back] at h4
    rw [fup_at] at b2
    have w3 : IntKind.wrap .i64 (rm (csF p j) - 1 + 1) = rm (csF p j) := by rw [wrap_i64 (by omega) (by omega)]; omega
    try simp only [go_sem, ruB, w2, e3, lo3, b1, b2, b3, w3, s1]
    exact ⟨(csP p 16).length - (j + 1), by omega, j + 1, by omega, rfl, rfl, (hU1.sameF hU3).sameF hU4, h4, next fun q => gN (by have := q.2.2; omega)⟩
end Go.Am


/- Weave, in plain Lean: where a want goes, tick by tick. -/
set_option linter.unusedVariables false
set_option linter.unusedSimpArgs false
namespace Go.Am
open Classical

noncomputable def fstN (P : Nat → Prop) : Option Nat := if h : ∃ c, P c ∧ ∀ c', c' < c → ¬ P c' then some h.choose else none
theorem fstN_some {P : Nat → Prop} {c : Nat} (h : P c) (h2 : ∀ c', c' < c → ¬ P c') : fstN P = some c := by
  have hex : ∃ c, P c ∧ ∀ c', c' < c → ¬ P c' := ⟨c, h, h2⟩
  unfold fstN
  rw [dif_pos hex]
  obtain ⟨a, b⟩ := hex.choose_spec
  rcases Nat.lt_trichotomy hex.choose c with g | g | g
  · exact absurd a (h2 _ g)
  · rw [g]
  · exact absurd h (b c g)
theorem fstN_none {P : Nat → Prop} (h : ∀ c, ¬ P c) : fstN P = none := by
  unfold fstN
  rw [dif_neg]
  rintro ⟨c, a, -⟩
  exact h c a
structure PlS where
  rm : Nat → Int
  gv : Nat → BitVec 64
  lack : Int
noncomputable def plStep (G : Nat → BitVec 64) (t : Nat) (s : PlS) : PlS :=
  if 0 < s.lack then
    match fstN (okG G s.rm t s.lack) with
    | some c => ⟨fup s.rm c (s.rm c - 1), fup s.gv c (withB (s.gv c) (t : Nat)), s.lack - 1⟩
    | none => s
  else s
noncomputable def plRun (G : Nat → BitVec 64) (s : PlS) : Nat → PlS
  | 0 => s
  | t + 1 => plStep G t (plRun G s t)
theorem plStep_some {G : Nat → BitVec 64} {t : Nat} {s : PlS} {c : Nat} (hl : 0 < s.lack) (h : okG G s.rm t s.lack c) (h2 : ∀ c', c' < c → ¬ okG G s.rm t s.lack c') : plStep G t s = ⟨fup s.rm c (s.rm c - 1), fup s.gv c (withB (s.gv c) (t : Nat)), s.lack - 1⟩ := by
  unfold plStep; rw [if_pos hl, fstN_some h h2]
theorem plStep_none {G : Nat → BitVec 64} {t : Nat} {s : PlS} (h : ∀ c, ¬ okG G s.rm t s.lack c) : plStep G t s = s := by
  unfold plStep; split
  · rw [fstN_none h]
  · rfl
theorem plStep_done {G : Nat → BitVec 64} {t : Nat} {s : PlS} (h : ¬ 0 < s.lack) : plStep G t s = s := by unfold plStep; rw [if_neg h]
theorem plRun_done {G : Nat → BitVec 64} {s : PlS} {t : Nat} (h : ¬ 0 < (plRun G s t).lack) : ∀ {f : Nat}, t ≤ f → plRun G s f = plRun G s t := by
  intro f
  induction f with
  | zero => intro hf; have : t = 0 := by omega
            rw [this]
  | succ f ih =>
    intro hf
    by_cases e : t = f + 1
    · rw [e]
    · show plStep G f (plRun G s f) = _
      rw [ih (by omega), plStep_done h]
theorem or_shl {x : BitVec 64} {t : Nat} (h : t < 64) : x ||| 1#64 <<< t = withB x (t : Nat) := by
  refine word_ext fun s hs => ?_
  rw [withB_bit hs, BitVec.getLsbD_or]
  congr 1
  rw [BitVec.getLsbD_shiftLeft]
  by_cases e : s = t
  · subst e; simp [h]
  · by_cases q : s < t
    · simp [q]; omega
    · have : (1#64).getLsbD (s - t) = false := by rw [BitVec.getLsbD_one]; simp; omega
      simp [this]; omega
/-- The pieces. -/
def pcL (gv : Nat → BitVec 64) (l : List Nat) : List Pc := (l.filter fun c => decide (gv c ≠ 0#64)).map fun (c : Nat) => (((c : Nat) : Int), gv c)
theorem pcL_snoc {gv : Nat → BitVec 64} {l : List Nat} {c : Nat} : pcL gv (l ++ [c]) = pcL gv l ++ if gv c = 0#64 then [] else [(((c : Nat) : Int), gv c)] := by
  unfold pcL
  rw [List.filter_append, List.map_append]
  congr 1
  by_cases e : gv c = 0#64
  · simp [e]
  · simp [e]
end Go.Am
