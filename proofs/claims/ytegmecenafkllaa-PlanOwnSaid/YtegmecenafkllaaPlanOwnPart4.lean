/- Parts of the proofs of the statements of this seat: AmIns, PlanInsD. No conditions. -/
import Derived.Test.YtegmecenafkllaaPlanOwnPart3
import Derived.Laws.IdiomCopy
set_option linter.unusedVariables false
set_option linter.unusedSimpArgs false

/- slices.Insert of one element, in our machine. -/
set_option linter.unusedVariables false
namespace Go.Am
open Go.RowKit

def insRow (u i : Nat) (row v : List Value) : List Value := row.take (i * u) ++ v ++ row.drop (i * u)

def X.insert (u by_ : Nat) : List Value → Mem → Option (Value × Mem)
  | [.slice none 0 0, .int .i64 i, .slice (some xa) 1 vc], m => if i = 0 then aApp none u by_ m (.slice none 0 0) (.slice (some xa) 1 vc) else none
  | [.slice (some ⟨b, o, none⟩) n cp, .int .i64 i, .slice (some ⟨vb, vo, none⟩) 1 vc], m =>
    if i = n then aApp none u by_ m (.slice (some ⟨b, o, none⟩) n cp) (.slice (some ⟨vb, vo, none⟩) 1 vc)
    else
      match m.blk b, m.blk vb with
      | some (.cells cs (some u')), some (.cells xs (some _)) =>
        if u' = u ∧ 0 < u ∧ 0 < by_ ∧ 0 ≤ i ∧ i < n ∧ vb ≠ b ∧ n ≤ cp ∧ o + cp * u = cs.length ∧ (n + 1) * by_ ≤ 2 ^ 47 ∧ n < 1000000000 ∧ vo + u ≤ xs.length ∧ oneCells ((cs.drop o).take (n * u)) = true ∧ oneCells ((xs.drop vo).take u) = true then
          some (.slice (some ⟨m.next, 0, none⟩) (n + 1) (n + 1), (m.set b none).new (.cells (insRow u i.toNat ((cs.drop o).take (n * u)) ((xs.drop vo).take u)) (some u)))
        else none
      | _, _ => none
  | _, _ => none

structure InsOk (P : Program) (f u by_ : Nat) (ts te : TypeId) : Prop where
  ht : P.underlying ts = some (.slice te)
  hs : szOf P te = some u
  hby : byOf P te = some by_
  hz : ∃ z, zeroOf P te = some z ∧ z.cells.size = u
  hu : 0 < u
  hb0 : 0 < by_
  shift : ∀ (b off n c i vb voff vc : Nat) (cs vs : List Value) (w : World), i < n → n + 1 ≤ c → n ≤ 1000000000 → vb ≠ b → cs.length = n * u → vs.length = u →
    (∀ j v, cs[j]? = some v → w.cell? ⟨b, off + j, none⟩ = some v) → (∀ j, j < (n + 1) * u → (w.cell? ⟨b, off + j, none⟩).isSome = true) → (∀ j, w.frozen? ⟨b, j, none⟩ = false) →
    (∀ j v, vs[j]? = some v → w.cell? ⟨vb, voff + j, none⟩ = some v) → (∀ v ∈ cs, v.oneCell' = true) → (∀ v ∈ vs, v.oneCell' = true) →
    ∀ (tA tB : TypeId) (kA kB : Nat), w.shape? vb = some (tA, kA) → w.shape? b = some (tB, kB) → kB ≠ 0 → w.frozen? ⟨vb, voff, none⟩ = false → w.frozen? ⟨vb, kA, none⟩ = false →
    Calls P f #[.slice (some ⟨b, off, none⟩) n c, .int .i64 i, .slice (some ⟨vb, voff, none⟩) 1 vc] w fun e w' =>
      e = .returned (.slice (some ⟨b, off, none⟩) (n + 1) c) ∧ w' = (w.drew.setCells b (off + (i + 1) * u) (cs.drop (i * u))).setCells b (off + i * u) vs
  grow : ∀ (b off n c i vb voff vc : Nat) (cs vs : List Value) (w : World), i < n → n ≤ c → c < n + 1 → (n + 1) * by_ ≤ 140737488355328 → vb ≠ b → cs.length = n * u → vs.length = u →
    (∀ j v, cs[j]? = some v → w.cell? ⟨b, off + j, none⟩ = some v) → (∀ j v, vs[j]? = some v → w.cell? ⟨vb, voff + j, none⟩ = some v) → (∀ v ∈ cs, v.oneCell' = true) → (∀ v ∈ vs, v.oneCell' = true) →
    Calls P f #[.slice (some ⟨b, off, none⟩) n c, .int .i64 i, .slice (some ⟨vb, voff, none⟩) 1 vc] w fun e w' =>
      ∃ (G : Nat) (R : Array Value), e = .returned (.slice (some ⟨w.heap.size, 0, none⟩) (n + 1) G) ∧ n + 1 ≤ G ∧ R.size = G * u ∧ (∀ j, j < i * u → R[j]? = cs[j]?) ∧
        w' = (((w.alloc (.cells R te)).drew.setCells w.heap.size (i * u) vs).drew).setCells w.heap.size ((i + 1) * u) (cs.drop (i * u))
  end_ : ∀ (base : Option Addr) (n c : Nat) (xa : Option Addr) (vc : Nat) (w w2 : World) (v2 : Value), n ≤ c → (base = none → c = 0) →
    (Builtin.append_ #[ts, ts] ts #[.slice base n c, .slice xa 1 vc]).run P w = .ok v2 w2 →
    Calls P f #[.slice base n c, .int .i64 n, .slice xa 1 vc] w fun e w' => e = .returned v2 ∧ w' = w2

variable {P : Program} {B0 : Nat} {σ : Inj} {m : Mem} {w : World}

theorem MR.setCells_out {B : Nat} (hB : B0 ≤ B) : ∀ (vs : List Value) (o : Nat) {w : World}, MR B0 σ m w → (∀ j, j < vs.length → ∃ u, w.cell? ⟨B, o + j, none⟩ = some u) →
    (∀ j, j < vs.length → ∀ b i c own, σ b = .live i → m.blk b = some (.cells c own) → ∀ k, k < i.len → (⟨B, o + j, none⟩ : Addr) ≠ ⟨i.block, i.off + k, none⟩) → MR B0 σ m (w.setCells B o vs) ∧ Below B0 w (w.setCells B o vs)
  | [], _, w, h, _, _ => ⟨h, Below.refl _ _⟩
  | v :: r, o, w, h, hc, ho => by
    have h1 := h.setCell_out (a := ⟨B, o, none⟩) (v := v) hB (by simpa using hc 0 (by simp)) (fun b i c own hb hm j hj => by simpa using ho 0 (by simp) b i c own hb hm j hj)
    obtain ⟨h2, h3⟩ := MR.setCells_out hB r (o + 1) h1 (fun j hj => by
      obtain ⟨x, hx⟩ := hc (j + 1) (by simp; omega)
      exact ⟨x, by rw [World.cell?_setCell_other _ _ _ _ (by simp; omega)]; rw [show o + 1 + j = o + (j + 1) by omega]; exact hx⟩) (fun j hj b i c own hb hm k hk => by
      have := ho (j + 1) (by simp; omega) b i c own hb hm k hk
      rwa [show o + (j + 1) = o + 1 + j by omega] at this)
    exact ⟨h2, ((Below.refl _ w).setCell hB v).trans h3⟩

/-- What really lies where a block's cells are. -/
theorem MR.real (h : MR B0 σ m w) {b o k : Nat} {i : Img} {c : List Value} {own : Option Nat} (hb : σ b = .live i) (hm : m.blk b = some (.cells c own)) (hle : o + k ≤ c.length) :
    ∃ C : List Value, C.length = k ∧ (∀ (j : Nat) v, C[j]? = some v → w.cell? ⟨i.block, i.off + o + j, none⟩ = some v) ∧ LR σ ((c.drop o).take k) C := by
  obtain ⟨-, hc⟩ := h.cells b i c own hb hm
  have key : ∀ j, j < k → ∃ v', w.cell? ⟨i.block, i.off + o + j, none⟩ = some v' ∧ ∀ v, c[o + j]? = some v → VR σ v v' := fun j hj => by
    obtain ⟨v', h1, h2⟩ := hc (o + j) c[o + j] (List.getElem?_eq_getElem (by omega))
    exact ⟨v', by rw [Nat.add_assoc]; exact h1, fun v hv => by rw [List.getElem?_eq_getElem (by omega)] at hv; cases hv; exact h2⟩
  refine ⟨List.ofFn fun j : _root_.Fin k => (key j.1 j.2).choose, by simp, fun j v hj => ?_, ?_, fun j x y hx hy => ?_⟩
  · have hjk : j < k := by have := (List.getElem?_eq_some_iff.1 hj).1; simpa using this
    rw [List.getElem?_ofFn] at hj
    simp only [hjk, dite_true, Option.some.injEq] at hj
    rw [← hj]; exact (key j hjk).choose_spec.1
  · simp; omega
  · have hjk : j < k := by have := (List.getElem?_eq_some_iff.1 hy).1; simpa using this
    rw [List.getElem?_ofFn] at hy
    simp only [hjk, dite_true, Option.some.injEq] at hy
    rw [List.getElem?_take, if_pos hjk, List.getElem?_drop] at hx
    rw [← hy]; exact (key j hjk).choose_spec.2 x hx

theorem oneCells_sub {a b : List Value} (h : oneCells a = true) (hs : ∀ x ∈ b, x ∈ a) : oneCells b = true := by
  unfold oneCells at *
  rw [List.all_eq_true] at *
  exact fun x hx => h x (hs x hx)
theorem one_mem {xs ys : List Value} (h : LR σ xs ys) (hx : oneCells xs = true) : ∀ v ∈ ys, v.oneCell' = true := by
  have := oneCells_lr h hx
  rwa [List.all_eq_true] at this
theorem LR.app {xs ys xs' ys' : List Value} (h : LR σ xs ys) (k : LR σ xs' ys') : LR σ (xs ++ xs') (ys ++ ys') :=
  ⟨by rw [List.length_append, List.length_append, h.1, k.1], fun j x y hx hy => by
    by_cases hj : j < xs.length
    · rw [List.getElem?_append_left hj] at hx
      rw [List.getElem?_append_left (by rw [← h.1]; exact hj)] at hy
      exact h.2 j x y hx hy
    · rw [List.getElem?_append_right (by omega)] at hx
      rw [List.getElem?_append_right (by rw [← h.1]; omega), ← h.1] at hy
      exact k.2 _ x y hx hy⟩
theorem LR.row {u i : Nat} {r r' v v' : List Value} (h : LR σ r r') (k : LR σ v v') : LR σ (insRow u i r v) (insRow u i r' v') := ((h.take _).app k).app (h.drop _)
theorem insRow_len {u i n : Nat} {r v : List Value} (hr : r.length = n * u) (hv : v.length = u) (hi : i < n) : (insRow u i r v).length = (n + 1) * u := by
  unfold insRow
  have h1 : i * u ≤ n * u := Nat.mul_le_mul_right _ (Nat.le_of_lt hi)
  rw [List.length_append, List.length_append, List.length_take, List.length_drop, hr, hv, Nat.succ_mul, Nat.min_eq_left h1]
  omega
/-- What stands in the new row, place by place. -/
theorem insRow_get {u i n j : Nat} {r v : List Value} (hr : r.length = n * u) (hv : v.length = u) (hi : i < n) :
    (insRow u i r v)[j]? = if j < i * u then r[j]? else if j < (i + 1) * u then v[j - i * u]? else (r.drop (i * u))[j - (i + 1) * u]? := by
  have hle : i * u ≤ n * u := Nat.mul_le_mul_right _ (Nat.le_of_lt hi)
  have e : (i + 1) * u = i * u + u := Nat.succ_mul _ _
  have hl : (r.take (i * u)).length = i * u := by rw [List.length_take]; omega
  unfold insRow
  rw [e]
  split
  · rw [List.getElem?_append_left (by rw [List.length_append, hl, hv]; omega), List.getElem?_append_left (by omega), List.getElem?_take, if_pos (by assumption)]
  · split
    · rw [List.getElem?_append_left (by rw [List.length_append, hl, hv]; omega), List.getElem?_append_right (by omega), hl]
    · rw [List.getElem?_append_right (by rw [List.length_append, hl, hv]; omega), List.length_append, hl, hv]

theorem X.insert_frame (u by_ : Nat) : ExtFrame (X.insert u by_) := by
  intro args m v m' k o hk hlt h
  have hb : ∀ {x : Nat} {ob : AObj}, m.blk x = some ob → x ≠ k ∧ (m.set k (some o)).blk x = some ob := fun {x ob} hx => by
    have : x ≠ k := by rintro rfl; rw [hk] at hx; cases hx
    exact ⟨this, by rw [Mem.set_ne _ _ this]; exact hx⟩
  unfold X.insert at h ⊢
  split at h
  · split at h
    · rename_i hi
      rw [if_pos hi]
      exact aApp_frame hk hlt (by simp) h
    · cases h
  · rename_i b oo n cp i vb vo vc
    split at h
    · rename_i hi
      rw [if_pos hi]
      exact aApp_frame hk hlt (by simp) h
    · rename_i hi
      rw [if_neg hi]
      split at h
      · rename_i cs u' xs u2 h1 h2
        split at h
        · rename_i hc
          obtain ⟨n1, e1⟩ := hb h1
          obtain ⟨n2, e2⟩ := hb h2
          simp only [e1, e2]
          rw [if_pos hc]
          cases h
          have hne : k ≠ m.next := by omega
          refine ⟨?_, ?_, ?_, ?_⟩
          · simp only [Mem.set_next, Option.some.injEq, Prod.mk.injEq, true_and]
            simp only [Mem.new, Mem.set]
            congr 1
            funext x
            by_cases h1 : x = k
            · subst h1; simp [hne, n1.symm]
            · simp [h1]; try rfl
          · simp [Mem.new, Mem.set, hne, hk]
          · simp [Mem.new]; omega
          · simp [Mem.new]
        · cases h
      · cases h
  · cases h

theorem MR.shape (h : MR B0 σ m w) {b : Nat} {i : Img} {c : List Value} {own : Option Nat} (hb : σ b = .live i) (hm : m.blk b = some (.cells c own)) (h0 : 0 < c.length) :
    ∃ (t : TypeId) (k : Nat), w.shape? i.block = some (t, k) ∧ k ≠ 0 := by
  obtain ⟨-, hc⟩ := h.cells b i c own hb hm
  obtain ⟨v', h1, -⟩ := hc 0 c[0] (List.getElem?_eq_getElem h0)
  unfold World.cell? at h1
  unfold World.shape?
  split at h1
  · rename_i hh
    refine ⟨_, _, by rw [hh], ?_⟩
    rename_i cc _ _
    simp only at h1
    intro e
    have : cc.size = 0 := e
    have h2 := (Array.getElem?_eq_some_iff.1 h1).1
    omega
  · cases h1

theorem some_setCells (b : Nat) (vs : List Value) (o : Nat) (w : World) (h : ∀ j, j < vs.length → (w.cell? ⟨b, o + j, none⟩).isSome = true) (k : Nat) (hk : (w.cell? ⟨b, k, none⟩).isSome = true) : ((w.setCells b o vs).cell? ⟨b, k, none⟩).isSome = true := by
  by_cases hin : o ≤ k ∧ k < o + vs.length
  · have := World.cell?_setCells_in b vs o w h (k - o) (by omega)
    rw [show o + (k - o) = k by omega] at this
    rw [this]; rfl
  · rw [World.cell?_setCells_out b vs o w ⟨b, k, none⟩ (fun _ _ => by show k < o ∨ o + vs.length ≤ k; omega)]
    exact hk

theorem ins_cells {u i n B off j : Nat} {C V : List Value} {W : World} (hC : C.length = n * u) (hV : V.length = u) (hi : i < n) (hj : j < (n + 1) * u) (h1 : ∀ q, q < i * u → W.cell? ⟨B, off + q, none⟩ = C[q]?) (h2 : ∀ q, q < (n + 1) * u → (W.cell? ⟨B, off + q, none⟩).isSome = true) :
    ((W.setCells B (off + (i + 1) * u) (C.drop (i * u))).setCells B (off + i * u) V).cell? ⟨B, off + j, none⟩ = (insRow u i C V)[j]? ∧
    ((W.setCells B (off + i * u) V).setCells B (off + (i + 1) * u) (C.drop (i * u))).cell? ⟨B, off + j, none⟩ = (insRow u i C V)[j]? := by
  have hle : i * u ≤ n * u := Nat.mul_le_mul_right _ (Nat.le_of_lt hi)
  have e : (i + 1) * u = i * u + u := Nat.succ_mul _ _
  have e2 : (n + 1) * u = n * u + u := Nat.succ_mul _ _
  have hD : (C.drop (i * u)).length = n * u - i * u := by rw [List.length_drop, hC]
  rw [insRow_get hC hV hi]
  constructor
  · split
    · rw [World.cell?_setCells_out _ _ _ _ _ (fun _ _ => by simp only; omega), World.cell?_setCells_out _ _ _ _ _ (fun _ _ => by simp only; omega)]
      exact h1 j (by assumption)
    · split
      · have := World.cell?_setCells_in B V (off + i * u) (W.setCells B (off + (i + 1) * u) (C.drop (i * u))) (fun q hq => some_setCells _ _ _ _ (fun t ht => by rw [Nat.add_assoc]; exact h2 _ (by omega)) _ (by rw [Nat.add_assoc]; exact h2 _ (by omega))) (j - i * u) (by omega)
        rw [show off + i * u + (j - i * u) = off + j by omega] at this
        rw [this, List.getElem?_eq_getElem (by omega)]
      · rw [World.cell?_setCells_out _ _ _ _ _ (fun _ _ => by simp only; omega)]
        have := World.cell?_setCells_in B (C.drop (i * u)) (off + (i + 1) * u) W (fun q hq => by rw [Nat.add_assoc]; exact h2 _ (by omega)) (j - (i + 1) * u) (by omega)
        rw [show off + (i + 1) * u + (j - (i + 1) * u) = off + j by omega] at this
        rw [this, List.getElem?_eq_getElem (by omega)]
  · split
    · rw [World.cell?_setCells_out _ _ _ _ _ (fun _ _ => by simp only; omega), World.cell?_setCells_out _ _ _ _ _ (fun _ _ => by simp only; omega)]
      exact h1 j (by assumption)
    · split
      · rw [World.cell?_setCells_out _ _ _ _ _ (fun _ _ => by simp only; omega)]
        have := World.cell?_setCells_in B V (off + i * u) W (fun q hq => by rw [Nat.add_assoc]; exact h2 _ (by omega)) (j - i * u) (by omega)
        rw [show off + i * u + (j - i * u) = off + j by omega] at this
        rw [this, List.getElem?_eq_getElem (by omega)]
      · have := World.cell?_setCells_in B (C.drop (i * u)) (off + (i + 1) * u) (W.setCells B (off + i * u) V) (fun q hq => some_setCells _ _ _ _ (fun t ht => by rw [Nat.add_assoc]; exact h2 _ (by omega)) _ (by rw [Nat.add_assoc]; exact h2 _ (by omega))) (j - (i + 1) * u) (by omega)
        rw [show off + (i + 1) * u + (j - (i + 1) * u) = off + j by omega] at this
        rw [this, List.getElem?_eq_getElem (by omega)]

theorem app_cap {u by_ b o n cp : Nat} {x v : Value} {m m' : Mem} (h : aApp none u by_ m (.slice (some ⟨b, o, none⟩) n cp) x = some (v, m')) (hx : sliceLen x = some 1) : n ≤ cp ∧ (m.blk b).isSome = true := by
  unfold aApp at h
  rw [hx] at h
  simp only [Option.bind_some] at h
  obtain ⟨xs, -, h'⟩ := Option.bind_eq_some_iff.1 h
  clear h
  simp only [Nat.one_ne_zero, if_false] at h'
  split at h'
  · obtain ⟨m1, h1, -⟩ := Option.map_eq_some_iff.1 h'
    refine ⟨by omega, ?_⟩
    unfold aWrite at h1
    split at h1
    · rename_i hb; rw [hb]; rfl
    · cases h1
  · split at h'
    · rename_i hb
      split at h'
      · rename_i hc
        exact ⟨hc.2.2.2.2.1, by rw [hb]; rfl⟩
      · cases h'
    · cases h'

theorem X.insert_sim {G : Nat → World → Prop} {f u by_ : Nat} {ts te : TypeId} (L : InsOk P f u by_ ts te) (args : List Value) (m : Mem) (v : Value) (m' : Mem) (h : X.insert u by_ args m = some (v, m')) : SimCall P G f args m v m' := by
  intro B0 σ args2 w hG hl hm
  obtain ⟨z, hz, hzs⟩ := L.hz
  unfold X.insert at h
  split at h
  · rename_i i xa vc
    split at h
    · rename_i hi
      subst hi
      obtain ⟨y1, r1, rfl, hy1, hr1⟩ := hl.cons_inv
      obtain ⟨y2, r2, rfl, hy2, hr2⟩ := hr1.cons_inv
      obtain ⟨y3, r3, rfl, hy3, hr3⟩ := hr2.cons_inv
      obtain rfl : r3 = [] := List.eq_nil_of_length_eq_zero hr3.1.symm
      obtain ⟨v2, w2, e1, e2⟩ := sim_app (P := P) (ty := ts) L.ht L.ht L.hs L.hby hz hzs L.hu L.hb0 hm (at_ := none) trivial hy1 hy3 h
      cases hy2
      cases hy1
      · have : ∃ xb vc', y3 = .slice xb 1 vc' := by cases hy3 <;> exact ⟨_, _, rfl⟩
        obtain ⟨xb, vc', rfl⟩ := this
        refine (L.end_ none 0 0 xb vc' w w2 v2 (Nat.le_refl _) (fun _ => rfl) e1).mono ?_
        rintro e w3 ⟨rfl, rfl⟩
        exact ⟨_, rfl, e2⟩
    · cases h
  · rename_i b o n cp i vb vo vc
    obtain ⟨y1, r1, rfl, hy1, hr1⟩ := hl.cons_inv
    obtain ⟨y2, r2, rfl, hy2, hr2⟩ := hr1.cons_inv
    obtain ⟨y3, r3, rfl, hy3, hr3⟩ := hr2.cons_inv
    obtain rfl : r3 = [] := List.eq_nil_of_length_eq_zero hr3.1.symm
    cases hy2
    split at h
    · rename_i hi
      subst hi
      obtain ⟨v2, w2, e1, e2⟩ := sim_app (P := P) (ty := ts) L.ht L.ht L.hs L.hby hz hzs L.hu L.hb0 hm (at_ := none) trivial hy1 hy3 h
      have h3 : ∃ xb vc', y3 = .slice xb 1 vc' := by cases hy3 <;> exact ⟨_, _, rfl⟩
      obtain ⟨xb, vc', rfl⟩ := h3
      obtain ⟨hnc, hsm⟩ := app_cap h rfl
      have h1 : ∃ q c', y1 = .slice (some q) n c' ∧ n ≤ c' := by
        cases hy1 with
        | slice q1 q2 q3 => exact ⟨_, _, rfl, Nat.le_trans hnc q2⟩
        | sliceZ q1 => exact ⟨_, _, rfl, Nat.le_refl _⟩
        | sliceDead q1 =>
          have := hm.dom b (fun i hi => by rw [q1] at hi; cases hi)
          rw [this] at hsm; cases hsm
      obtain ⟨q, c', rfl, hc'⟩ := h1
      refine (L.end_ (some q) n c' xb vc' w w2 v2 hc' (fun h => by cases h) e1).mono ?_
      rintro e w3 ⟨rfl, rfl⟩
      exact ⟨_, rfl, e2⟩
    · rename_i hi
      split at h
      · rename_i cs u' xs u2 h1 h2
        split at h
        · rename_i hc
          obtain ⟨rfl, hu0, hby0, hi0, hin, hvb, hncp, hocp, hbig, hn9, hvo, hone1, hone2⟩ := hc
          cases h
          obtain ⟨ib, hib⟩ := hm.live_of h1
          obtain ⟨iv, hiv⟩ := hm.live_of h2
          obtain ⟨ii, rfl⟩ : ∃ ii : Nat, i = ii := ⟨i.toNat, by omega⟩
          rw [Int.toNat_natCast]
          have hii : ii < n := by omega
          obtain ⟨hbu, hbB, hbrw⟩ := hm.rw b ib cs _ hib h1
          obtain ⟨hblen, -⟩ := hm.cells b ib cs _ hib h1
          obtain ⟨hvu, hvB, hvrw⟩ := hm.rw vb iv xs _ hiv h2
          obtain ⟨hvlen, -⟩ := hm.cells vb iv xs _ hiv h2
          have hnu : n * u' ≤ cp * u' := Nat.mul_le_mul_right _ hncp
          obtain ⟨C, hCl, hCc, hCr⟩ := hm.real (o := o) (k := n * u') hib h1 (by omega)
          obtain ⟨V, hVl, hVc, hVr⟩ := hm.real (o := vo) (k := u') hiv h2 hvo
          have hpos : 0 < n * u' := Nat.mul_pos (by omega) hu0
          have hy3' : ∃ vc', y3 = .slice (some ⟨iv.block, iv.off + vo, none⟩) 1 vc' := by
            cases hy3 with
            | slice q1 _ _ => rw [hiv] at q1; cases q1; exact ⟨_, rfl⟩
            | sliceDead q1 => rw [hiv] at q1; cases q1
          obtain ⟨vc', rfl⟩ := hy3'
          have hy1' : ∃ c', y1 = .slice (some ⟨ib.block, ib.off + o, none⟩) n c' ∧ n ≤ c' ∧ c' * u' ≤ cp * u' + ib.spare := by
            cases hy1 with
            | slice q1 q2 q3 =>
              rw [hib] at q1; cases q1
              rename_i c'
              refine ⟨c', rfl, by omega, ?_⟩
              by_cases hcc : cp < c'
              · have := (q3 hcc).2; rw [hbu] at this; exact this
              · have : c' = cp := by omega
                subst this; omega
            | sliceZ q1 => omega
            | sliceDead q1 => rw [hib] at q1; cases q1
          obtain ⟨c', rfl, hnc', hcsp⟩ := hy1'
          have hone1' : ∀ v ∈ C, v.oneCell' = true := one_mem hCr hone1
          have hone2' : ∀ v ∈ V, v.oneCell' = true := one_mem hVr hone2
          have hblk : iv.block ≠ ib.block := hm.apart vb b iv ib hvb hiv hib (.inl ⟨_, _, h2⟩)
          have hmk : MR B0 (σ.set b .dead) (m.set b none) w := hm.kill b (by rw [hib]; nofun)
          have hEk : Evo σ (σ.set b .dead) := Evo.set_dead
          have hothers : ∀ b' i', Inj.set σ b .dead b' = .live i' → i'.block ≠ ib.block := fun b' i' hb' => by
            have hne : b' ≠ b := by rintro rfl; rw [Inj.set_self] at hb'; cases hb'
            rw [Inj.set_ne _ _ hne] at hb'
            exact fun e => hm.apart b b' ib i' (fun e => hne e.symm) hib hb' (.inl ⟨_, _, h1⟩) e.symm
          have hfr : (Inj.set σ b .dead) m.next = .fresh := by
            rw [Inj.set_ne]; exact hm.fresh _ (Nat.le_refl _)
            intro e; rw [← e, hm.fresh _ (Nat.le_refl _)] at hib; cases hib
          have hCl' : C.length = n * u' := hCl
          have hrowl := insRow_len hCl' hVl hii
          have hrowA : (insRow u' ii ((cs.drop o).take (n * u')) ((xs.drop vo).take u')).length = (n + 1) * u' := insRow_len (by rw [hCr.1, hCl]) (by rw [hVr.1, hVl]) hii
          have hLR : LR (σ.set b .dead) (insRow u' ii ((cs.drop o).take (n * u')) ((xs.drop vo).take u')) (insRow u' ii C V) := by
            have := LR.row (u := u') (i := ii) hCr hVr
            exact ⟨this.1, fun j x y hx hy => (this.2 j x y hx hy).mono hEk⟩
          have fin : ∀ {w2 : World} {B off G : Nat}, MR B0 (σ.set b .dead) (m.set b none) w2 → B0 ≤ B → B < w2.heap.size → n + 1 ≤ G → (∀ j, j < (n + 1) * u' → w2.cell? ⟨B, off + j, none⟩ = (insRow u' ii C V)[j]?) →
              (∀ j, j < G * u' → (w2.cell? ⟨B, off + j, none⟩).isSome = true) → (∀ q, w2.frozen? ⟨B, q, none⟩ = false) → (∀ b' i', Inj.set σ b .dead b' = .live i' → B ≠ i'.block) → Below B0 w w2 →
              OpR P B0 σ m w none (.slice (some ⟨m.next, 0, none⟩) (n + 1) (n + 1)) ((m.set b none).new (.cells (insRow u' ii ((cs.drop o).take (n * u')) ((xs.drop vo).take u')) (some u'))) (.slice (some ⟨B, off, none⟩) (n + 1) G) w2 := by
            intro w2 B off G hm2 hB0 hBl hG hcell hex hfz hoth hbel
            have hle : (n + 1) * u' ≤ G * u' := Nat.mul_le_mul_right _ hG
            have := hm2.adopt (u := u') (c := insRow u' ii ((cs.drop o).take (n * u')) ((xs.drop vo).take u')) (i := ⟨B, off, (n + 1) * u', G * u' - (n + 1) * u', u'⟩) hB0 hBl hrowA.symm rfl (fun j x hj => by
                have hjl : j < (n + 1) * u' := by rw [← hrowA]; exact (List.getElem?_eq_some_iff.1 hj).1
                obtain ⟨y, hy, hv⟩ := hLR.get hj
                exact ⟨y, by rw [hcell j hjl]; exact hy, hv⟩) (fun j hj => ⟨Option.isSome_iff_exists.1 (hex j (by simp only at hj; omega)), hfz⟩) (fun b' i' hb' => hoth b' i' hb')
            refine ⟨(σ.set b .dead).set m.next (.live ⟨B, off, (n + 1) * u', G * u' - (n + 1) * u', u'⟩), ?_, this, hEk.trans (Evo.set_fresh hfr _), hbel, by simp [Mem.new], fun b' hb' _ hf => ?_⟩
            · exact VR.slice (i := ⟨B, off, (n + 1) * u', G * u' - (n + 1) * u', u'⟩) (by exact Inj.set_self _ _ _) hG (fun _ => by simp; omega)
            · rw [Inj.set_ne _ _ (by omega), Inj.set_ne]; exact hf
              rintro rfl; rw [hib] at hf; cases hf
          have hlb := hm.lt b ib hib
          have hle1 : (ii + 1) * u' ≤ (n + 1) * u' := Nat.mul_le_mul_right _ (by omega)
          have e1 : (ii + 1) * u' = ii * u' + u' := Nat.succ_mul _ _
          have e2 : (n + 1) * u' = n * u' + u' := Nat.succ_mul _ _
          have hle0 : ii * u' ≤ n * u' := Nat.mul_le_mul_right _ (by omega)
          by_cases hroom : n + 1 ≤ c'
          · have hlec : (n + 1) * u' ≤ c' * u' := Nat.mul_le_mul_right _ hroom
            have hsp : ∀ j, j < c' * u' → (w.cell? ⟨ib.block, ib.off + o + j, none⟩).isSome = true := fun j hj => by
              obtain ⟨⟨x, hx⟩, -⟩ := hbrw (o + j) (by omega)
              rw [Nat.add_assoc, hx]; rfl
            have hfz : ∀ q, w.frozen? ⟨ib.block, q, none⟩ = false := (hbrw 0 (by omega)).2
            obtain ⟨tA, kA, hsa, -⟩ := hm.shape hiv h2 (by omega)
            obtain ⟨tB, kB, hsb, hkB⟩ := hm.shape hib h1 (by omega)
            have hfv := (hvrw 0 (by omega)).2
            refine (L.shift ib.block (ib.off + o) n c' ii iv.block (iv.off + vo) vc' C V w hii hroom (by omega) hblk hCl hVl hCc (fun j hj => hsp j (by omega)) hfz hVc hone1' hone2' tA tB kA kB hsa hsb hkB (hfv _) (hfv _)).mono ?_
            rintro e w2 ⟨rfl, rfl⟩
            refine ⟨_, rfl, ?_⟩
            have hd0 : MR B0 (σ.set b .dead) (m.set b none) w.drew := hmk.same rfl
            have hout : ∀ (p : Nat), ∀ b0 i0 c0 own, Inj.set σ b .dead b0 = .live i0 → (m.set b none).blk b0 = some (.cells c0 own) → ∀ k, k < i0.len → (⟨ib.block, p, none⟩ : Addr) ≠ ⟨i0.block, i0.off + k, none⟩ := fun p b0 i0 c0 own hb0 _ k _ e => by
              simp only [Addr.mk.injEq] at e
              exact hothers b0 i0 hb0 e.1.symm
            have hdl : (C.drop (ii * u')).length = n * u' - ii * u' := by rw [List.length_drop, hCl]
            obtain ⟨hm1, hb1⟩ := MR.setCells_out hbB (C.drop (ii * u')) (ib.off + o + (ii + 1) * u') hd0 (fun j hj => Option.isSome_iff_exists.1 (by rw [Nat.add_assoc (ib.off + o)]; exact hsp _ (by omega))) (fun j hj => hout _)
            have hsp1 : ∀ j, j < c' * u' → ((w.drew.setCells ib.block (ib.off + o + (ii + 1) * u') (C.drop (ii * u'))).cell? ⟨ib.block, ib.off + o + j, none⟩).isSome = true := fun j hj =>
              some_setCells _ _ _ _ (fun t ht => by rw [Nat.add_assoc (ib.off + o)]; exact hsp _ (by omega)) _ (hsp j hj)
            obtain ⟨hm2, hb2⟩ := MR.setCells_out hbB V (ib.off + o + ii * u') hm1 (fun j hj => Option.isSome_iff_exists.1 (by rw [Nat.add_assoc (ib.off + o)]; exact hsp1 _ (by omega))) (fun j hj => hout _)
            have hbel := ((Below.refl B0 w).drew.trans hb1).trans hb2
            refine fin hm2 hbB (Nat.lt_of_lt_of_le hlb (by have := (((Below.refl w.heap.size w).drew).size); exact Nat.le_of_eq (by
                have sz : ∀ (vs : List Value) (q : Nat) (W : World), (W.setCells ib.block q vs).heap.size = W.heap.size := by
                  intro vs
                  induction vs with
                  | nil => intro q W; rfl
                  | cons x vs ih => intro q W; rw [World.setCells, ih]; simp
                rw [sz, sz]; rfl))) hroom (fun j hj => (ins_cells (W := w.drew) hCl hVl hii hj (fun q hq => by
                  have : q < C.length := by omega
                  rw [List.getElem?_eq_getElem this]
                  exact hCc q _ (List.getElem?_eq_getElem this)) (fun q hq => hsp q (by omega))).1) (fun j hj => some_setCells _ _ _ _ (fun t ht => by rw [Nat.add_assoc (ib.off + o)]; exact hsp1 _ (by omega)) _ (hsp1 j hj)) (fun q => by
                  rw [World.frozen?_setCells, World.frozen?_setCells]; exact hfz q) (fun b' i' hb' e => hothers b' i' hb' e.symm) hbel
          · refine (L.grow ib.block (ib.off + o) n c' ii iv.block (iv.off + vo) vc' C V w hii hnc' (by omega) hbig hblk hCl hVl hCc hVc hone1' hone2').mono ?_
            rintro e w2 ⟨G, Rw, rfl, hG, hRs, hRc, rfl⟩
            refine ⟨_, rfl, ?_⟩
            have hleG : (n + 1) * u' ≤ G * u' := Nat.mul_le_mul_right _ hG
            have hBw : Below w.heap.size w (((w.alloc (.cells Rw te)).drew.setCells w.heap.size (ii * u') V).drew.setCells w.heap.size ((ii + 1) * u') (C.drop (ii * u'))) := by
              have sc : ∀ (vs : List Value) (q : Nat) (W : World), Below w.heap.size w W → Below w.heap.size w (W.setCells w.heap.size q vs) := by
                intro vs
                induction vs with
                | nil => intro q W h; exact h
                | cons x vs ih => intro q W h; rw [World.setCells]; exact ih _ _ (h.setCell (Nat.le_refl _) x)
              exact sc _ _ _ (sc _ _ _ (((Below.refl _ w).alloc (Nat.le_refl _) _).drew)).drew
            have hA : ∀ j, (w.alloc (.cells Rw te)).cell? ⟨w.heap.size, j, none⟩ = Rw[j]? := fun j => World.cell?_alloc_new _ _ _ _
            have hex0 : ∀ j, j < G * u' → ((w.alloc (.cells Rw te)).cell? ⟨w.heap.size, 0 + j, none⟩).isSome = true := fun j hj => by
              rw [Nat.zero_add, hA, Array.getElem?_eq_getElem (by omega)]; rfl
            have hw2 : ((w.alloc (.cells Rw te)).drew.setCells w.heap.size (ii * u') V).drew.setCells w.heap.size ((ii + 1) * u') (C.drop (ii * u')) = (((w.alloc (.cells Rw te)).setCells w.heap.size (0 + ii * u') V).setCells w.heap.size (0 + (ii + 1) * u') (C.drop (ii * u'))).drew.drew := by
              have dr : ∀ (vs : List Value) (q : Nat) (W : World), W.drew.setCells w.heap.size q vs = (W.setCells w.heap.size q vs).drew := by
                intro vs
                induction vs with
                | nil => intro q W; rfl
                | cons x vs ih => intro q W; rw [World.setCells, World.setCells, ← ih]; rfl
              rw [dr, dr, dr, Nat.zero_add, Nat.zero_add]
            have hdl : (C.drop (ii * u')).length = n * u' - ii * u' := by rw [List.length_drop, hCl]
            have hex1 : ∀ j, j < G * u' → (((w.alloc (.cells Rw te)).setCells w.heap.size (0 + ii * u') V).cell? ⟨w.heap.size, 0 + j, none⟩).isSome = true := fun j hj =>
              some_setCells _ _ _ _ (fun t ht => by rw [Nat.add_assoc]; exact hex0 _ (by omega)) _ (hex0 j hj)
            refine fin (hmk.below hBw) hm.size ?_ hG (fun j hj => ?_) (fun j hj => ?_) (fun q => ?_) (fun b' i' hb' => ?_) (hBw.mono hm.size)
            · have := hBw.size
              have sz : ∀ (vs : List Value) (q : Nat) (W : World), (W.setCells w.heap.size q vs).heap.size = W.heap.size := by
                intro vs
                induction vs with
                | nil => intro q W; rfl
                | cons x vs ih => intro q W; rw [World.setCells, ih]; simp
              rw [sz]
              show w.heap.size < (World.setCells _ _ _ _).heap.size
              rw [sz]
              show w.heap.size < (w.heap.push _).size
              simp
            · rw [hw2]
              exact (ins_cells (off := 0) hCl hVl hii hj (fun q hq => by rw [Nat.zero_add, hA]; exact hRc q hq) (fun q hq => hex0 q (by omega))).2
            · rw [hw2]
              exact some_setCells _ _ _ _ (fun t ht => by rw [Nat.add_assoc]; exact hex1 _ (by omega)) _ (hex1 j hj)
            · rw [World.frozen?_setCells]
              show World.frozen? (World.setCells _ _ _ _) _ = false
              rw [World.frozen?_setCells]
              exact World.frozen?_alloc_new w Rw te q
            · have hne : b' ≠ b := by rintro rfl; rw [Inj.set_self] at hb'; cases hb'
              rw [Inj.set_ne _ _ hne] at hb'
              have := hm.lt b' i' hb'
              omega
        · cases h
      · cases h
  · cases h
end Go.Am
namespace Go.Proofs
open Go.RowKit
theorem run_copy_k {P : Program} (w : World) (k : Nat) (dT sT ty elem : TypeId) (b o dLen dCap : Nat) (a : Addr) (sLen sCap n : Nat) (cs : List Value)
    (hu : P.underlying dT = some (.slice elem)) (hs : (P.info? elem).map (·.size) = some k) (hn : n = Nat.min sLen dLen) (hl : cs.length = n * k)
    (hsrc : ∀ j v, cs[j]? = some v → w.cell? (a.add j) = some v) (hc : ∀ j, j < cs.length → (w.cell? ⟨b, o + j, none⟩).isSome = true) (hf : ∀ j, j < cs.length → w.frozen? ⟨b, o + j, none⟩ = false) (h1 : ∀ v ∈ cs, v.oneCell' = true) :
    (Builtin.copy_ #[dT, sT] ty #[.slice (some ⟨b, o, none⟩) dLen dCap, .slice (some a) sLen sCap]).run P w = .ok (goInt n) (w.setCells b o cs) := by
  have hld := run_loadCells_list (P := P) w a cs hsrc
  rw [hl] at hld
  have hst := run_storeCells_cells (P := P) b o cs 0 w (by simpa using hc) (by simpa using hf) h1
  cases hq : P.info? elem with
  | none => simp [hq] at hs
  | some i =>
    have hi : i.size = k := by simpa [hq] using hs
    simp [Builtin.copy_, run_underlying hu, Builtin.lenOf, Builtin.firstCells, sizeOf, typeInfo, hq, hi, ← hn, hld, hst]
end Go.Proofs


/- What stands for slices.Insert of one element at this program (insgen.py). -/
namespace Go.Am
def X.in54 : List Value → Mem → Option (Value × Mem) := X.insert 4 48
theorem X.in54_frame : ExtFrame X.in54 := X.insert_frame _ _
end Go.Am
