/- Parts of the proofs of the statements of this seat: AmBase, AmMem, AmMem2, AmOps, AmSim1, AmComp, AmSim2, AmSim3, AmSim4, AmSim5, AmSim6, AmSim7. No conditions. -/
import Derived.Control
import Derived.Calls
import Derived.Below
import Derived.Orders
import Derived.Laws.Sem
import Derived.Laws.World
set_option linter.unusedVariables false
set_option linter.unusedSimpArgs false

/- The abstract memory: blocks by number, with no capacities' draws and no order's draws; how it relates to the model's memory. -/
namespace Go.Am

/-- A block: cells (read-only: 'none'; its own: 'some u', u the cells of an element), or a map. -/
inductive AObj where
  | cells (c : List Value) (own : Option Nat)
  | map (es : List (Value × Value))

structure Mem where
  next : Nat
  blk : Nat → Option AObj

def Mem.set (m : Mem) (b : Nat) (o : Option AObj) : Mem := { m with blk := fun k => if k = b then o else m.blk k }
def Mem.bump (m : Mem) (n : Nat) : Mem := { m with next := m.next + n }

/-- Where a block lies in the model's memory. -/
structure Img where
  block : Nat
  off : Nat
  len : Nat
  spare : Nat
  unit : Nat

inductive St where
  | fresh
  | dead
  | live (i : Img)

abbrev Inj := Nat → St

inductive VR (σ : Inj) : Value → Value → Prop
  | bool (b : Bool) : VR σ (.bool b) (.bool b)
  | int (k : IntKind) (n : Int) : VR σ (.int k n) (.int k n)
  | float (k : FloatKind) (n : Nat) : VR σ (.float k n) (.float k n)
  | string (s : ByteArray) : VR σ (.string s) (.string s)
  | ptrNil : VR σ (.pointer none) (.pointer none)
  | ptr {b o : Nat} {i : Img} (h : σ b = .live i) : VR σ (.pointer (some ⟨b, o, none⟩)) (.pointer (some ⟨i.block, i.off + o, none⟩))
  | ptrDead {b o : Nat} {q : Addr} (h : σ b = .dead) : VR σ (.pointer (some ⟨b, o, none⟩)) (.pointer (some q))
  | sliceNil : VR σ (.slice none 0 0) (.slice none 0 0)
  | slice {b o n c c' : Nat} {i : Img} (h : σ b = .live i) (hc : c ≤ c') (hx : c < c' → o + c * i.unit = i.len ∧ c' * i.unit ≤ c * i.unit + i.spare) :
      VR σ (.slice (some ⟨b, o, none⟩) n c) (.slice (some ⟨i.block, i.off + o, none⟩) n c')
  | sliceZ {b o : Nat} {q : Addr} (h : σ b ≠ .fresh) : VR σ (.slice (some ⟨b, o, none⟩) 0 0) (.slice (some q) 0 0)
  | sliceDead {b o n c c' : Nat} {q : Addr} (h : σ b = .dead) : VR σ (.slice (some ⟨b, o, none⟩) n c) (.slice (some q) n c')
  | mapNil : VR σ (.map none) (.map none)
  | map {r : Nat} {i : Img} (h : σ r = .live i) : VR σ (.map (some r)) (.map (some i.block))
  | mapDead {r : Nat} {q : Nat} (h : σ r = .dead) : VR σ (.map (some r)) (.map (some q))
  | nilFunc : VR σ .nilFunc .nilFunc
  | func (fn : Fn) {xs ys zs ws : Array Value} (h1 : xs.size = ys.size) (h2 : ∀ (i : Nat) (hi : i < xs.size) (hj : i < ys.size), VR σ xs[i] ys[i])
      (h3 : zs.size = ws.size) (h4 : ∀ (i : Nat) (hi : i < zs.size) (hj : i < ws.size), VR σ zs[i] ws[i]) : VR σ (.func fn xs zs) (.func fn ys ws)
  | nilIface : VR σ .nilIface .nilIface
  | iface (t : TypeId) {v v' : Value} (h : VR σ v v') : VR σ (.iface t v) (.iface t v')
  | agg {xs ys : Array Value} (h1 : xs.size = ys.size) (h2 : ∀ (i : Nat) (hi : i < xs.size) (hj : i < ys.size), VR σ xs[i] ys[i]) : VR σ (.agg xs) (.agg ys)
  | tuple {xs ys : Array Value} (h1 : xs.size = ys.size) (h2 : ∀ (i : Nat) (hi : i < xs.size) (hj : i < ys.size), VR σ xs[i] ys[i]) : VR σ (.tuple xs) (.tuple ys)

/-- How the blocks' places may change: what lives stays where it is, or dies. -/
def Evo (σ σ' : Inj) : Prop := ∀ b, (∀ i, σ b = .live i → σ' b = .live i ∨ σ' b = .dead) ∧ (σ b = .dead → σ' b = .dead)

theorem Evo.refl (σ : Inj) : Evo σ σ := fun _ => ⟨fun _ h => .inl h, fun h => h⟩

theorem Evo.trans {a b c : Inj} (h : Evo a b) (k : Evo b c) : Evo a c := fun x => ⟨fun i hi => by
  rcases (h x).1 i hi with h1 | h1
  · exact (k x).1 i h1
  · exact .inr ((k x).2 h1), fun hd => (k x).2 ((h x).2 hd)⟩

theorem Evo.ne_fresh {σ σ' : Inj} (h : Evo σ σ') {b : Nat} (hb : σ b ≠ .fresh) : σ' b ≠ .fresh := by
  intro h'
  cases hs : σ b with
  | fresh => exact hb hs
  | dead => have := (h b).2 hs; rw [h'] at this; cases this
  | live i => rcases (h b).1 i hs with h1 | h1 <;> rw [h'] at h1 <;> cases h1

theorem VR.mono {σ σ' : Inj} (he : Evo σ σ') {v v' : Value} (h : VR σ v v') : VR σ' v v' := by
  induction h with
  | bool b => exact .bool b
  | int k n => exact .int k n
  | float k n => exact .float k n
  | string s => exact .string s
  | ptrNil => exact .ptrNil
  | @ptr b o i h => rcases (he b).1 i h with h1 | h1; exact .ptr h1; exact .ptrDead h1
  | @ptrDead b o q h => exact .ptrDead ((he b).2 h)
  | sliceNil => exact .sliceNil
  | @slice b o n c c' i h hc hx => rcases (he b).1 i h with h1 | h1; exact .slice h1 hc hx; exact .sliceDead h1
  | @sliceZ b o q h => exact .sliceZ (he.ne_fresh h)
  | @sliceDead b o n c c' q h => exact .sliceDead ((he b).2 h)
  | mapNil => exact .mapNil
  | @map r i h => 
    rcases (he r).1 i h with h1 | h1
    · exact .map h1
    · exact .mapDead h1
  | @mapDead r q h => exact .mapDead ((he r).2 h)
  | nilFunc => exact .nilFunc
  | func fn h1 _ h3 _ ih1 ih2 => exact .func fn h1 ih1 h3 ih2
  | nilIface => exact .nilIface
  | iface t _ ih => exact .iface t ih
  | agg h1 _ ih => exact .agg h1 ih
  | tuple h1 _ ih => exact .tuple h1 ih
end Go.Am


/- How an abstract memory relates to the model's, and what allocation, stores and deaths do to that. -/
namespace Go.Am
open Go.RowKit

def Inj.set (σ : Inj) (b : Nat) (s : St) : Inj := fun k => if k = b then s else σ k
@[simp] theorem Inj.set_self (σ : Inj) (b : Nat) (s : St) : Inj.set σ b s b = s := by simp [Inj.set]
theorem Inj.set_ne (σ : Inj) {b k : Nat} (s : St) (h : k ≠ b) : Inj.set σ b s k = σ k := by simp [Inj.set, h]
@[simp] theorem Mem.set_self (m : Mem) (b : Nat) (o : Option AObj) : (m.set b o).blk b = o := by simp [Mem.set]
theorem Mem.set_ne (m : Mem) {b k : Nat} (o : Option AObj) (h : k ≠ b) : (m.set b o).blk k = m.blk k := by simp [Mem.set, h]
@[simp] theorem Mem.set_next (m : Mem) (b : Nat) (o : Option AObj) : (m.set b o).next = m.next := rfl
@[simp] theorem Mem.bump_blk (m : Mem) (n : Nat) : (m.bump n).blk = m.blk := rfl
@[simp] theorem Mem.bump_next (m : Mem) (n : Nat) : (m.bump n).next = m.next + n := rfl

theorem Evo.set_fresh {σ : Inj} {b : Nat} (h : σ b = .fresh) (s : St) : Evo σ (σ.set b s) := fun k => by
  by_cases hk : k = b
  · subst hk; rw [h]; exact ⟨fun _ h => (by cases h), fun h => (by cases h)⟩
  · rw [Inj.set_ne _ _ hk]; exact ⟨fun _ h => .inl h, fun h => h⟩

theorem Evo.set_dead {σ : Inj} {b : Nat} : Evo σ (σ.set b .dead) := fun k => by
  by_cases hk : k = b
  · subst hk; simp
  · rw [Inj.set_ne _ _ hk]; exact ⟨fun _ h => .inl h, fun h => h⟩

def Img.disj (i i' : Img) : Prop := i.block ≠ i'.block

theorem Img.disj.symm {i i' : Img} (h : i.disj i') : i'.disj i := by
  exact fun e => h e.symm

def Mem.Own (m : Mem) (b : Nat) : Prop := (∃ c u, m.blk b = some (.cells c (some u))) ∨ ∃ es, m.blk b = some (.map es)

def MapR (σ : Inj) (es : List (Value × Value)) (ES : Array MapEntry) : Prop :=
  es.length = ES.size ∧ ∀ (j : Nat) (k v : Value), es[j]? = some (k, v) → ∃ e : MapEntry, ES[j]? = some e ∧ VR σ k e.key ∧ VR σ v e.val

/-- No two entries of one age, and the clock is past all ages. -/
def Bst (ES : Array MapEntry) (cl : Nat) : Prop := (∀ x ∈ ES.toList, x.born < cl) ∧ (ES.toList.map (·.born)).Nodup
def MapS (σ : Inj) (es : List (Value × Value)) (ES : Array MapEntry) (cl : Nat) : Prop := MapR σ es ES ∧ Bst ES cl

structure MR (B0 : Nat) (σ : Inj) (m : Mem) (w : World) : Prop where
  size : B0 ≤ w.heap.size
  fresh : ∀ b, m.next ≤ b → σ b = .fresh
  dom : ∀ b, (∀ i, σ b ≠ .live i) → m.blk b = none
  lt : ∀ b i, σ b = .live i → i.block < w.heap.size
  obj : ∀ b i, σ b = .live i → (∃ c own, m.blk b = some (.cells c own)) ∨ (∃ es, m.blk b = some (.map es))
  cells : ∀ b i c own, σ b = .live i → m.blk b = some (.cells c own) → i.len = c.length ∧
    ∀ (j : Nat) v, c[j]? = some v → ∃ v', w.cell? ⟨i.block, i.off + j, none⟩ = some v' ∧ VR σ v v'
  ro : ∀ b i c, σ b = .live i → m.blk b = some (.cells c none) → i.spare = 0 ∧ 0 < i.unit
  rw : ∀ b i c u, σ b = .live i → m.blk b = some (.cells c (some u)) → i.unit = u ∧ B0 ≤ i.block ∧
    ∀ j, j < i.len + i.spare → (∃ v', w.cell? ⟨i.block, i.off + j, none⟩ = some v') ∧ ∀ o, w.frozen? ⟨i.block, o, none⟩ = false
  map : ∀ b i es, σ b = .live i → m.blk b = some (.map es) → (i.off = 0 ∧ i.len = 1 ∧ i.spare = 0 ∧ B0 ≤ i.block) ∧
    ∃ ES clock, w.heap[i.block]? = some (.map ES clock) ∧ MapS σ es ES clock
  apart : ∀ b b' i i', b ≠ b' → σ b = .live i → σ b' = .live i' → m.Own b → i.disj i'

theorem MapR.mono {σ σ' : Inj} (he : Evo σ σ') {es : List (Value × Value)} {ES : Array MapEntry} (h : MapR σ es ES) : MapR σ' es ES :=
  ⟨h.1, fun j k v hj => let ⟨e, a, b, c⟩ := h.2 j k v hj; ⟨e, a, b.mono he, c.mono he⟩⟩

theorem MapS.mono {σ σ' : Inj} (he : Evo σ σ') {es : List (Value × Value)} {ES : Array MapEntry} {cl : Nat} (h : MapS σ es ES cl) : MapS σ' es ES cl := ⟨h.1.mono he, h.2⟩

variable {B0 : Nat} {σ : Inj} {m : Mem} {w : World}

theorem MR.live_of {b : Nat} {o : AObj} (h : MR B0 σ m w) (hb : m.blk b = some o) : ∃ i, σ b = .live i := by
  apply Classical.byContradiction
  intro hn
  have := h.dom b (fun i hi => hn ⟨i, hi⟩)
  rw [hb] at this; cases this

theorem MR.bump (h : MR B0 σ m w) (n : Nat) : MR B0 σ (m.bump n) w :=
  ⟨h.size, fun b hb => h.fresh b (by simp at hb; omega), h.dom, h.lt, h.obj, h.cells, h.ro, h.rw, h.map, h.apart⟩

/-- A cell of the memory changes that no living block has, or that a block has as its spare. -/
theorem MR.setCell_out (h : MR B0 σ m w) {a : Addr} {v : Value} (ha : B0 ≤ a.block) (hc : ∃ u, w.cell? a = some u)
    (hout : ∀ b i c own, σ b = .live i → m.blk b = some (.cells c own) → ∀ j, j < i.len → a ≠ ⟨i.block, i.off + j, none⟩) : MR B0 σ m (w.setCell a v) := by
  obtain ⟨u0, hu0⟩ := hc
  refine ⟨by simpa using h.size, h.fresh, h.dom, fun b i hb => by simpa using h.lt b i hb, h.obj, ?_, h.ro, ?_, ?_, h.apart⟩
  · intro b i c own hb hm
    obtain ⟨h1, h2⟩ := h.cells b i c own hb hm
    refine ⟨h1, fun j x hj => ?_⟩
    have hlt : j < i.len := by rw [h1]; exact (List.getElem?_eq_some_iff.1 hj).1
    obtain ⟨v', hv', hr⟩ := h2 j x hj
    exact ⟨v', by rw [World.cell?_setCell_other _ _ _ _ (hout b i c own hb hm j hlt)]; exact hv', hr⟩
  · intro b i c u hb hm
    obtain ⟨h1, h2, h3⟩ := h.rw b i c u hb hm
    refine ⟨h1, h2, fun j hj => ⟨?_, fun o => by rw [World.frozen?_setCell]; exact (h3 j hj).2 o⟩⟩
    obtain ⟨v', hv'⟩ := (h3 j hj).1
    by_cases he : a = ⟨i.block, i.off + j, none⟩
    · subst he; exact ⟨v, World.cell?_setCell_same _ _ _ hu0⟩
    · exact ⟨v', by rw [World.cell?_setCell_other _ _ _ _ he]; exact hv'⟩
  · intro b i es hb hm
    obtain ⟨h1, ES, cl, h2, h3⟩ := h.map b i es hb hm
    refine ⟨h1, ES, cl, ?_, h3⟩
    rw [Below.heap_setCell]; exact h2
    intro e
    have : w.heap[a.block]? = some (.map ES cl) := by rw [← e]; exact h2
    simp [World.cell?, this] at hu0

/-- A store into an own block. -/
theorem MR.store (h : MR B0 σ m w) {b j u : Nat} {i : Img} {c : List Value} {v v' : Value} (hb : σ b = .live i) (hm : m.blk b = some (.cells c (some u)))
    (hj : j < c.length) (hv : VR σ v v') : MR B0 σ (m.set b (some (.cells (c.set j v) (some u)))) (w.setCell ⟨i.block, i.off + j, none⟩ v') := by
  obtain ⟨hu, hB, hrw⟩ := h.rw b i c u hb hm
  obtain ⟨hlen, hcells⟩ := h.cells b i c _ hb hm
  have hown : m.Own b := .inl ⟨c, u, hm⟩
  obtain ⟨⟨u0, hu0⟩, hfz⟩ := hrw j (by omega)
  have key : ∀ b' i', b' ≠ b → σ b' = .live i' → ∀ k, k < i'.len + i'.spare → (⟨i.block, i.off + j, none⟩ : Addr) ≠ ⟨i'.block, i'.off + k, none⟩ := by
    intro b' i' hne hb' k hk e
    simp only [Addr.mk.injEq, and_true] at e
    exact h.apart b b' i i' (fun e => hne e.symm) hb hb' hown e.1
  refine ⟨by simpa using h.size, h.fresh, ?_, fun b i hb => by simpa using h.lt b i hb, ?_, ?_, ?_, ?_, ?_, ?_⟩
  · intro b' hn
    by_cases e : b' = b
    · subst e; exact absurd hb (hn i)
    · rw [Mem.set_ne _ _ e]; exact h.dom b' hn
  · intro b' i' hb'
    by_cases e : b' = b
    · subst e; exact .inl ⟨_, _, Mem.set_self _ _ _⟩
    · rw [Mem.set_ne _ _ e]; exact h.obj b' i' hb'
  · intro b' i' c' own hb' hm'
    by_cases e : b' = b
    · subst e
      rw [Mem.set_self] at hm'
      obtain ⟨rfl, rfl⟩ : c.set j v = c' ∧ some u = own := by simpa using hm'
      obtain rfl : i = i' := by rw [hb] at hb'; simpa using hb'
      refine ⟨by simpa using hlen, fun k x hk => ?_⟩
      by_cases ek : k = j
      · subst ek
        rw [List.getElem?_set_self (by omega)] at hk
        obtain rfl : v = x := by simpa using hk
        exact ⟨v', World.cell?_setCell_same _ _ _ hu0, hv⟩
      · rw [List.getElem?_set_ne (fun e => ek e.symm)] at hk
        obtain ⟨v2, h1, h2⟩ := hcells k x hk
        refine ⟨v2, ?_, h2⟩
        rw [World.cell?_setCell_other]; exact h1
        intro e2; simp only [Addr.mk.injEq, and_true, true_and] at e2; omega
    · rw [Mem.set_ne _ _ e] at hm'
      obtain ⟨h1, h2⟩ := h.cells b' i' c' own hb' hm'
      refine ⟨h1, fun k x hk => ?_⟩
      have hlt : k < c'.length := (List.getElem?_eq_some_iff.1 hk).1
      obtain ⟨v2, h3, h4⟩ := h2 k x hk
      exact ⟨v2, by rw [World.cell?_setCell_other _ _ _ _ (key b' i' e hb' k (by omega))]; exact h3, h4⟩
  · intro b' i' c' hb' hm'
    by_cases e : b' = b
    · subst e; rw [Mem.set_self] at hm'; simp at hm'
    · rw [Mem.set_ne _ _ e] at hm'; exact h.ro b' i' c' hb' hm'
  · intro b' i' c' u' hb' hm'
    have base : i'.unit = u' ∧ B0 ≤ i'.block ∧ ∀ k, k < i'.len + i'.spare → (∃ v', w.cell? ⟨i'.block, i'.off + k, none⟩ = some v') ∧ ∀ o, w.frozen? ⟨i'.block, o, none⟩ = false := by
      by_cases e : b' = b
      · subst e
        rw [Mem.set_self] at hm'
        obtain ⟨_, rfl⟩ : c.set j v = c' ∧ u = u' := by simpa using hm'
        obtain rfl : i = i' := by rw [hb] at hb'; simpa using hb'
        exact ⟨hu, hB, hrw⟩
      · rw [Mem.set_ne _ _ e] at hm'; exact h.rw b' i' c' u' hb' hm'
    refine ⟨base.1, base.2.1, fun k hk => ⟨?_, fun o => by rw [World.frozen?_setCell]; exact (base.2.2 k hk).2 o⟩⟩
    obtain ⟨x, hx⟩ := (base.2.2 k hk).1
    by_cases he : (⟨i.block, i.off + j, none⟩ : Addr) = ⟨i'.block, i'.off + k, none⟩
    · rw [← he]; exact ⟨v', World.cell?_setCell_same _ _ _ hu0⟩
    · exact ⟨x, by rw [World.cell?_setCell_other _ _ _ _ he]; exact hx⟩
  · intro b' i' es hb' hm'
    by_cases e : b' = b
    · subst e; rw [Mem.set_self] at hm'; simp at hm'
    · rw [Mem.set_ne _ _ e] at hm'
      obtain ⟨h1, ES, cl, h2, h3⟩ := h.map b' i' es hb' hm'
      refine ⟨h1, ES, cl, ?_, h3⟩
      rw [Below.heap_setCell]; exact h2
      intro e2
      have : w.heap[i.block]? = some (.map ES cl) := by rw [← show i'.block = i.block from e2]; exact h2
      simp [World.cell?, this] at hu0
  · intro b1 b2 i1 i2 hne h1 h2 ho
    refine h.apart b1 b2 i1 i2 hne h1 h2 ?_
    by_cases e : b1 = b
    · subst e; exact hown
    · rcases ho with ⟨c', u', hc⟩ | ⟨es, hc⟩
      · rw [Mem.set_ne _ _ e] at hc; exact .inl ⟨c', u', hc⟩
      · rw [Mem.set_ne _ _ e] at hc; exact .inr ⟨es, hc⟩
end Go.Am


/- New blocks, deaths, blocks that grow in place, maps. -/
namespace Go.Am
open Go.RowKit

variable {B0 : Nat} {σ : Inj} {m : Mem} {w : World}

/-- The world may draw from its tape. -/
theorem MR.same {w' : World} (h : MR B0 σ m w) (hh : w'.heap = w.heap) : MR B0 σ m w' := by
  have hc : ∀ a, w'.cell? a = w.cell? a := fun a => by simp [World.cell?, hh]
  have hf : ∀ a, w'.frozen? a = w.frozen? a := fun a => by simp [World.frozen?, hh]
  refine ⟨by rw [hh]; exact h.size, h.fresh, h.dom, fun b i hb => by rw [hh]; exact h.lt b i hb, h.obj, ?_, h.ro, ?_, ?_, h.apart⟩
  · intro b i c own hb hm
    obtain ⟨h1, h2⟩ := h.cells b i c own hb hm
    exact ⟨h1, fun j v hj => by rw [hc]; exact h2 j v hj⟩
  · intro b i c u hb hm
    obtain ⟨h1, h2, h3⟩ := h.rw b i c u hb hm
    exact ⟨h1, h2, fun j hj => ⟨by rw [hc]; exact (h3 j hj).1, fun o => by rw [hf]; exact (h3 j hj).2 o⟩⟩
  · intro b i es hb hm
    rw [hh]; exact h.map b i es hb hm

/-- A block dies: nobody may use it any more. -/
theorem MR.kill (h : MR B0 σ m w) (b : Nat) (hb : σ b ≠ .fresh) : MR B0 (σ.set b .dead) (m.set b none) w := by
  have he : Evo σ (σ.set b .dead) := Evo.set_dead
  have ne : ∀ {b' i}, Inj.set σ b .dead b' = .live i → b' ≠ b ∧ σ b' = .live i := by
    intro b' i hb'
    by_cases e : b' = b
    · subst e; simp at hb'
    · exact ⟨e, by rw [Inj.set_ne _ _ e] at hb'; exact hb'⟩
  refine ⟨h.size, ?_, ?_, fun b' i hb' => h.lt b' i (ne hb').2, ?_, ?_, ?_, ?_, ?_, ?_⟩
  · intro b' hb'
    have hf := h.fresh b' hb'
    rw [Inj.set_ne]; exact hf
    intro e; subst e; exact hb hf
  · intro b' hn
    by_cases e : b' = b
    · subst e; simp
    · rw [Mem.set_ne _ _ e]; exact h.dom b' fun i hi => hn i (by rw [Inj.set_ne _ _ e]; exact hi)
  · intro b' i hb'
    obtain ⟨e, hb'⟩ := ne hb'
    rw [Mem.set_ne _ _ e]; exact h.obj b' i hb'
  · intro b' i c own hb' hm
    obtain ⟨e, hb'⟩ := ne hb'
    rw [Mem.set_ne _ _ e] at hm
    obtain ⟨h1, h2⟩ := h.cells b' i c own hb' hm
    exact ⟨h1, fun j v hj => let ⟨v', a, b⟩ := h2 j v hj; ⟨v', a, b.mono he⟩⟩
  · intro b' i c hb' hm
    obtain ⟨e, hb'⟩ := ne hb'
    rw [Mem.set_ne _ _ e] at hm
    exact h.ro b' i c hb' hm
  · intro b' i c u hb' hm
    obtain ⟨e, hb'⟩ := ne hb'
    rw [Mem.set_ne _ _ e] at hm
    exact h.rw b' i c u hb' hm
  · intro b' i es hb' hm
    obtain ⟨e, hb'⟩ := ne hb'
    rw [Mem.set_ne _ _ e] at hm
    obtain ⟨h1, ES, cl, h2, h3⟩ := h.map b' i es hb' hm
    exact ⟨h1, ES, cl, h2, h3.mono he⟩
  · intro b1 b2 i1 i2 hne h1 h2 ho
    obtain ⟨e1, h1⟩ := ne h1
    obtain ⟨e2, h2⟩ := ne h2
    refine h.apart b1 b2 i1 i2 hne h1 h2 ?_
    rcases ho with ⟨c', u', hc⟩ | ⟨es, hc⟩
    · rw [Mem.set_ne _ _ e1] at hc; exact .inl ⟨c', u', hc⟩
    · rw [Mem.set_ne _ _ e1] at hc; exact .inr ⟨es, hc⟩

/-- A new block of cells. -/
theorem MR.new (h : MR B0 σ m w) {b : Nat} (hb : σ b = .fresh) (hlt : b < m.next) {c : List Value} {C : Array Value} (e : TypeId) (s u : Nat)
    (hlen : C.size = c.length + s) (hrel : ∀ (j : Nat) v, c[j]? = some v → ∃ v', C[j]? = some v' ∧ VR σ v v') :
    MR B0 (σ.set b (.live ⟨w.heap.size, 0, c.length, s, u⟩)) (m.set b (some (.cells c (some u)))) (w.alloc (.cells C e)) := by
  have he : Evo σ (σ.set b (.live ⟨w.heap.size, 0, c.length, s, u⟩)) := Evo.set_fresh hb _
  have part : ∀ {b' i}, Inj.set σ b (.live ⟨w.heap.size, 0, c.length, s, u⟩) b' = .live i → (b' = b ∧ i = ⟨w.heap.size, 0, c.length, s, u⟩) ∨ (b' ≠ b ∧ σ b' = .live i) := by
    intro b' i hb'
    by_cases e : b' = b
    · subst e; simp at hb'; exact .inl ⟨rfl, hb'.symm⟩
    · exact .inr ⟨e, by rw [Inj.set_ne _ _ e] at hb'; exact hb'⟩
  have old : ∀ {a : Addr}, a.block < w.heap.size → (w.alloc (.cells C e)).cell? a = w.cell? a := fun ha => World.cell?_alloc_lt _ _ _ ha
  have oldf : ∀ {a : Addr}, a.block < w.heap.size → (w.alloc (.cells C e)).frozen? a = w.frozen? a := fun ha => World.frozen?_alloc_old _ _ _ (by omega)
  have olo : ∀ k, k < w.heap.size → (w.alloc (.cells C e)).heap[k]? = w.heap[k]? := fun k hk => Below.heap_alloc w _ k hk
  refine ⟨by have := h.size; simp; omega, ?_, ?_, ?_, ?_, ?_, ?_, ?_, ?_, ?_⟩
  · intro b' hb'
    rw [Inj.set_ne]; exact h.fresh b' hb'
    rintro rfl; simp at hb'; try omega
  · intro b' hn
    by_cases e : b' = b
    · subst e; exact absurd (Inj.set_self _ _ _) (hn _)
    · rw [Mem.set_ne _ _ e]; exact h.dom b' fun i hi => hn i (by rw [Inj.set_ne _ _ e]; exact hi)
  · intro b' i hb'
    rcases part hb' with ⟨rfl, rfl⟩ | ⟨e, hb'⟩
    · simp
    · have := h.lt b' i hb'; simp; omega
  · intro b' i hb'
    rcases part hb' with ⟨rfl, rfl⟩ | ⟨e, hb'⟩
    · exact .inl ⟨_, _, Mem.set_self _ _ _⟩
    · rw [Mem.set_ne _ _ e]; exact h.obj b' i hb'
  · intro b' i c' own hb' hm
    rcases part hb' with ⟨rfl, rfl⟩ | ⟨e, hb'⟩
    · rw [Mem.set_self] at hm
      obtain ⟨rfl, rfl⟩ : c = c' ∧ some u = own := by simpa using hm
      refine ⟨rfl, fun j v hj => ?_⟩
      obtain ⟨v', h1, h2⟩ := hrel j v hj
      exact ⟨v', by simpa using h1, h2.mono he⟩
    · rw [Mem.set_ne _ _ e] at hm
      obtain ⟨h1, h2⟩ := h.cells b' i c' own hb' hm
      refine ⟨h1, fun j v hj => ?_⟩
      obtain ⟨v', a, b⟩ := h2 j v hj
      exact ⟨v', by rw [old (h.lt b' i hb')]; exact a, b.mono he⟩
  · intro b' i c' hb' hm
    rcases part hb' with ⟨rfl, rfl⟩ | ⟨e, hb'⟩
    · rw [Mem.set_self] at hm; simp at hm
    · rw [Mem.set_ne _ _ e] at hm; exact h.ro b' i c' hb' hm
  · intro b' i c' u' hb' hm
    rcases part hb' with ⟨rfl, rfl⟩ | ⟨e, hb'⟩
    · rw [Mem.set_self] at hm
      obtain ⟨rfl, rfl⟩ : c = c' ∧ u = u' := by simpa using hm
      refine ⟨rfl, h.size, fun j hj => ⟨?_, ?_⟩⟩
      · simp only at hj
        refine ⟨C[j]'(by omega), ?_⟩
        simp only [Nat.zero_add, World.cell?_alloc_new]
        exact Array.getElem?_eq_getElem _
      · exact fun o => World.frozen?_alloc_new _ _ _ _
    · rw [Mem.set_ne _ _ e] at hm
      obtain ⟨h1, h2, h3⟩ := h.rw b' i c' u' hb' hm
      exact ⟨h1, h2, fun j hj => ⟨by rw [old (h.lt b' i hb')]; exact (h3 j hj).1, fun o => by rw [oldf (h.lt b' i hb')]; exact (h3 j hj).2 o⟩⟩
  · intro b' i es hb' hm
    rcases part hb' with ⟨rfl, rfl⟩ | ⟨e, hb'⟩
    · rw [Mem.set_self] at hm; simp at hm
    · rw [Mem.set_ne _ _ e] at hm
      obtain ⟨h1, ES, cl, h2, h3⟩ := h.map b' i es hb' hm
      exact ⟨h1, ES, cl, by rw [olo _ (h.lt b' i hb')]; exact h2, h3.mono he⟩
  · intro b1 b2 i1 i2 hne h1 h2 ho
    rcases part h1 with ⟨rfl, rfl⟩ | ⟨e1, h1'⟩ <;> rcases part h2 with ⟨rfl, rfl⟩ | ⟨e2, h2'⟩
    · exact absurd rfl hne
    · have := h.lt b2 i2 h2'; show _ ≠ _; simp; omega
    · have := h.lt b1 i1 h1'; show _ ≠ _; simp; omega
    · refine h.apart b1 b2 i1 i2 hne h1' h2' ?_
      rcases ho with ⟨c', u', hc⟩ | ⟨es, hc⟩
      · rw [Mem.set_ne _ _ e1] at hc; exact .inl ⟨c', u', hc⟩
      · rw [Mem.set_ne _ _ e1] at hc; exact .inr ⟨es, hc⟩

/-- A new, empty map. -/
theorem MR.newMap (h : MR B0 σ m w) {b : Nat} (hb : σ b = .fresh) (hlt : b < m.next) :
    MR B0 (σ.set b (.live ⟨w.heap.size, 0, 1, 0, 0⟩)) (m.set b (some (.map []))) (w.alloc (.map #[] 0)) := by
  have he : Evo σ (σ.set b (.live ⟨w.heap.size, 0, 1, 0, 0⟩)) := Evo.set_fresh hb _
  have part : ∀ {b' i}, Inj.set σ b (.live ⟨w.heap.size, 0, 1, 0, 0⟩) b' = .live i → (b' = b ∧ i = ⟨w.heap.size, 0, 1, 0, 0⟩) ∨ (b' ≠ b ∧ σ b' = .live i) := by
    intro b' i hb'
    by_cases e : b' = b
    · subst e; simp at hb'; exact .inl ⟨rfl, hb'.symm⟩
    · exact .inr ⟨e, by rw [Inj.set_ne _ _ e] at hb'; exact hb'⟩
  have old : ∀ {a : Addr}, a.block < w.heap.size → (w.alloc (.map #[] 0)).cell? a = w.cell? a := fun ha => World.cell?_alloc_lt _ _ _ ha
  have oldf : ∀ {a : Addr}, a.block < w.heap.size → (w.alloc (.map #[] 0)).frozen? a = w.frozen? a := fun ha => World.frozen?_alloc_old _ _ _ (by omega)
  have olo : ∀ k, k < w.heap.size → (w.alloc (.map #[] 0)).heap[k]? = w.heap[k]? := fun k hk => Below.heap_alloc w _ k hk
  refine ⟨by have := h.size; simp; omega, ?_, ?_, ?_, ?_, ?_, ?_, ?_, ?_, ?_⟩
  · intro b' hb'
    rw [Inj.set_ne]; exact h.fresh b' hb'
    rintro rfl; simp at hb'; try omega
  · intro b' hn
    by_cases e : b' = b
    · subst e; exact absurd (Inj.set_self _ _ _) (hn _)
    · rw [Mem.set_ne _ _ e]; exact h.dom b' fun i hi => hn i (by rw [Inj.set_ne _ _ e]; exact hi)
  · intro b' i hb'
    rcases part hb' with ⟨rfl, rfl⟩ | ⟨e, hb'⟩
    · simp
    · have := h.lt b' i hb'; simp; omega
  · intro b' i hb'
    rcases part hb' with ⟨rfl, rfl⟩ | ⟨e, hb'⟩
    · exact .inr ⟨_, Mem.set_self _ _ _⟩
    · rw [Mem.set_ne _ _ e]; exact h.obj b' i hb'
  · intro b' i c' own hb' hm
    rcases part hb' with ⟨rfl, rfl⟩ | ⟨e, hb'⟩
    · rw [Mem.set_self] at hm; simp at hm
    · rw [Mem.set_ne _ _ e] at hm
      obtain ⟨h1, h2⟩ := h.cells b' i c' own hb' hm
      refine ⟨h1, fun j v hj => ?_⟩
      obtain ⟨v', a, b⟩ := h2 j v hj
      exact ⟨v', by rw [old (h.lt b' i hb')]; exact a, b.mono he⟩
  · intro b' i c' hb' hm
    rcases part hb' with ⟨rfl, rfl⟩ | ⟨e, hb'⟩
    · exact absurd (hm.symm.trans (Mem.set_self _ _ _)) (by simp)
    · rw [Mem.set_ne _ _ e] at hm; exact h.ro b' i c' hb' hm
  · intro b' i c' u' hb' hm
    rcases part hb' with ⟨rfl, rfl⟩ | ⟨e, hb'⟩
    · rw [Mem.set_self] at hm; simp at hm
    · rw [Mem.set_ne _ _ e] at hm
      obtain ⟨h1, h2, h3⟩ := h.rw b' i c' u' hb' hm
      exact ⟨h1, h2, fun j hj => ⟨by rw [old (h.lt b' i hb')]; exact (h3 j hj).1, fun o => by rw [oldf (h.lt b' i hb')]; exact (h3 j hj).2 o⟩⟩
  · intro b' i es hb' hm
    rcases part hb' with ⟨rfl, rfl⟩ | ⟨e, hb'⟩
    · rw [Mem.set_self] at hm
      obtain rfl : [] = es := by simpa using hm
      refine ⟨⟨rfl, rfl, rfl, h.size⟩, #[], 0, by show (w.heap.push _)[w.heap.size]? = _; simp, ⟨rfl, by simp⟩, by simp, by simp⟩
    · rw [Mem.set_ne _ _ e] at hm
      obtain ⟨h1, ES, cl, h2, h3⟩ := h.map b' i es hb' hm
      exact ⟨h1, ES, cl, by rw [olo _ (h.lt b' i hb')]; exact h2, h3.mono he⟩
  · intro b1 b2 i1 i2 hne h1 h2 ho
    rcases part h1 with ⟨rfl, rfl⟩ | ⟨e1, h1'⟩ <;> rcases part h2 with ⟨rfl, rfl⟩ | ⟨e2, h2'⟩
    · exact absurd rfl hne
    · have := h.lt b2 i2 h2'; show _ ≠ _; simp; omega
    · have := h.lt b1 i1 h1'; show _ ≠ _; simp; omega
    · refine h.apart b1 b2 i1 i2 hne h1' h2' ?_
      rcases ho with ⟨c', u', hc⟩ | ⟨es, hc⟩
      · rw [Mem.set_ne _ _ e1] at hc; exact .inl ⟨c', u', hc⟩
      · rw [Mem.set_ne _ _ e1] at hc; exact .inr ⟨es, hc⟩

/-- A map's entries change. -/
theorem MR.setMap (h : MR B0 σ m w) {b : Nat} {i : Img} {es es' : List (Value × Value)} {ES' : Array MapEntry} {cl' : Nat} (hb : σ b = .live i)
    (hm : m.blk b = some (.map es)) (hr : MapS σ es' ES' cl') :
    MR B0 σ (m.set b (some (.map es'))) { w with heap := w.heap.setIfInBounds i.block (.map ES' cl') } := by
  obtain ⟨⟨ho, hl, hs, hB⟩, ES, cl, hw, _⟩ := h.map b i es hb hm
  have hlt := h.lt b i hb
  have other : ∀ k, k ≠ i.block → (w.heap.setIfInBounds i.block (.map ES' cl'))[k]? = w.heap[k]? := fun k hk => Array.getElem?_setIfInBounds_ne (Ne.symm hk)
  have hcell : ∀ a u, w.cell? a = some u → ({ w with heap := w.heap.setIfInBounds i.block (.map ES' cl') } : World).cell? a = some u := by
    intro a u ha
    have : a.block ≠ i.block := by intro e; rw [World.cell?, e, hw] at ha; simp at ha
    simp only [World.cell?]; rw [other _ this]; exact ha
  have hfz : ∀ a, w.frozen? a = false → ({ w with heap := w.heap.setIfInBounds i.block (.map ES' cl') } : World).frozen? a = false := by
    intro a ha
    by_cases e : a.block = i.block
    · simp only [World.frozen?]; rw [e, Array.getElem?_setIfInBounds_self_of_lt hlt]
    · simp only [World.frozen?]; rw [other _ e]; exact ha
  refine ⟨by simpa using h.size, h.fresh, ?_, fun b i hb => by simpa using h.lt b i hb, ?_, ?_, ?_, ?_, ?_, ?_⟩
  · intro b' hn
    by_cases e : b' = b
    · subst e; exact absurd hb (hn i)
    · rw [Mem.set_ne _ _ e]; exact h.dom b' hn
  · intro b' i' hb'
    by_cases e : b' = b
    · subst e; exact .inr ⟨_, Mem.set_self _ _ _⟩
    · rw [Mem.set_ne _ _ e]; exact h.obj b' i' hb'
  · intro b' i' c' own hb' hm'
    by_cases e : b' = b
    · subst e; rw [Mem.set_self] at hm'; simp at hm'
    · rw [Mem.set_ne _ _ e] at hm'
      obtain ⟨h1, h2⟩ := h.cells b' i' c' own hb' hm'
      refine ⟨h1, fun k x hk => ?_⟩
      obtain ⟨v2, h3, h4⟩ := h2 k x hk
      exact ⟨v2, hcell _ _ h3, h4⟩
  · intro b' i' c' hb' hm'
    by_cases e : b' = b
    · subst e; rw [Mem.set_self] at hm'; simp at hm'
    · rw [Mem.set_ne _ _ e] at hm'; exact h.ro b' i' c' hb' hm'
  · intro b' i' c' u' hb' hm'
    by_cases e : b' = b
    · subst e; rw [Mem.set_self] at hm'; simp at hm'
    · rw [Mem.set_ne _ _ e] at hm'
      obtain ⟨h1, h2, h3⟩ := h.rw b' i' c' u' hb' hm'
      refine ⟨h1, h2, fun k hk => ⟨?_, fun o => hfz _ ((h3 k hk).2 o)⟩⟩
      obtain ⟨x, hx⟩ := (h3 k hk).1
      exact ⟨x, hcell _ _ hx⟩
  · intro b' i' es1 hb' hm'
    by_cases e : b' = b
    · subst e
      rw [Mem.set_self] at hm'
      obtain rfl : es' = es1 := by simpa using hm'
      obtain rfl : i = i' := by rw [hb] at hb'; simpa using hb'
      exact ⟨⟨ho, hl, hs, hB⟩, ES', cl', by simp only [Array.getElem?_setIfInBounds_self_of_lt hlt], hr⟩
    · rw [Mem.set_ne _ _ e] at hm'
      obtain ⟨h1, ES1, cl1, h2, h3⟩ := h.map b' i' es1 hb' hm'
      refine ⟨h1, ES1, cl1, ?_, h3⟩
      have hd := h.apart b' b i' i e hb' hb (.inr ⟨_, hm'⟩)
      have : i'.block ≠ i.block := hd
      show (w.heap.setIfInBounds i.block (.map ES' cl'))[i'.block]? = _
      rw [other _ this]; exact h2
  · intro b1 b2 i1 i2 hne h1 h2 ho'
    refine h.apart b1 b2 i1 i2 hne h1 h2 ?_
    by_cases e : b1 = b
    · subst e; exact .inr ⟨_, hm⟩
    · rcases ho' with ⟨c', u', hc⟩ | ⟨es, hc⟩
      · rw [Mem.set_ne _ _ e] at hc; exact .inl ⟨c', u', hc⟩
      · rw [Mem.set_ne _ _ e] at hc; exact .inr ⟨es, hc⟩

/-- A block grows in place: what was its spare becomes a new block's, from 'o' on; the old number dies. -/
theorem MR.grow (h : MR B0 σ m w) {b b' o n u : Nat} {i : Img} {c xs : List Value} (hb : σ b = .live i) (hm : m.blk b = some (.cells c (some u)))
    (hb' : σ b' = .fresh) (hlt : b' < m.next) (ho : o ≤ c.length) (hn : xs.length = n) (hsp : n ≤ i.spare)
    (hcells : ∀ (j : Nat) v, xs[j]? = some v → ∃ v', w.cell? ⟨i.block, i.off + c.length + j, none⟩ = some v' ∧ VR σ v v') :
    MR B0 ((σ.set b .dead).set b' (.live ⟨i.block, i.off + o, c.length - o + n, i.spare - n, u⟩)) ((m.set b none).set b' (some (.cells (c.drop o ++ xs) (some u)))) w := by
  have hne : b ≠ b' := by rintro rfl; rw [hb] at hb'; cases hb'
  have he : Evo σ ((σ.set b .dead).set b' (.live ⟨i.block, i.off + o, c.length - o + n, i.spare - n, u⟩)) :=
    Evo.trans Evo.set_dead (Evo.set_fresh (by rw [Inj.set_ne _ _ (Ne.symm hne)]; exact hb') _)
  obtain ⟨hu, hB, hrw⟩ := h.rw b i c u hb hm
  obtain ⟨hlen, hcs⟩ := h.cells b i c _ hb hm
  have part : ∀ {k i'}, Inj.set (Inj.set σ b .dead) b' (.live ⟨i.block, i.off + o, c.length - o + n, i.spare - n, u⟩) k = .live i' →
      (k = b' ∧ i' = ⟨i.block, i.off + o, c.length - o + n, i.spare - n, u⟩) ∨ (k ≠ b' ∧ k ≠ b ∧ σ k = .live i') := by
    intro k i' hk
    by_cases e : k = b'
    · subst e; simp at hk; exact .inl ⟨rfl, hk.symm⟩
    · rw [Inj.set_ne _ _ e] at hk
      by_cases e2 : k = b
      · subst e2; simp at hk
      · exact .inr ⟨e, e2, by rw [Inj.set_ne _ _ e2] at hk; exact hk⟩
  have mem : ∀ {k}, k ≠ b' → k ≠ b → ((m.set b none).set b' (some (.cells (c.drop o ++ xs) (some u)))).blk k = m.blk k := by
    intro k h1 h2; rw [Mem.set_ne _ _ h1, Mem.set_ne _ _ h2]
  refine ⟨h.size, ?_, ?_, ?_, ?_, ?_, ?_, ?_, ?_, ?_⟩
  · intro k hk
    have hf := h.fresh k hk
    rw [Inj.set_ne, Inj.set_ne]
    · exact hf
    · rintro rfl; rw [hb] at hf; cases hf
    · rintro rfl; simp at hk; omega
  · intro k hn'
    by_cases e : k = b'
    · subst e; exact absurd (Inj.set_self _ _ _) (hn' _)
    · rw [Mem.set_ne _ _ e]
      by_cases e2 : k = b
      · subst e2; simp
      · rw [Mem.set_ne _ _ e2]; exact h.dom k fun i hi => hn' i (by rw [Inj.set_ne _ _ e, Inj.set_ne _ _ e2]; exact hi)
  · intro k i' hk
    rcases part hk with ⟨rfl, rfl⟩ | ⟨e, e2, hk⟩
    · exact h.lt b i hb
    · exact h.lt k i' hk
  · intro k i' hk
    rcases part hk with ⟨rfl, rfl⟩ | ⟨e, e2, hk⟩
    · exact .inl ⟨_, _, Mem.set_self _ _ _⟩
    · rw [mem e e2]; exact h.obj k i' hk
  · intro k i' c' own hk hm'
    rcases part hk with ⟨rfl, rfl⟩ | ⟨e, e2, hk⟩
    · rw [Mem.set_self] at hm'
      obtain ⟨rfl, rfl⟩ : c.drop o ++ xs = c' ∧ some u = own := by simpa using hm'
      refine ⟨by simp [hn], fun j v hj => ?_⟩
      by_cases hj' : j < c.length - o
      · rw [List.getElem?_append_left (by simpa using hj'), List.getElem?_drop] at hj
        obtain ⟨v', h1, h2⟩ := hcs _ _ hj
        exact ⟨v', by rw [← h1]; congr 2; show i.off + o + j = i.off + (o + j); omega, h2.mono he⟩
      · rw [List.getElem?_append_right (by simp; omega)] at hj
        obtain ⟨v', h1, h2⟩ := hcells _ _ hj
        refine ⟨v', ?_, h2.mono he⟩
        rw [← h1]
        have hl : (c.drop o).length = c.length - o := by simp
        congr 2
        show i.off + o + j = i.off + c.length + (j - (c.drop o).length)
        rw [hl]; omega
    · rw [mem e e2] at hm'
      obtain ⟨h1, h2⟩ := h.cells k i' c' own hk hm'
      exact ⟨h1, fun j v hj => let ⟨v', a, b⟩ := h2 j v hj; ⟨v', a, b.mono he⟩⟩
  · intro k i' c' hk hm'
    rcases part hk with ⟨rfl, rfl⟩ | ⟨e, e2, hk⟩
    · rw [Mem.set_self] at hm'; simp at hm'
    · rw [mem e e2] at hm'; exact h.ro k i' c' hk hm'
  · intro k i' c' u' hk hm'
    rcases part hk with ⟨rfl, rfl⟩ | ⟨e, e2, hk⟩
    · rw [Mem.set_self] at hm'
      obtain ⟨_, rfl⟩ : c.drop o ++ xs = c' ∧ u = u' := by simpa using hm'
      refine ⟨rfl, hB, fun j hj => ?_⟩
      simp only at hj ⊢
      have := hrw (o + j) (by omega)
      rw [← Nat.add_assoc] at this
      exact this
    · rw [mem e e2] at hm'; exact h.rw k i' c' u' hk hm'
  · intro k i' es hk hm'
    rcases part hk with ⟨rfl, rfl⟩ | ⟨e, e2, hk⟩
    · rw [Mem.set_self] at hm'; simp at hm'
    · rw [mem e e2] at hm'
      obtain ⟨h1, ES, cl, h2, h3⟩ := h.map k i' es hk hm'
      exact ⟨h1, ES, cl, h2, h3.mono he⟩
  · intro b1 b2 i1 i2 hne' h1 h2 ho'
    rcases part h1 with ⟨rfl, rfl⟩ | ⟨e1, e1', h1'⟩ <;> rcases part h2 with ⟨rfl, rfl⟩ | ⟨e2, e2', h2'⟩
    · exact absurd rfl hne'
    · exact h.apart b b2 i i2 (Ne.symm e2') hb h2' (.inl ⟨c, u, hm⟩)
    · have ho2 : m.Own b1 := by
        rcases ho' with ⟨c', u', hc⟩ | ⟨es, hc⟩
        · rw [mem e1 e1'] at hc; exact .inl ⟨c', u', hc⟩
        · rw [mem e1 e1'] at hc; exact .inr ⟨es, hc⟩
      exact h.apart b1 b i1 i e1' h1' hb ho2
    · refine h.apart b1 b2 i1 i2 hne' h1' h2' ?_
      rcases ho' with ⟨c', u', hc⟩ | ⟨es, hc⟩
      · rw [mem e1 e1'] at hc; exact .inl ⟨c', u', hc⟩
      · rw [mem e1 e1'] at hc; exact .inr ⟨es, hc⟩
end Go.Am


/- The abstract machine: operations, regions, code, functions over the abstract memory. -/
namespace Go.Am

abbrev Env := List (Nat × Value)

def Env.get : Env → Nat → Option Value
  | [], _ => none
  | (k, v) :: r, n => bif Nat.beq k n then some v else Env.get r n

def Env.keep (ks : List Nat) (e : Env) : Env := ks.filterMap fun k => (Env.get e k).map fun v => (k, v)

inductive X where
  | t (n : Nat)
  | c (v : Value)
  | f (n : Nat)

def X.ev (e : Env) : X → Option Value
  | .t n => Env.get e n
  | .c v => some v
  | .f n => some (.func (.func n) #[] #[])

def evs (e : Env) : List X → Option (List Value)
  | [] => some []
  | x :: r => (x.ev e).bind fun v => (evs e r).bind fun vs => some (v :: vs)

def evo (e : Env) : Option X → Option (Option Value)
  | none => some none
  | some x => (x.ev e).map some

inductive KK where
  | int | string | bool

inductive EqK where
  | bool | ptr | slice | map | func
  | flat (ks : List KK)

inductive Act where
  | mov (x : X)
  | pick (c a b : X)
  | bin (op : BinOp) (x y : X)
  | eq (neq : Bool) (k : EqK) (x y : X)
  | un (op : UnOp) (x : X)
  | conv (k : IntKind) (x : X)
  | alloc (cells : List Value)
  | box (x : X)
  | build (zero : List Value) (parts : List (Nat × Nat × X))
  | bslice (zero : List Value) (parts : List (Nat × Nat × X)) (len unit : Nat)
  | load (agg : Bool) (sz : Nat) (x : X)
  | store (sz : Nat) (x v : X)
  | nilchk (x : X)
  | fieldAddr (off : Nat) (x : X)
  | field (agg : Bool) (off sz : Nat) (x : X)
  | idxS (unit : Nat) (x i : X)
  | idxP (n unit : Nat) (x i : X)
  | idxA (agg : Bool) (n unit : Nat) (x i : X)
  | idxStr (x i : X)
  | sub (unit : Nat) (x : X) (lo hi mx : Option X)
  | subP (n unit : Nat) (x : X) (lo hi mx : Option X)
  | mkslice (unit bytes : Nat) (zero : List Value) (l c : X)
  | ext (i : Nat) (x : X)
  | mkfn (fn : Fn) (first captured : List X)
  | mkmap
  | look (kk : KK) (zero : Value) (ok : Bool) (mp k : X)
  | upd (kk : KK) (mp k v : X)
  | del (kk : KK) (mp k : X)
  | len (x : X)
  | lenS (x : X)
  | lenM (x : X)
  | lenC (n : Nat)
  | app (unit bytes : Nat) (s x : X)
  | copy (unit : Nat) (d s : X)
  | clr (unit : Nat) (zero : List Value) (x : X)
  | capN (x : X)
  | appZ (unit bytes : Nat) (zero : List Value) (s n : X)
  | minmax (isMax : Bool) (xs : List X)
  | call (f : Nat) (args : List X)
  | callv (x : X) (args : List X)
  | stop

structure ROp where
  dst : Option Nat
  guard : Option (Nat × Bool)
  act : Act

/-! ### single operations -/

def pureOf : Sem Value → Option Value
  | .pure v => some v
  | _ => none

def aBin (op : BinOp) : Value → Value → Option Value
  | .int k a, .int k' b => pureOf (Go.binOp op 0 (.int k a) (.int k' b))
  | .string a, .string b => pureOf (Go.binOp op 0 (.string a) (.string b))
  | _, _ => none

def aUn (op : UnOp) : Value → Option Value
  | .int k a => pureOf (Op.unary op (.int k a))
  | .bool b => pureOf (Op.unary op (.bool b))
  | _ => none

def aConv (k : IntKind) : Value → Option Value
  | .int _ n => some (.int k (k.wrap n))
  | _ => none

def scalEq : KK → Value → Value → Option Bool
  | .int, .int k a, .int k' b => if k = k' then some (a == b) else none
  | .bool, .bool a, .bool b => some (a == b)
  | .string, .string a, .string b => some (a == b)
  | _, _, _ => none

def scalsEq : List KK → List Value → List Value → Option Bool
  | [], [], [] => some true
  | k :: ks, x :: xs, y :: ys => (scalEq k x y).bind fun a => (scalsEq ks xs ys).map fun b => a && b
  | _, _, _ => none

def aEq : EqK → Value → Value → Option Bool
  | .bool, .bool a, .bool b => some (a == b)
  | .ptr, .pointer none, .pointer b => some b.isNone
  | .ptr, .pointer (some _), .pointer none => some false
  | .slice, .slice none _ _, .slice b _ _ => some b.isNone
  | .slice, .slice (some _) _ _, .slice none _ _ => some false
  | .map, .map none, .map b => some b.isNone
  | .map, .map (some _), .map none => some false
  | .func, .nilFunc, .nilFunc => some true
  | .func, .nilFunc, .func _ _ _ => some false
  | .func, .func _ _ _, .nilFunc => some false
  | .flat ks, .agg xs, .agg ys => scalsEq ks xs.toList ys.toList
  | _, _, _ => none

def Mem.new (m : Mem) (o : AObj) : Mem := { next := m.next + 1, blk := fun k => if k = m.next then some o else m.blk k }

/-- A new block: at the next number, or at a number that is kept for it. -/
def place (at_ : Option Nat) (m : Mem) (o : AObj) : Nat × Mem :=
  match at_ with
  | none => (m.next, m.new o)
  | some k => (k, m.set k (some o))

def aCells (m : Mem) (b o n : Nat) : Option (List Value) :=
  match m.blk b with
  | some (.cells c _) => if o + n ≤ c.length then some ((c.drop o).take n) else none
  | _ => none

def aLoad (agg : Bool) (sz : Nat) (m : Mem) : Value → Option Value
  | .pointer (some ⟨b, o, none⟩) =>
    match m.blk b with
    | some (.cells c _) => if agg then (if o + sz ≤ c.length then some (.agg ((c.drop o).take sz).toArray) else none) else c[o]?
    | _ => none
  | _ => none

def writeL (c : List Value) (o : Nat) (vs : List Value) : List Value := c.take o ++ vs ++ c.drop (o + vs.length)

def oneCells (vs : List Value) : Bool := vs.all Value.oneCell'

def aWrite (m : Mem) (b o : Nat) (vs : List Value) : Option Mem :=
  match m.blk b with
  | some (.cells c (some u)) => if o + vs.length ≤ c.length ∧ oneCells vs = true then some (m.set b (some (.cells (writeL c o vs) (some u)))) else none
  | _ => none

def aStore (sz : Nat) (m : Mem) : Value → Value → Option Mem
  | .pointer (some ⟨b, o, none⟩), v => if v.cells.size = sz then aWrite m b o v.cells.toList else none
  | _, _ => none

def aFieldAddr (off : Nat) : Value → Option Value
  | .pointer (some ⟨b, o, none⟩) => some (.pointer (some ⟨b, o + off, none⟩))
  | _ => none

def aPart (agg : Bool) (off sz : Nat) (cs : Array Value) : Option Value :=
  if agg then (if off + sz ≤ cs.size then some (.agg (cs.extract off (off + sz))) else none) else cs[off]?

def aField (agg : Bool) (off sz : Nat) : Value → Option Value
  | .agg cs => aPart agg off sz cs
  | _ => none

def aIdxS (unit : Nat) : Value → Value → Option Value
  | .slice (some ⟨b, o, none⟩) n _, .int _ i => if 0 ≤ i ∧ i < n then some (.pointer (some ⟨b, o + i.toNat * unit, none⟩)) else none
  | _, _ => none

def aIdxP (n unit : Nat) : Value → Value → Option Value
  | .pointer (some ⟨b, o, none⟩), .int _ i => if 0 ≤ i ∧ i < n then some (.pointer (some ⟨b, o + i.toNat * unit, none⟩)) else none
  | _, _ => none

def aIdxA (agg : Bool) (n unit : Nat) : Value → Value → Option Value
  | .agg cs, .int _ i => if 0 ≤ i ∧ i < n then aPart agg (i.toNat * unit) unit cs else none
  | _, _ => none

def aIdxStr : Value → Value → Option Value
  | .string s, .int _ i => if h : 0 ≤ i ∧ i.toNat < s.size then some (.int .u8 (s[i.toNat]'h.2).toNat) else none
  | _, _ => none

def aBound (top : Nat) : Value → Option Nat
  | .int _ i => if 0 ≤ i ∧ i ≤ top then some i.toNat else none
  | _ => none

/-- The bounds of a slice expression. -/
def aBounds (len cap : Nat) (lo hi mx : Option Value) : Option (Nat × Nat × Nat) :=
  (match mx with | some v => aBound cap v | none => some cap).bind fun m =>
  (match hi with | some v => aBound m v | none => if mx.isNone then some len else none).bind fun h =>
  (match lo with | some v => aBound h v | none => some 0).bind fun l => some (l, h, m)

/-- A block whose elements have so many cells, or one that is read alone. -/
def unitOk (unit : Nat) (m : Mem) (b : Nat) : Bool :=
  match m.blk b with
  | some (.cells _ (some u)) => Nat.beq u unit
  | some (.cells _ none) => true
  | _ => false

def cutAt (b o unit : Nat) (r : Nat × Nat × Nat) : Option Value :=
  if r.2.1 ≤ r.2.2 then some (.slice (some ⟨b, o + r.1 * unit, none⟩) (r.2.1 - r.1) (r.2.2 - r.1)) else none

def aSub (unit : Nat) (m : Mem) : Value → Option Value → Option Value → Option Value → Option Value
  | .slice none 0 0, lo, hi, mx => (aBounds 0 0 lo hi mx).bind fun _ => some (.slice none 0 0)
  | .slice (some ⟨b, o, none⟩) n c, lo, hi, mx => if unitOk unit m b = true then (aBounds n c lo hi mx).bind fun r => cutAt b o unit r else none
  | _, _, _, _ => none

def aSubP (n unit : Nat) : Value → Option Value → Option Value → Option Value → Option Value
  | .pointer (some ⟨b, o, none⟩), lo, hi, mx => (aBounds n n lo hi mx).bind fun r => cutAt b o unit r
  | _, _, _, _ => none

def zeros (z : List Value) : Nat → List Value
  | 0 => []
  | n + 1 => z ++ zeros z n

def aMake (at_ : Option Nat) (unit bytes : Nat) (zero : List Value) (m : Mem) : Value → Value → Option (Value × Mem)
  | .int _ l, .int _ c =>
    if 0 ≤ l ∧ l ≤ c ∧ c < 2 ^ 62 ∧ c * bytes ≤ 2 ^ 47 ∧ zero.length = unit ∧ oneCells zero = true then
      let (b, m') := place at_ m (.cells (zeros zero c.toNat) (some unit))
      some (.slice (some ⟨b, 0, none⟩) l.toNat c.toNat, m')
    else none
  | _, _ => none

def fillL : List Value → List (Nat × Nat × Value) → Option (List Value)
  | cs, [] => some cs
  | cs, (off, sz, v) :: r => if v.cells.size = sz ∧ off + sz ≤ cs.length then fillL (writeL cs off v.cells.toList) r else none

def evParts (e : Env) : List (Nat × Nat × X) → Option (List (Nat × Nat × Value))
  | [] => some []
  | (o, s, x) :: r => (x.ev e).bind fun v => (evParts e r).bind fun vs => some ((o, s, v) :: vs)

/-- The cells of what is appended or copied. -/
def aSrc (unit n : Nat) (m : Mem) : Value → Option (List Value)
  | .slice none 0 0 => some []
  | .slice (some ⟨b, o, none⟩) l _ => if n = 0 then some [] else if n ≤ l then aCells m b o (n * unit) else none
  | _ => none

def sliceLen : Value → Option Nat
  | .slice _ n _ => some n
  | _ => none

/-- append: in place where there is room that is known of; else a new block, and the old one dies if it was an own one. -/
def aApp (at_ : Option Nat) (unit bytes : Nat) (m : Mem) (s x : Value) : Option (Value × Mem) :=
  (sliceLen x).bind fun n => (aSrc unit n m x).bind fun xs =>
  match s with
  | .slice none 0 0 =>
    if n = 0 then some (.slice none 0 0, m)
    else if n * bytes ≤ 2 ^ 47 ∧ n < 2 ^ 62 ∧ oneCells xs = true then
      let (b, m') := place at_ m (.cells xs (some unit))
      some (.slice (some ⟨b, 0, none⟩) n n, m')
    else none
  | .slice (some ⟨b, o, none⟩) l c =>
    if n = 0 then (if l ≤ c ∧ (m.blk b).isSome = true then some (s, m) else none)
    else if l + n ≤ c then (aWrite m b (o + l * unit) xs).map fun m' => (.slice (some ⟨b, o, none⟩) (l + n) c, m')
    else
      match m.blk b with
      | some (.cells cs own) =>
        if (l + n) * bytes ≤ 2 ^ 47 ∧ l + n < 2 ^ 62 ∧ oneCells xs = true ∧ oneCells ((cs.drop o).take (l * unit)) = true ∧ l ≤ c ∧ o + c * unit ≤ cs.length ∧
            (own = none ∨ own = some unit ∧ (o + c * unit < cs.length ∨ l = c)) then
          let m1 := if own.isSome ∧ o + c * unit = cs.length then m.set b none else m
          let (b', m') := place at_ m1 (.cells ((cs.drop o).take (l * unit) ++ xs) (some unit))
          some (.slice (some ⟨b', 0, none⟩) (l + n) (l + n), m')
        else none
      | _ => none
  | _ => none

def aCopy (unit : Nat) (m : Mem) (d s : Value) : Option (Value × Mem) :=
  (sliceLen d).bind fun dl => (sliceLen s).bind fun sl =>
  let n := Nat.min sl dl
  (aSrc unit n m s).bind fun xs =>
  match d with
  | .slice none 0 0 => some (.int .i64 0, m)
  | .slice (some ⟨b, o, none⟩) _ _ => if n = 0 then some (.int .i64 0, m) else (aWrite m b o xs).map fun m' => (.int .i64 n, m')
  | _ => none

/-- append of new zeros, behind no slice. -/
def aAppZ (at_ : Option Nat) (unit bytes : Nat) (zero : List Value) (m : Mem) : Value → Value → Option (Value × Mem)
  | .slice none 0 0, .int .i64 l =>
    if 0 < l ∧ l < 2 ^ 62 ∧ l * bytes ≤ 2 ^ 47 ∧ zero.length = unit ∧ oneCells zero = true then
      let (b, m') := place at_ m (.cells (zeros zero l.toNat) (some unit))
      some (.slice (some ⟨b, 0, none⟩) l.toNat l.toNat, m')
    else none
  | _, _ => none

/-- clear, of a slice. -/
def aClr (unit : Nat) (z : List Value) (m : Mem) : Value → Option Mem
  | .slice none 0 0 => some m
  | .slice (some ⟨b, o, none⟩) n _ => if n = 0 then some m else if z.length = unit then aWrite m b o (zeros z n) else none
  | _ => none

/-- cap, of no slice. -/
def aCapN : Value → Option Value
  | .slice none 0 0 => some (.int .i64 0)
  | _ => none

def keyEq : KK → Value → Value → Option Bool
  | .int, .int k a, .int k' b => if k = k' then some (a == b) else none
  | .bool, .bool a, .bool b => some (a == b)
  | _, _, _ => none

def findK (kk : KK) (k : Value) : List (Value × Value) → Nat → Option (Option (Nat × Value))
  | [], _ => some none
  | (k', v) :: r, i => match keyEq kk k k' with
    | some true => some (some (i, v))
    | some false => findK kk k r (i + 1)
    | none => none

def aLook (kk : KK) (zero : Value) (ok : Bool) (m : Mem) (mp k : Value) : Option Value :=
  (match mp with
    | .map none => some []
    | .map (some r) => match m.blk r with | some (.map es) => some es | _ => none
    | _ => none).bind fun es =>
  (findK kk k es 0).bind fun r =>
  let (v, is) := match r with | some (_, v) => (v, true) | none => (zero, false)
  some (if ok then .tuple #[v, .bool is] else v)

def aUpd (kk : KK) (m : Mem) (mp k v : Value) : Option Mem :=
  match mp with
  | .map (some r) =>
    match m.blk r with
    | some (.map es) =>
      (findK kk k es 0).map fun f => match f with
        | some (i, _) => m.set r (some (.map (es.set i (k, v))))
        | none => m.set r (some (.map (es ++ [(k, v)])))
    | _ => none
  | _ => none

def aDel (kk : KK) (m : Mem) (mp k : Value) : Option Mem :=
  match mp with
  | .map none => some m
  | .map (some r) =>
    match m.blk r with
    | some (.map es) =>
      (findK kk k es 0).map fun f => match f with
        | some (i, _) => m.set r (some (.map (es.eraseIdx i)))
        | none => m
    | _ => none
  | _ => none

def aLen : Value → Option Value
  | .slice _ n _ => some (.int .i64 n)
  | _ => none

def aLenS : Value → Option Value
  | .string s => some (.int .i64 s.size)
  | _ => none

def aLenM (m : Mem) : Value → Option Value
  | .map none => some (.int .i64 0)
  | .map (some r) => match m.blk r with | some (.map es) => some (.int .i64 es.length) | _ => none
  | _ => none

def aMinMax (isMax : Bool) : List Value → Option Value
  | [] => none
  | .int k x :: r => r.foldlM (fun a b => match a, b with
      | .int k x, .int _ y => some (.int k (if isMax then (if x < y then y else x) else (if y < x then y else x)))
      | _, _ => none) (.int k x)
  | _ => none

def aExt (i : Nat) : Value → Option Value
  | .tuple vs => vs[i]?
  | _ => none

def aNil : Value → Option Value
  | .pointer (some a) => some (.pointer (some a))
  | .slice a n c => some (.slice a n c)
  | _ => none

abbrev CallFn := Nat → List Value → Mem → Option (Value × Mem)

def aAct (call : CallFn) (at_ : Option Nat) (e : Env) (m : Mem) : Act → Option (Value × Mem)
  | .mov x => (x.ev e).map fun v => (v, m)
  | .pick c a b => (c.ev e).bind fun cv => match cv with
    | .bool true => (a.ev e).map fun v => (v, m)
    | .bool false => (b.ev e).map fun v => (v, m)
    | _ => none
  | .bin op x y => (x.ev e).bind fun a => (y.ev e).bind fun b => (aBin op a b).map fun v => (v, m)
  | .eq neq k x y => (x.ev e).bind fun a => (y.ev e).bind fun b => (aEq k a b).map fun r => (.bool (if neq then !r else r), m)
  | .un op x => (x.ev e).bind fun a => (aUn op a).map fun v => (v, m)
  | .conv k x => (x.ev e).bind fun a => (aConv k a).map fun v => (v, m)
  | .alloc cs => if oneCells cs = true then let (b, m') := place at_ m (.cells cs (some cs.length)); some (.pointer (some ⟨b, 0, none⟩), m') else none
  | .box x => (x.ev e).bind fun v => if oneCells v.cells.toList = true then let (b, m') := place at_ m (.cells v.cells.toList (some v.cells.size)); some (.pointer (some ⟨b, 0, none⟩), m') else none
  | .build z ps => (evParts e ps).bind fun vs => (fillL z vs).map fun cs => (.agg cs.toArray, m)
  | .bslice z ps len unit => (evParts e ps).bind fun vs => (fillL z vs).bind fun cs =>
      if oneCells cs = true then let (b, m') := place at_ m (.cells cs (some unit)); some (.slice (some ⟨b, 0, none⟩) len len, m') else none
  | .load g sz x => (x.ev e).bind fun a => (aLoad g sz m a).map fun v => (v, m)
  | .store sz x v => (x.ev e).bind fun a => (v.ev e).bind fun b => (aStore sz m a b).map fun m' => (.tuple #[], m')
  | .nilchk x => (x.ev e).bind fun a => (aNil a).map fun v => (v, m)
  | .fieldAddr off x => (x.ev e).bind fun a => (aFieldAddr off a).map fun v => (v, m)
  | .field g off sz x => (x.ev e).bind fun a => (aField g off sz a).map fun v => (v, m)
  | .idxS u x i => (x.ev e).bind fun a => (i.ev e).bind fun b => (aIdxS u a b).map fun v => (v, m)
  | .idxP n u x i => (x.ev e).bind fun a => (i.ev e).bind fun b => (aIdxP n u a b).map fun v => (v, m)
  | .idxA g n u x i => (x.ev e).bind fun a => (i.ev e).bind fun b => (aIdxA g n u a b).map fun v => (v, m)
  | .idxStr x i => (x.ev e).bind fun a => (i.ev e).bind fun b => (aIdxStr a b).map fun v => (v, m)
  | .sub u x lo hi mx => (x.ev e).bind fun a => (evo e lo).bind fun l => (evo e hi).bind fun h => (evo e mx).bind fun k => (aSub u m a l h k).map fun v => (v, m)
  | .subP n u x lo hi mx => (x.ev e).bind fun a => (evo e lo).bind fun l => (evo e hi).bind fun h => (evo e mx).bind fun k => (aSubP n u a l h k).map fun v => (v, m)
  | .mkslice u by_ z l c => (l.ev e).bind fun a => (c.ev e).bind fun b => aMake at_ u by_ z m a b
  | .ext i x => (x.ev e).bind fun a => (aExt i a).map fun v => (v, m)
  | .mkfn fn xs ys => (evs e xs).bind fun a => (evs e ys).map fun b => (.func fn a.toArray b.toArray, m)
  | .mkmap => let (b, m') := place at_ m (.map []); some (.map (some b), m')
  | .look kk z ok x k => (x.ev e).bind fun a => (k.ev e).bind fun b => (aLook kk z ok m a b).map fun v => (v, m)
  | .upd kk x k v => (x.ev e).bind fun a => (k.ev e).bind fun b => (v.ev e).bind fun c => (aUpd kk m a b c).map fun m' => (.tuple #[], m')
  | .del kk x k => (x.ev e).bind fun a => (k.ev e).bind fun b => (aDel kk m a b).map fun m' => (.tuple #[], m')
  | .len x => (x.ev e).bind fun a => (aLen a).map fun v => (v, m)
  | .lenS x => (x.ev e).bind fun a => (aLenS a).map fun v => (v, m)
  | .lenM x => (x.ev e).bind fun a => (aLenM m a).map fun v => (v, m)
  | .lenC n => some (.int .i64 n, m)
  | .app u by_ s x => (s.ev e).bind fun a => (x.ev e).bind fun b => aApp at_ u by_ m a b
  | .copy u d s => (d.ev e).bind fun a => (s.ev e).bind fun b => aCopy u m a b
  | .appZ u by_ z s n => (s.ev e).bind fun a => (n.ev e).bind fun b => aAppZ at_ u by_ z m a b
  | .clr u z x => (x.ev e).bind fun a => (aClr u z m a).map fun m' => (.tuple #[], m')
  | .capN x => (x.ev e).bind fun a => (aCapN a).map fun v => (v, m)
  | .minmax g xs => (evs e xs).bind fun vs => (aMinMax g vs).map fun v => (v, m)
  | .call f xs => (evs e xs).bind fun vs => call f vs m
  | .callv x xs => (x.ev e).bind fun fv => (evs e xs).bind fun vs => match fv with
    | .func (.func f) first captured => call f (first.toList ++ vs ++ captured.toList) m
    | _ => none
  | .stop => none

def Env.put (dst : Option Nat) (v : Value) (e : Env) : Env := match dst with | some d => (d, v) :: e | none => e

/-- What an operation yields, and what memory it leaves. -/
def stepV (call : CallFn) (at_ : Option Nat) (o : ROp) (e : Env) (m : Mem) : Option (Value × Mem) :=
  match o.guard with
  | none => aAct call at_ e m o.act
  | some (g, want) => (Env.get e g).bind fun gv => match gv with
    | .bool b => bif b == want then aAct call at_ e m o.act else some (undef, m)
    | .tuple _ => some (undef, m)
    | _ => none

def stepOp (call : CallFn) (at_ : Option Nat) (o : ROp) (e : Env) (m : Mem) : Option (Env × Mem) :=
  (stepV call at_ o e m).map fun r => (Env.put o.dst r.1 e, r.2)

def aOps (call : CallFn) : List ROp → Env → Mem → Option (Env × Mem)
  | [], e, m => some (e, m)
  | o :: r, e, m => (stepOp call none o e m).bind fun s => aOps call r s.1 s.2

def blkOf : Value → Option Nat
  | .pointer (some a) => some a.block
  | .slice (some a) _ _ => some a.block
  | .map (some r) => some r
  | _ => none

/-- What an effect must leave as it was: the blocks to which these slots point. -/
def watchOk (e : Env) (m m' : Mem) : List Nat → Prop
  | [] => True
  | x :: r => (match Env.get e x with | some v => (match blkOf v with | some b => m'.blk b = m.blk b | none => True) | none => False) ∧ watchOk e m m' r

/-- Which operations make a block. -/
def Act.places : Act → Bool
  | .alloc _ | .box _ | .bslice _ _ _ _ | .mkslice _ _ _ _ _ | .mkmap | .app _ _ _ _ | .appZ _ _ _ _ _ => true
  | _ => false

def atOf (base i : Nat) (a : Act) : Option Nat := bif a.places then some (base + i) else none

/-- How many numbers are kept for a region whose order is open. -/
def resv (ops : List ROp) : Nat := bif ops.any fun o => o.act.places then ops.length else 0

open Classical in
/-- A region whose order is open: one order; new blocks have numbers of their own; what is read beside an effect is as it was behind it. -/
noncomputable def aDrawn (call : CallFn) (base : Nat) (ops : List ROp) : List (Nat × List Nat) → Env → Mem → Option (Env × Mem)
  | [], e, m => some (e, m)
  | (i, ws) :: r, e, m => (ops[i]?).bind fun o => (stepOp call (atOf base i o.act) o e m).bind fun s =>
      if watchOk e m s.2 ws then aDrawn call base ops r s.1 s.2 else none

inductive Ex where
  | normal
  | exit (id : Nat)
  | ret

inductive RCode where
  | skip
  | region (ops : List ROp) (keep : List Nat)
  | drawn (ops : List ROp) (deps : List (List Nat)) (ord : List (Nat × List Nat)) (anc : List (List Nat)) (keep : List Nat)
  | seq (a b : RCode)
  | cond (c : X) (a b : RCode)
  | block (id : Nat) (c : RCode) (keep : List Nat)
  | loop (keep : List Nat) (c : RCode)
  | exit (id : Nat)
  | ret

def loopN (body : Env → Mem → Option (Ex × Env × Mem)) (keep : List Nat) : Nat → Env → Mem → Option (Ex × Env × Mem)
  | 0, _, _ => none
  | k + 1, e, m => (body (Env.keep keep e) m).bind fun r => match r.1 with
    | .normal => loopN body keep k r.2.1 r.2.2
    | _ => some r

noncomputable def aCode (call : CallFn) (n : Nat) : RCode → Env → Mem → Option (Ex × Env × Mem)
  | .skip, e, m => some (.normal, e, m)
  | .region ops ks, e, m => (aOps call ops e m).map fun s => (.normal, Env.keep ks s.1, s.2)
  | .drawn ops _ ord _ ks, e, m => (aDrawn call m.next ops ord e (m.bump (resv ops))).map fun s => (.normal, Env.keep ks s.1, s.2)
  | .seq a b, e, m => (aCode call n a e m).bind fun r => match r.1 with
    | .normal => aCode call n b r.2.1 r.2.2
    | _ => some r
  | .cond c a b, e, m => (c.ev e).bind fun v => match v with
    | .bool t => bif t then aCode call n a e m else aCode call n b e m
    | _ => none
  | .block id c ks, e, m => (aCode call n c e m).bind fun r => match r.1 with
    | .normal => some (.normal, Env.keep ks r.2.1, r.2.2)
    | .exit j => bif Nat.beq j id then some (.normal, Env.keep ks r.2.1, r.2.2) else some r
    | .ret => some r
  | .loop ks c, e, m => loopN (aCode call n c) ks n e m
  | .exit id, e, m => some (.exit id, e, m)
  | .ret, e, m => some (.ret, e, m)

inductive RRes where
  | slot (t : Nat)
  | cell (t : Nat) (agg : Bool) (sz : Nat)

structure RFn where
  nparams : Nat
  results : List RRes
  body : RCode

def argEnv : Nat → List Value → Env
  | _, [] => []
  | k, v :: r => (k, v) :: argEnv (k + 1) r

def resOf (e : Env) (m : Mem) : RRes → Option Value
  | .slot t => Env.get e t
  | .cell t g sz => (Env.get e t).bind fun a => aLoad g sz m a

def resAll (e : Env) (m : Mem) : List RRes → Option (List Value)
  | [] => some []
  | r :: rs => (resOf e m r).bind fun v => (resAll e m rs).bind fun vs => some (v :: vs)

def packRes : List Value → Value
  | [v] => v
  | vs => .tuple vs.toArray

noncomputable def aRun (call : CallFn) (n : Nat) (f : RFn) (args : List Value) (m : Mem) : Option (Value × Mem) :=
  if args.length = f.nparams then
    (aCode call n f.body (argEnv 0 args) m).bind fun r => match r.1 with
      | .exit _ => none
      | _ => (resAll r.2.1 r.2.2 f.results).map fun vs => (packRes vs, r.2.2)
  else none

/-- What a function's number stands for: compiled code, or an answer that is known otherwise. -/
inductive FEnt where
  | rc (f : RFn)
  | ext (g : List Value → Mem → Option (Value × Mem))

noncomputable def aFn (R : Nat → Option FEnt) : Nat → CallFn
  | 0 => fun _ _ _ => none
  | n + 1 => fun f args m => match R f with
    | some (.rc rf) => aRun (aFn R n) n rf args m
    | some (.ext g) => g args m
    | none => none
end Go.Am


/- What single operations of the model do, told by the abstract ones. -/
namespace Go.Am
open Go.RowKit

variable {B0 : Nat} {σ : Inj} {m : Mem} {w : World} {P : Program}

theorem VR.int_inv {k : IntKind} {n : Int} {v : Value} (h : VR σ (.int k n) v) : v = .int k n := by cases h; rfl
theorem VR.bool_inv {b : Bool} {v : Value} (h : VR σ (.bool b) v) : v = .bool b := by cases h; rfl
theorem VR.string_inv {b : ByteArray} {v : Value} (h : VR σ (.string b) v) : v = .string b := by cases h; rfl

/-- What lives in an own or a read cell. -/
theorem MR.load (h : MR B0 σ m w) {b j : Nat} {i : Img} {c : List Value} {own : Option Nat} {v : Value} (hb : σ b = .live i) (hm : m.blk b = some (.cells c own))
    (hj : c[j]? = some v) : ∃ v', w.cell? ⟨i.block, i.off + j, none⟩ = some v' ∧ VR σ v v' := (h.cells b i c own hb hm).2 j v hj

theorem addr_add (B O n : Nat) : (⟨B, O, none⟩ : Addr).add n = ⟨B, O + n, none⟩ := by
  unfold Addr.add
  split
  · rename_i h; subst h; rfl
  · rfl

theorem run_loadCellsFrom (B O : Nat) : ∀ (n i : Nat) (acc : Array Value) (vs : List Value), vs.length = n →
    (∀ (j : Nat) v, vs[j]? = some v → w.cell? ⟨B, O + (i + j), none⟩ = some v) →
    (loadCellsFrom ⟨B, O, none⟩ i n acc).run P w = .ok (acc ++ vs.toArray) w := by
  intro n
  induction n with
  | zero =>
    intro i acc vs hl _
    obtain rfl : vs = [] := List.length_eq_zero_iff.1 hl
    simp [loadCellsFrom]
  | succ n ih =>
    intro i acc vs hl hc
    obtain ⟨v, vs, rfl⟩ : ∃ v r, vs = v :: r := by cases vs with | nil => simp at hl | cons v r => exact ⟨v, r, rfl⟩
    have h0 := hc 0 v rfl
    rw [loadCellsFrom]
    simp only [Sem.run_bind, addr_add, run_load]
    rw [Nat.add_zero] at h0
    rw [h0]
    simp only [Result.andThen_ok]
    rw [ih (i + 1) (acc.push v) vs (by simpa using hl) (fun j x hj => by have := hc (j + 1) x (by simpa using hj); rw [← this]; congr 2; omega)]
    congr 1
    simp

theorem run_loadCells (B O : Nat) (vs : List Value) (hc : ∀ (j : Nat) v, vs[j]? = some v → w.cell? ⟨B, O + j, none⟩ = some v) :
    (loadCells ⟨B, O, none⟩ vs.length).run P w = .ok vs.toArray w := by
  unfold loadCells
  rw [run_loadCellsFrom B O vs.length 0 #[] vs rfl (fun j v hj => by rw [Nat.zero_add]; exact hc j v hj)]
  simp

/-- The cells of a piece of a block, as the model has them. -/
theorem MR.piece (h : MR B0 σ m w) {b : Nat} {i : Img} {c : List Value} {own : Option Nat} (hb : σ b = .live i) (hm : m.blk b = some (.cells c own)) (o n : Nat)
    (hn : o + n ≤ c.length) : ∃ vs : List Value, vs.length = n ∧ (∀ (j : Nat) v, vs[j]? = some v → w.cell? ⟨i.block, i.off + o + j, none⟩ = some v) ∧
      ∀ (j : Nat) x y, ((c.drop o).take n)[j]? = some x → vs[j]? = some y → VR σ x y := by
  induction n generalizing o with
  | zero => exact ⟨[], rfl, by simp, by simp⟩
  | succ n ih =>
    obtain ⟨vs, h1, h2, h3⟩ := ih (o + 1) (by omega)
    have hlt : o < c.length := by omega
    obtain ⟨v', hv, hr⟩ := h.load hb hm (List.getElem?_eq_getElem hlt)
    refine ⟨v' :: vs, by simp [h1], ?_, ?_⟩
    · intro j v hj
      cases j with
      | zero => simp at hj; subst hj; exact hv
      | succ j =>
        have := h2 j v (by simpa using hj)
        rw [← this]; congr 2; omega
    · intro j x y hx hy
      have hd : c.drop o = c[o] :: c.drop (o + 1) := List.drop_eq_getElem_cons hlt
      rw [hd, List.take_succ_cons] at hx
      cases j with
      | zero =>
        rw [List.getElem?_cons_zero] at hx hy
        rw [← Option.some.inj hx, ← Option.some.inj hy]; exact hr
      | succ j => 
        rw [List.getElem?_cons_succ] at hx hy
        exact h3 j x y hx hy

theorem VR.agg_of_lists {xs ys : List Value} (h1 : xs.length = ys.length) (h : ∀ (j : Nat) x y, xs[j]? = some x → ys[j]? = some y → VR σ x y) :
    VR σ (.agg xs.toArray) (.agg ys.toArray) := by
  refine .agg (by simpa using h1) fun i hi hj => ?_
  simp at hi hj
  exact h i _ _ (by simp [hi]) (by simp [hj])

/-- The cells of related values are related. -/
theorem VR.cells {v v' : Value} (h : VR σ v v') : v.cells.size = v'.cells.size ∧ ∀ (j : Nat) x y, v.cells[j]? = some x → v'.cells[j]? = some y → VR σ x y := by
  have single : ∀ {a b : Value}, VR σ a b → (∀ (j : Nat) x y, (#[a] : Array Value)[j]? = some x → (#[b] : Array Value)[j]? = some y → VR σ x y) := by
    intro a b hab j x y hx hy
    cases j with
    | zero => simp at hx hy; subst hx; subst hy; exact hab
    | succ j => simp at hx
  cases h with
  | agg h1 h2 =>
    refine ⟨h1, fun j x y hx hy => ?_⟩
    simp only [Value.cells] at hx hy
    obtain ⟨hi, rfl⟩ := Array.getElem?_eq_some_iff.1 hx
    obtain ⟨hj, rfl⟩ := Array.getElem?_eq_some_iff.1 hy
    exact h2 j hi hj
  | bool b => exact ⟨rfl, single (.bool b)⟩
  | int k n => exact ⟨rfl, single (.int k n)⟩
  | float k n => exact ⟨rfl, single (.float k n)⟩
  | string s => exact ⟨rfl, single (.string s)⟩
  | ptrNil => exact ⟨rfl, single .ptrNil⟩
  | ptr h => exact ⟨rfl, single (.ptr h)⟩
  | ptrDead h => exact ⟨rfl, single (.ptrDead h)⟩
  | sliceNil => exact ⟨rfl, single .sliceNil⟩
  | slice h hc hx => exact ⟨rfl, single (.slice h hc hx)⟩
  | sliceZ h => exact ⟨rfl, single (.sliceZ h)⟩
  | sliceDead h => exact ⟨rfl, single (.sliceDead h)⟩
  | mapNil => exact ⟨rfl, single .mapNil⟩
  | map h => exact ⟨rfl, single (.map h)⟩
  | mapDead h => exact ⟨rfl, single (.mapDead h)⟩
  | nilFunc => exact ⟨rfl, single .nilFunc⟩
  | func fn a b c d => exact ⟨rfl, single (.func fn a b c d)⟩
  | nilIface => exact ⟨rfl, single .nilIface⟩
  | iface t h => exact ⟨rfl, single (.iface t h)⟩
  | tuple a b => exact ⟨rfl, single (.tuple a b)⟩

theorem VR.oneCell {v v' : Value} (h : VR σ v v') : v.oneCell' = v'.oneCell' := by cases h <;> rfl

/-- Lists of values that are related one by one. -/
def LR (σ : Inj) (xs ys : List Value) : Prop := xs.length = ys.length ∧ ∀ (j : Nat) x y, xs[j]? = some x → ys[j]? = some y → VR σ x y

theorem LR.nil : LR σ [] [] := ⟨rfl, by simp⟩
theorem LR.cons {x y : Value} {xs ys : List Value} (h : VR σ x y) (k : LR σ xs ys) : LR σ (x :: xs) (y :: ys) :=
  ⟨by simp [k.1], fun j a b ha hb => by
    cases j with
    | zero => simp at ha hb; subst ha; subst hb; exact h
    | succ j => exact k.2 j a b (by simpa using ha) (by simpa using hb)⟩
theorem LR.cons_inv {x : Value} {xs ys : List Value} (h : LR σ (x :: xs) ys) : ∃ y r, ys = y :: r ∧ VR σ x y ∧ LR σ xs r := by
  cases ys with
  | nil => simpa using h.1
  | cons y r => exact ⟨y, r, rfl, h.2 0 x y rfl rfl, by simpa using h.1, fun j a b ha hb => h.2 (j + 1) a b (by simpa using ha) (by simpa using hb)⟩
theorem LR.mono {σ' : Inj} (he : Evo σ σ') {xs ys : List Value} (h : LR σ xs ys) : LR σ' xs ys := ⟨h.1, fun j x y a b => (h.2 j x y a b).mono he⟩
theorem LR.append {xs ys xs' ys' : List Value} (h : LR σ xs ys) (k : LR σ xs' ys') : LR σ (xs ++ xs') (ys ++ ys') := by
  induction xs generalizing ys with
  | nil => obtain rfl : ys = [] := List.length_eq_zero_iff.1 h.1.symm; simpa using k
  | cons x xs ih => obtain ⟨y, r, rfl, h1, h2⟩ := h.cons_inv; exact .cons h1 (ih h2)
theorem LR.take {xs ys : List Value} (h : LR σ xs ys) (n : Nat) : LR σ (xs.take n) (ys.take n) :=
  ⟨by simp [h.1], fun j x y ha hb => by
    rw [List.getElem?_take] at ha hb
    split at ha
    · rename_i hlt; rw [if_pos hlt] at hb; exact h.2 j x y ha hb
    · cases ha⟩
theorem LR.drop {xs ys : List Value} (h : LR σ xs ys) (n : Nat) : LR σ (xs.drop n) (ys.drop n) :=
  ⟨by simp [h.1], fun j x y ha hb => by rw [List.getElem?_drop] at ha hb; exact h.2 _ x y ha hb⟩
theorem LR.get {xs ys : List Value} (h : LR σ xs ys) {j : Nat} {x : Value} (hx : xs[j]? = some x) : ∃ y, ys[j]? = some y ∧ VR σ x y := by
  have hlt : j < ys.length := by rw [← h.1]; exact (List.getElem?_eq_some_iff.1 hx).1
  exact ⟨ys[j], List.getElem?_eq_getElem hlt, h.2 j x _ hx (List.getElem?_eq_getElem hlt)⟩
theorem VR.agg_lr {xs ys : List Value} (h : LR σ xs ys) : VR σ (.agg xs.toArray) (.agg ys.toArray) := .agg_of_lists h.1 h.2
theorem VR.tuple_lr {xs ys : List Value} (h : LR σ xs ys) : VR σ (.tuple xs.toArray) (.tuple ys.toArray) := by
  refine .tuple (by simpa using h.1) fun i hi hj => ?_
  simp at hi hj
  exact h.2 i _ _ (by simp [hi]) (by simp [hj])
theorem VR.cells_lr {v v' : Value} (h : VR σ v v') : LR σ v.cells.toList v'.cells.toList :=
  ⟨by simpa using h.cells.1, fun j x y ha hb => h.cells.2 j x y (by simpa using ha) (by simpa using hb)⟩
theorem LR.arr {xs ys : Array Value} (h1 : xs.size = ys.size) (h2 : ∀ (i : Nat) (hi : i < xs.size) (hj : i < ys.size), VR σ xs[i] ys[i]) : LR σ xs.toList ys.toList :=
  ⟨by simpa using h1, fun j x y ha hb => by
    rw [Array.getElem?_toList] at ha hb
    obtain ⟨hi, rfl⟩ := Array.getElem?_eq_some_iff.1 ha
    obtain ⟨hj, rfl⟩ := Array.getElem?_eq_some_iff.1 hb
    exact h2 j hi hj⟩
theorem LR.arr' {xs ys : List Value} (h : LR σ xs ys) : ∀ (i : Nat) (hi : i < xs.toArray.size) (hj : i < ys.toArray.size), VR σ xs.toArray[i] ys.toArray[i] := fun i hi hj => by
  simp at hi hj
  exact h.2 i _ _ (by simp [hi]) (by simp [hj])

theorem MR.piece_lr (h : MR B0 σ m w) {b : Nat} {i : Img} {c : List Value} {own : Option Nat} (hb : σ b = .live i) (hm : m.blk b = some (.cells c own)) (o n : Nat)
    (hn : o + n ≤ c.length) : ∃ vs : List Value, vs.length = n ∧ (∀ (j : Nat) v, vs[j]? = some v → w.cell? ⟨i.block, i.off + o + j, none⟩ = some v) ∧ LR σ ((c.drop o).take n) vs := by
  obtain ⟨vs, h1, h2, h3⟩ := h.piece hb hm o n hn
  exact ⟨vs, h1, h2, by simp [h1]; omega, h3⟩

theorem writeL_cons {c : List Value} {p : Nat} (hlt : p < c.length) (v : Value) (vs : List Value) : writeL (c.set p v) (p + 1) vs = writeL c p (v :: vs) := by
  unfold writeL
  have h1 : List.take (p + 1) (c.set p v) = List.take p c ++ [v] := by
    rw [List.take_succ_eq_append_getElem (by simpa using hlt)]
    simp [List.take_set_of_le]
  have h2 : List.drop (p + 1 + vs.length) (c.set p v) = List.drop (p + (v :: vs).length) c := by
    rw [List.drop_set_of_lt (by omega)]; congr 1; simp; omega
  rw [h1, h2]; simp

/-- Cells stored one behind the other. -/
theorem run_storeCells (B0 : Nat) {b u : Nat} {i : Img} (hb : σ b = .live i) : ∀ (vs vs' : List Value) (o k : Nat) (m : Mem) (w : World) (c : List Value),
    MR B0 σ m w → m.blk b = some (.cells c (some u)) → LR σ vs vs' → o + k + vs.length ≤ c.length → oneCells vs = true →
    ∃ w', (storeCells ⟨i.block, i.off + o, none⟩ vs' k).run P w = .ok () w' ∧ MR B0 σ (m.set b (some (.cells (writeL c (o + k) vs) (some u)))) w' ∧ Below B0 w w' := by
  intro vs
  induction vs with
  | nil =>
    intro vs' o k m w c hm hc hl hlen _
    obtain rfl : vs' = [] := List.length_eq_zero_iff.1 hl.1.symm
    refine ⟨w, by simp [storeCells], ?_, Below.refl _ _⟩
    have : m.set b (some (.cells (writeL c (o + k) []) (some u))) = m := by
      cases m; simp only [Mem.set, writeL]; congr; funext x
      split
      · rename_i e; subst e
        simp only [List.append_nil, List.length_nil, Nat.add_zero, List.take_append_drop]
        exact hc.symm
      · rfl
    rw [this]; exact hm
  | cons v vs ih =>
    intro vs' o k m w c hm hc hl hlen h1
    obtain ⟨v', vs', rfl, hv, hr⟩ := hl.cons_inv
    have hlt : o + k < c.length := by simp at hlen; omega
    have hone : v.oneCell' = true ∧ oneCells vs = true := by simpa [oneCells] using h1
    obtain ⟨_, hB, hrw⟩ := hm.rw b i c u hb hc
    obtain ⟨hil, _⟩ := hm.cells b i c _ hb hc
    obtain ⟨⟨x0, hx0⟩, hfz⟩ := hrw (o + k) (by omega)
    have hs := hm.store hb hc hlt hv
    obtain ⟨w', e1, e2, e3⟩ := ih vs' o (k + 1) _ _ (c.set (o + k) v) hs (by simp) hr (by simp at hlen ⊢; omega) hone.2
    have hst := run_store P w ⟨i.block, i.off + (o + k), none⟩ v' .plain (by rw [← hv.oneCell]; exact hone.1)
    refine ⟨w', ?_, ?_, ?_⟩
    · rw [storeCells]
      simp only [Sem.run_bind, addr_add]
      have ea : i.off + o + k = i.off + (o + k) := by omega
      rw [ea, hst, hx0]
      simp only [hfz]
      simp only [Bool.false_eq_true, if_false, Result.andThen_ok]
      exact e1
    · have : (m.set b (some (.cells (c.set (o + k) v) (some u)))).set b (some (.cells (writeL (c.set (o + k) v) (o + (k + 1)) vs) (some u))) =
          m.set b (some (.cells (writeL c (o + k) (v :: vs)) (some u))) := by
        rw [show o + (k + 1) = (o + k) + 1 from by omega, writeL_cons hlt]
        cases m; simp only [Mem.set]; congr; funext x
        split <;> rfl
      rw [← this]; exact e2
    · exact Below.trans (Below.setCell (Below.refl _ _) hB _) e3
end Go.Am


/- From the model's code to the abstract machine's: types are looked up, nothing else. -/
namespace Go.Am

def constOk : Value → Bool
  | .bool _ | .int _ _ | .string _ | .pointer none | .slice none 0 0 | .map none | .nilFunc | .nilIface => true
  | .agg cs => cs.all fun | .bool _ | .int _ _ | .string _ | .pointer none | .slice none 0 0 | .map none | .nilFunc | .nilIface => true | _ => false
  | _ => false

def cX : Operand → Option X
  | .tmp t => some (.t t)
  | .const v => if constOk v then some (.c v) else none
  | .func f => some (.f f)
  | .global _ => none

def cXs : List Operand → Option (List X)
  | [] => some []
  | x :: r => (cX x).bind fun a => (cXs r).bind fun b => some (a :: b)

def cXo : Option Operand → Option (Option X)
  | none => some none
  | some x => (cX x).map some

def szOf (P : Program) (t : TypeId) : Option Nat := (P.info? t).map (·.size)
def byOf (P : Program) (t : TypeId) : Option Nat := (P.info? t).map (·.bytes)
def zeroOf (P : Program) (t : TypeId) : Option Value := (P.info? t).bind fun i => i.zero.bind fun z => if constOk z then some z else none
def aggOf (P : Program) (t : TypeId) : Option Bool := (P.underlying t).map fun | .struct _ | .array _ _ => true | _ => false

/-- Parts of a struct: where they go. -/
def cParts (P : Program) (fields : Array Field) : List (Nat × Operand) → Option (List (Nat × Nat × X))
  | [] => some []
  | (i, x) :: r => (fields[i]?).bind fun f => (szOf P f.type).bind fun s => (cX x).bind fun a => (cParts P fields r).bind fun b => some ((f.offset, s, a) :: b)

/-- Parts of an array or a slice. -/
def cElems (size : Nat) : List (Nat × Operand) → Option (List (Nat × Nat × X))
  | [] => some []
  | (i, x) :: r => (cX x).bind fun a => (cElems size r).bind fun b => some ((i * size, size, a) :: b)

/-- The cells of a type, if all are numbers, bools and texts, one behind the other. -/
def flatFs (f : TypeId → Option (List KK)) : List Field → List KK → Option (List KK)
  | [], n => some n
  | x :: r, n => if x.name != "_" && Nat.beq x.offset n.length then (f x.type).bind fun k => flatFs f r (n ++ k) else none

def repK (ks : List KK) : Nat → List KK
  | 0 => []
  | n + 1 => ks ++ repK ks n

def sized (P : Program) (u : TypeId) (o : Option (List KK)) : Option (List KK) := o.bind fun k => if szOf P u = some k.length then some k else none

def flatK (P : Program) : Nat → TypeId → Option (List KK)
  | 0, _ => none
  | d + 1, t => match P.underlying t with
    | some .bool => some [.bool]
    | some (.int _) => some [.int]
    | some .string => some [.string]
    | some (.struct fs) => if P.stoodInHeld t then none else flatFs (fun u => sized P u (flatK P d u)) fs.toList []
    | some (.array n e) => (sized P e (flatK P d e)).map fun k => repK k n
    | _ => none

def cEq (P : Program) (t : TypeId) : Option EqK :=
  match P.underlying t with
  | some .bool => some .bool
  | some (.pointer _) => some .ptr
  | some (.slice _) => some .slice
  | some (.map _ _) => some .map
  | some (.func _ _ _) => some .func
  | some (.struct _) | some (.array _ _) => if P.eqGuardType P.depth t then none else (flatK P 20 t).map .flat
  | _ => none

def cKK (P : Program) (t : TypeId) : Option KK :=
  match P.underlying t with
  | some (.int _) => some .int
  | some .string => some .string
  | some .bool => some .bool
  | _ => none

def cCall (P : Program) (c : Call) : Option Act :=
  match c.callee with
  | .value (.func f) => (cXs c.args.toList).map fun xs => .call f xs
  | .value (.tmp t) => (cXs c.args.toList).map fun xs => .callv (.t t) xs
  | .builtin b =>
    match b, c.args.toList, c.argTypes.toList with
    | .len, [x], t :: _ => (cX x).bind fun a => match P.underlying t with
      | some .string => some (.lenS a)
      | some (.slice _) => some (.len a)
      | some (.map _ _) => some (.lenM a)
      | some (.array n _) => some (.lenC n)
      | some (.pointer arr) => match P.underlying arr with | some (.array n _) => some (.lenC n) | _ => none
      | _ => none
    | .append, [s, x], [t, u] => (cX s).bind fun a => (cX x).bind fun b => match P.underlying t, P.underlying u with
      | some (.slice e), some (.slice _) => (szOf P e).bind fun sz => (byOf P e).bind fun by_ => (zeroOf P e).bind fun z => if 0 < by_ ∧ 0 < sz ∧ z.cells.size = sz then some (.app sz by_ a b) else none
      | some (.slice e), some (.int _) => (szOf P e).bind fun sz => (byOf P e).bind fun by_ => (zeroOf P e).bind fun z => if 0 < by_ ∧ 0 < sz ∧ z.cells.size = sz then some (.appZ sz by_ z.cells.toList a b) else none
      | _, _ => none
    | .copy, [d, s], [t, u] => (cX d).bind fun a => (cX s).bind fun b => match P.underlying t, P.underlying u with
      | some (.slice e), some (.slice _) => (szOf P e).map fun sz => .copy sz a b
      | _, _ => none
    | .delete, [x, k], t :: _ => (cX x).bind fun a => (cX k).bind fun b => match P.underlying t with
      | some (.map kt _) => (cKK P kt).map fun kk => .del kk a b
      | _ => none
    | .clear, [x], t :: _ => (cX x).bind fun a => match P.underlying t with
      | some (.slice e) => (szOf P e).bind fun sz => (zeroOf P e).bind fun z => if z.cells.size = sz ∧ 0 < sz then some (.clr sz z.cells.toList a) else none
      | _ => none
    | .cap, [x], t :: _ => (cX x).bind fun a => match P.underlying t with
      | some (.slice _) => some (.capN a)
      | _ => none
    | .min, xs, _ => (cXs xs).map (.minmax false)
    | .max, xs, _ => (cXs xs).map (.minmax true)
    | _, _, _ => none
  | _ => none

def cAct (P : Program) (op : Op) : Option Act :=
  match op with
  | .move x | .assign x => (cX x).map .mov
  | .pick c a b => (cX c).bind fun c => (cX a).bind fun a => (cX b).map fun b => .pick c a b
  | .alloc t => (zeroOf P t).map fun z => .alloc z.cells.toList
  | .box _ x => (cX x).map .box
  | .build t ps => (zeroOf P t).bind fun z => match P.underlying t with
    | some (.struct fs) => if fs.toList.all (fun f => (szOf P f.type).isSome) = true then (cParts P fs ps.toList).map fun q => .build z.cells.toList q else none
    | some (.array _ e) => (szOf P e).bind fun s => (cElems s ps.toList).map fun q => .build z.cells.toList q
    | _ => none
  | .buildSlice t len ps => match P.underlying t with
    | some (.slice e) => (szOf P e).bind fun s => (zeroOf P e).bind fun z => (cElems s ps.toList).bind fun q =>
        if len * s ≤ 2 ^ 24 ∧ z.cells.size = s ∧ 0 < s then some (.bslice (zeros z.cells.toList len) q len s) else none
    | _ => none
  | .load t x => (aggOf P t).bind fun g => (szOf P t).bind fun s => (cX x).map fun a => .load g s a
  | .store t x v => (szOf P t).bind fun s => (cX x).bind fun a => (cX v).map fun b => .store s a b
  | .nilCheck x => (cX x).map .nilchk
  | .binOp op t x y _ => (cX x).bind fun a => (cX y).bind fun b =>
    match op, P.underlying t with
    | _, some (.int _) | _, some .string => some (.bin op a b)
    | .eql, _ => (cEq P t).map fun k => .eq false k a b
    | .neq, _ => (cEq P t).map fun k => .eq true k a b
    | _, _ => none
  | .unOp op _ x => (cX x).map (.un op)
  | .convert src dst x => match P.underlying src, P.underlying dst with
    | some (.int _), some (.int k) => (cX x).map (.conv k)
    | _, _ => none
  | .fieldAddr s x f => match P.underlying s with
    | some (.struct fs) => (fs[f]?).bind fun fl => (szOf P fl.type).bind fun sz => if 0 < sz then (cX x).map (.fieldAddr fl.offset) else none
    | _ => none
  | .field s x f => match P.underlying s with
    | some (.struct fs) => (fs[f]?).bind fun fl => (szOf P fl.type).bind fun sz => (aggOf P fl.type).bind fun g => (cX x).map (.field g fl.offset sz)
    | _ => none
  | .indexAddr t x i => (cX x).bind fun a => (cX i).bind fun b => match P.underlying t with
    | some (.slice e) => (szOf P e).map fun s => .idxS s a b
    | some (.array n e) => (szOf P e).map fun s => .idxP n s a b
    | _ => none
  | .index t x i => (cX x).bind fun a => (cX i).bind fun b => match P.underlying t with
    | some (.array n e) => (szOf P e).bind fun s => (aggOf P e).map fun g => .idxA g n s a b
    | some .string => some (.idxStr a b)
    | _ => none
  | .slice t x lo hi mx => (cX x).bind fun a => (cXo lo).bind fun l => (cXo hi).bind fun h => (cXo mx).bind fun k => match P.underlying t with
    | some (.slice e) => (szOf P e).map fun s => .sub s a l h k
    | some (.array n e) => (szOf P e).map fun s => .subP n s a l h k
    | _ => none
  | .extract x i => (cX x).map (.ext i)
  | .makeFunc fn xs ys => (cXs xs.toList).bind fun a => (cXs ys.toList).map fun b => .mkfn fn a b
  | .makeMap t r => match r, P.underlying t with
    | none, _ => some .mkmap
    | some (.const (.int _ _)), some (.map _ _) => some .mkmap
    | _, _ => none
  | .makeSlice t l c => match P.underlying t with
    | some (.slice e) => (szOf P e).bind fun s => (byOf P e).bind fun by_ => (zeroOf P e).bind fun z => (cX l).bind fun a => (cX c).bind fun b =>
        if z.cells.size = s ∧ 0 < s ∧ 0 < by_ then some (.mkslice s by_ z.cells.toList a b) else none
    | _ => none
  | .lookup t x k ok => match P.underlying t with
    | some (.map kt et) => (cKK P kt).bind fun kk => (zeroOf P et).bind fun z => (cX x).bind fun a => (cX k).map fun b => .look kk z ok a b
    | _ => none
  | .mapUpdate t x k v | .insert t x k v => match P.underlying t with
    | some (.map kt _) => (cKK P kt).bind fun kk => (cX x).bind fun a => (cX k).bind fun b => (cX v).map fun c => .upd kk a b c
    | _ => none
  | .call c => cCall P c
  | _ => none

def cGuard (ops : Array Oper) : Option (Nat × Bool) → Option (Option (Nat × Bool))
  | none => some none
  | some (j, want) => ((ops[j]?).bind (·.dst)).map fun d => some (d, want)

def cOper (P : Program) (N : Nat) (ops : Array Oper) (o : Oper) : Option ROp :=
  (match o.dst with | none => some () | some d => if d < N then some () else none).bind fun _ =>
  (cGuard ops o.guard).map fun g => ⟨o.dst, g, (cAct P o.op).getD .stop⟩

def cOpers (P : Program) (N : Nat) (ops : Array Oper) : List Oper → Option (List ROp)
  | [] => some []
  | o :: r => (cOper P N ops o).bind fun a => (cOpers P N ops r).map fun b => a :: b

def cDeps (o : Oper) : List Nat := (o.after.toList.filter fun e => Region.binds .any e).map (·.on)

/-- The code, with nothing told of what is kept. -/
def cCode (P : Program) (N : Nat) : Code → Option RCode
  | .skip => some .skip
  | .region _ ops draw => (cOpers P N ops ops.toList).map fun l => if draw then .drawn l (ops.toList.map cDeps) [] [] [] else .region l []
  | .seq a b => (cCode P N a).bind fun x => (cCode P N b).map fun y => .seq x y
  | .cond c a b => (cX c).bind fun z => (cCode P N a).bind fun x => (cCode P N b).map fun y => .cond z x y
  | .block id c => (cCode P N c).map fun x => .block id x []
  | .loop c => (cCode P N c).map fun x => .loop [] x
  | .exit id => some (.exit id)
  | .ret => some .ret
  | _ => none

def RCode.erase : RCode → RCode
  | .region l _ => .region l []
  | .drawn l d _ _ _ => .drawn l d [] [] []
  | .seq a b => .seq a.erase b.erase
  | .cond c a b => .cond c a.erase b.erase
  | .block id c _ => .block id c.erase []
  | .loop _ c => .loop [] c.erase
  | c => c

def cRes (P : Program) : List ResultVar → Option (List RRes)
  | [] => some []
  | .tmp t :: r => (cRes P r).map fun b => .slot t :: b
  | .cell a t :: r => (aggOf P t).bind fun g => (szOf P t).bind fun s => (cRes P r).map fun b => .cell a g s :: b

def cFn (P : Program) (fn : Func) : Option RFn :=
  if fn.name == "runtime.NumGoroutine" then none else
  fn.body.bind fun c => (cCode P fn.ntmps c).bind fun b => (cRes P fn.results.toList).map fun r => ⟨fn.params.size + fn.nfree, r, b⟩

def RFn.erase (f : RFn) : RFn := { f with body := f.body.erase }
end Go.Am


/- Operations, one by one: what the abstract machine answers, the model answers. -/
namespace Go.Am
open Go.RowKit

variable {B0 : Nat} {σ : Inj} {m : Mem} {w : World} {P : Program}

structure ER (σ : Inj) (e : Env) (a : Go.Act) : Prop where
  get : ∀ t v, Env.get e t = some v → VR σ v (a.tmps.getD t undef)
  defers : a.defers = []

theorem ER.mono {σ' : Inj} (he : Evo σ σ') {e : Env} {a : Go.Act} (h : ER σ e a) : ER σ' e a := ⟨fun t v hv => (h.get t v hv).mono he, h.defers⟩

theorem VR.constAtom {v : Value} (h : (match v with | .bool _ | .int _ _ | .string _ | .pointer none | .slice none 0 0 | .map none | .nilFunc | .nilIface => true | _ => false) = true) : VR σ v v := by
  split at h
  · exact .bool _
  · exact .int _ _
  · exact .string _
  · exact .ptrNil
  · exact .sliceNil
  · exact .mapNil
  · exact .nilFunc
  · exact .nilIface
  · cases h

theorem VR.const {v : Value} (h : constOk v = true) : VR σ v v := by
  unfold constOk at h
  split at h
  · exact .bool _
  · exact .int _ _
  · exact .string _
  · exact .ptrNil
  · exact .sliceNil
  · exact .mapNil
  · exact .nilFunc
  · exact .nilIface
  · rename_i cs
    refine .agg rfl fun i hi _ => ?_
    rw [Array.all_eq_true] at h
    exact VR.constAtom (h i hi)
  · cases h

theorem ER.eval {e : Env} {a : Go.Act} (h : ER σ e a) {o : Operand} {x : X} (hx : cX o = some x) {v : Value} (hv : x.ev e = some v) : VR σ v (a.eval o) := by
  cases o with
  | tmp t => simp only [cX] at hx; cases hx; exact h.get t v hv
  | const c =>
    simp only [cX] at hx
    split at hx
    · cases hx; simp only [X.ev] at hv; cases hv; exact .const (by assumption)
    · cases hx
  | func f => simp only [cX] at hx; cases hx; simp only [X.ev] at hv; cases hv; exact .func _ rfl (by simp) rfl (by simp)
  | global g => simp [cX] at hx

theorem ER.evals {e : Env} {a : Go.Act} (h : ER σ e a) : ∀ {os : List Operand} {xs : List X} (_ : cXs os = some xs) {vs : List Value} (_ : evs e xs = some vs),
    LR σ vs (os.map a.eval)
  | [], xs, hx, vs, hv => by
    simp only [cXs] at hx; cases hx; simp only [evs] at hv; cases hv; exact .nil
  | o :: os, xs, hx, vs, hv => by
    simp only [cXs] at hx
    obtain ⟨x, h1, hx⟩ := Option.bind_eq_some_iff.1 hx
    obtain ⟨r, h2, hx⟩ := Option.bind_eq_some_iff.1 hx
    cases hx
    simp only [evs] at hv
    obtain ⟨v, h3, hv⟩ := Option.bind_eq_some_iff.1 hv
    obtain ⟨vr, h4, hv⟩ := Option.bind_eq_some_iff.1 hv
    cases hv
    exact .cons (h.eval h1 h3) (h.evals h2 h4)

/-- How an operation ends: the model's result is told by the abstract one. -/
structure OpR (P : Program) (B0 : Nat) (σ : Inj) (m : Mem) (w : World) (at_ : Option Nat) (v : Value) (m' : Mem) (v2 : Value) (w2 : World) : Prop where
  ex : ∃ σ', VR σ' v v2 ∧ MR B0 σ' m' w2 ∧ Evo σ σ' ∧ Below B0 w w2 ∧ m.next ≤ m'.next ∧ ∀ b, b < m.next → at_ ≠ some b → σ b = .fresh → σ' b = .fresh

theorem OpR.pure (h : MR B0 σ m w) {at_ : Option Nat} {v v2 : Value} (hv : VR σ v v2) : OpR P B0 σ m w at_ v m v2 w :=
  ⟨σ, hv, h, .refl σ, Below.refl _ _, Nat.le_refl _, fun _ _ _ h => h⟩

theorem OpR.draw (h : MR B0 σ m w) {at_ : Option Nat} {v v2 : Value} (hv : VR σ v v2) : OpR P B0 σ m w at_ v m v2 w.drew :=
  ⟨σ, hv, h.same rfl, .refl σ, (Below.refl _ _).drew, Nat.le_refl _, fun _ _ _ h => h⟩

/-- A number at which a new block may stand. -/
def AtOk (σ : Inj) (m : Mem) : Option Nat → Prop
  | none => True
  | some k => σ k = .fresh ∧ k < m.next

theorem place_mr (h : MR B0 σ m w) {at_ : Option Nat} (ha : AtOk σ m at_) {c : List Value} {C : Array Value} (e : TypeId) (s u : Nat)
    (hlen : C.size = c.length + s) (hrel : ∀ (j : Nat) v, c[j]? = some v → ∃ v', C[j]? = some v' ∧ VR σ v v') {b : Nat} {m' : Mem} (hp : place at_ m (.cells c (some u)) = (b, m')) :
    ∃ σ', σ' b = .live ⟨w.heap.size, 0, c.length, s, u⟩ ∧ MR B0 σ' m' (w.alloc (.cells C e)) ∧ Evo σ σ' ∧ m.next ≤ m'.next ∧ ∀ b', b' < m.next → at_ ≠ some b' → σ b' = .fresh → σ' b' = .fresh := by
  cases at_ with
  | none =>
    simp only [place] at hp
    obtain ⟨rfl, rfl⟩ : m.next = b ∧ m.new (.cells c (some u)) = m' := by simpa using hp
    have hf := h.fresh m.next (Nat.le_refl _)
    refine ⟨_, Inj.set_self σ m.next _, (h.bump 1).new hf (by simp) e s u hlen hrel, Evo.set_fresh hf _, by simp [Mem.new], fun b' hb' _ hb => ?_⟩
    rw [Inj.set_ne _ _ (by omega)]; exact hb
  | some k =>
    simp only [place] at hp
    obtain ⟨rfl, rfl⟩ : k = b ∧ m.set k (some (.cells c (some u))) = m' := by simpa using hp
    refine ⟨_, Inj.set_self σ k _, h.new ha.1 ha.2 e s u hlen hrel, Evo.set_fresh ha.1 _, by simp, fun b' hb' hne hb => ?_⟩
    rw [Inj.set_ne _ _ (by rintro rfl; exact hne rfl)]; exact hb

theorem place_map (h : MR B0 σ m w) {at_ : Option Nat} (ha : AtOk σ m at_) {b : Nat} {m' : Mem} (hp : place at_ m (.map []) = (b, m')) :
    ∃ σ', σ' b = .live ⟨w.heap.size, 0, 1, 0, 0⟩ ∧ MR B0 σ' m' (w.alloc (.map #[] 0)) ∧ Evo σ σ' ∧ m.next ≤ m'.next ∧ ∀ b', b' < m.next → at_ ≠ some b' → σ b' = .fresh → σ' b' = .fresh := by
  cases at_ with
  | none =>
    simp only [place] at hp
    obtain ⟨rfl, rfl⟩ : m.next = b ∧ m.new (.map []) = m' := by simpa using hp
    have hf := h.fresh m.next (Nat.le_refl _)
    refine ⟨_, Inj.set_self σ m.next _, (h.bump 1).newMap hf (by simp), Evo.set_fresh hf _, by simp [Mem.new], fun b' hb' _ hb => ?_⟩
    rw [Inj.set_ne _ _ (by omega)]; exact hb
  | some k =>
    simp only [place] at hp
    obtain ⟨rfl, rfl⟩ : k = b ∧ m.set k (some (.map [])) = m' := by simpa using hp
    refine ⟨_, Inj.set_self σ k _, h.newMap ha.1 ha.2, Evo.set_fresh ha.1 _, by simp, fun b' hb' hne hb => ?_⟩
    rw [Inj.set_ne _ _ (by rintro rfl; exact hne rfl)]; exact hb

/-! ### numbers -/

theorem run_of_pureOf {s : Sem Value} {v : Value} (h : pureOf s = some v) : s = .pure v := by
  unfold pureOf at h; split at h <;> simp_all

theorem run_eqGuard_int (op : BinOp) (t : TypeId) (x y : Operand) (k k' : IntKind) (a b : Int) : (eqGuard op t x y (.int k a) (.int k' b)).run P w = .ok () w := by
  unfold eqGuard; cases op <;> rfl
theorem run_eqGuard_string (op : BinOp) (t : TypeId) (x y : Operand) (a b : ByteArray) : (eqGuard op t x y (.string a) (.string b)).run P w = .ok () w := by
  unfold eqGuard; cases op <;> rfl

theorem binOp_int_type (op : BinOp) (t u : TypeId) (k k' : IntKind) (a b : Int) : Go.binOp op t (.int k a) (.int k' b) = Go.binOp op u (.int k a) (.int k' b) := by
  cases op <;> rfl
theorem binOp_string_type (op : BinOp) (t u : TypeId) (a b : ByteArray) : Go.binOp op t (.string a) (.string b) = Go.binOp op u (.string a) (.string b) := by
  cases op <;> rfl

/-- Values that hold no address. -/
inductive Plain : Value → Prop
  | bool (b : Bool) : Plain (.bool b)
  | int (k : IntKind) (n : Int) : Plain (.int k n)
  | string (s : ByteArray) : Plain (.string s)
theorem Plain.vr {v : Value} (h : Plain v) : VR σ v v := by cases h; exact .bool _; exact .int _ _; exact .string _

theorem pureOf_ite {c : Prop} [Decidable c] {a b : Sem Value} {v : Value} (h : pureOf (if c then a else b) = some v) : (c ∧ pureOf a = some v) ∨ (¬ c ∧ pureOf b = some v) := by
  split at h
  · exact .inl ⟨by assumption, h⟩
  · exact .inr ⟨by assumption, h⟩

theorem pureOf_runtimePanic (e : RuntimeError) : pureOf (runtimePanic e) = none := by
  unfold runtimePanic
  rfl

theorem plain_int {op : BinOp} {k k' : IntKind} {a b : Int} {v : Value} (h : pureOf (Go.binOp op 0 (.int k a) (.int k' b)) = some v) : Plain v := by
  have key : ∀ {o : BinOp}, pureOf (if k ≠ k' then stuck "BinOp: operands of different kinds" else
      match o with
      | .add | .sub | .mul => Op.intArith o k a b
      | .quo | .rem => Op.intDiv o k a b
      | .and | .or | .xor | .andNot => Op.intBits o k a b
      | _ => Op.intCmp o a b) = some v → Plain v := by
    intro o h
    rcases pureOf_ite h with ⟨_, h⟩ | ⟨_, h⟩
    · cases h
    · cases o <;> simp only [Op.intArith, Op.intDiv, Op.intBits, Op.intCmp] at h <;>
        first
        | (cases h; first | exact .int _ _ | exact .bool _)
        | (rcases pureOf_ite h with ⟨_, h⟩ | ⟨_, h⟩
           · rw [pureOf_runtimePanic] at h; cases h
           · cases h; exact .int _ _)
        | cases h
  have shf : ∀ {o : BinOp}, pureOf (Op.shift o k a k' b) = some v → Plain v := by
    intro o h
    unfold Op.shift at h
    rcases pureOf_ite h with ⟨_, h⟩ | ⟨_, h⟩
    · rw [pureOf_runtimePanic] at h; cases h
    · cases o <;> first | (cases h; exact .int _ _) | cases h
  cases op <;> first | exact shf (o := .shl) h | exact shf (o := .shr) h | exact key (o := .add) h | exact key (o := .sub) h | exact key (o := .mul) h | exact key (o := .quo) h | exact key (o := .rem) h | exact key (o := .and) h | exact key (o := .or) h | exact key (o := .xor) h | exact key (o := .andNot) h | exact key (o := .eql) h | exact key (o := .neq) h | exact key (o := .lss) h | exact key (o := .leq) h | exact key (o := .gtr) h | exact key (o := .geq) h

theorem plain_string {op : BinOp} {a b : ByteArray} {v : Value} (h : pureOf (Go.binOp op 0 (.string a) (.string b)) = some v) : Plain v := by
  have h : pureOf (Op.stringOp op a b) = some v := by cases op <;> exact h
  cases op <;> simp only [Op.stringOp] at h <;>
    first
    | (cases h; first | exact .bool _ | exact .string _)
    | (rcases pureOf_ite h with ⟨_, h⟩ | ⟨_, h⟩
       · cases h
       · cases h; exact .string _)
    | cases h

theorem sim_bin (op : BinOp) (t : TypeId) (ox oy : Operand) {a b a2 b2 v : Value} (h : aBin op a b = some v) (ha : VR σ a a2) (hb : VR σ b b2) :
    (do eqGuard op t ox oy a2 b2; Go.binOp op t a2 b2 : Sem Value).run P w = .ok v w ∧ VR σ v v := by
  unfold aBin at h
  split at h
  · obtain rfl := ha.int_inv; obtain rfl := hb.int_inv
    refine ⟨?_, (plain_int h).vr⟩
    simp only [Sem.run_bind, run_eqGuard_int, Result.andThen_ok]
    rw [binOp_int_type op t 0, run_of_pureOf h]; rfl
  · obtain rfl := ha.string_inv; obtain rfl := hb.string_inv
    refine ⟨?_, (plain_string h).vr⟩
    simp only [Sem.run_bind, run_eqGuard_string, Result.andThen_ok]
    rw [binOp_string_type op t 0, run_of_pureOf h]; rfl
  · cases h

theorem sim_un (op : UnOp) {a a2 v : Value} (h : aUn op a = some v) (ha : VR σ a a2) : (Op.unary op a2).run P w = .ok v w ∧ VR σ v v := by
  unfold aUn at h
  split at h
  · obtain rfl := ha.int_inv
    have e := run_of_pureOf h
    refine ⟨by rw [e]; rfl, ?_⟩
    cases op <;> simp only [Op.unary, Op.intArith, Op.intBits] at e <;> first | (cases e; exact .int _ _) | cases e
  · obtain rfl := ha.bool_inv
    have e := run_of_pureOf h
    refine ⟨by rw [e]; rfl, ?_⟩
    cases op <;> simp only [Op.unary] at e <;> first | (cases e; exact .bool _) | cases e
  · cases h
end Go.Am


/- Loads, stores, addresses, aggregates, slices. -/
namespace Go.Am
open Go.RowKit

variable {B0 : Nat} {σ : Inj} {m : Mem} {w : World} {P : Program}

theorem run_underlying {t : TypeId} {d : TypeDesc} (h : P.underlying t = some d) : (underlying t).run P w = .ok d w := by
  unfold underlying; simp [h]
theorem run_typeInfo {t : TypeId} {i : TypeInfo} (h : P.info? t = some i) : (typeInfo t).run P w = .ok i w := by
  unfold typeInfo; simp [h]
theorem run_sizeOf {t : TypeId} {s : Nat} (h : szOf P t = some s) : (sizeOf t).run P w = .ok s w := by
  unfold szOf at h
  obtain ⟨i, hi, rfl⟩ := Option.map_eq_some_iff.1 h
  unfold sizeOf; simp [run_typeInfo hi]
theorem run_zeroValue {t : TypeId} {z : Value} (h : zeroOf P t = some z) : (zeroValue t).run P w = .ok z w ∧ VR σ z z := by
  unfold zeroOf at h
  obtain ⟨i, hi, h⟩ := Option.bind_eq_some_iff.1 h
  obtain ⟨z', hz, h⟩ := Option.bind_eq_some_iff.1 h
  split at h
  · cases h; rename_i hc
    exact ⟨by unfold zeroValue; simp [run_typeInfo hi, hz], .const hc⟩
  · cases h
theorem run_bytes {t : TypeId} {b : Nat} (h : byOf P t = some b) : ∃ i, P.info? t = some i ∧ i.bytes = b := by
  unfold byOf at h
  obtain ⟨i, hi, h⟩ := Option.map_eq_some_iff.1 h
  exact ⟨i, hi, h⟩
theorem run_isAgg {t : TypeId} {g : Bool} (h : aggOf P t = some g) : (isAgg t).run P w = .ok g w := by
  unfold aggOf at h
  obtain ⟨d, hd, h⟩ := Option.map_eq_some_iff.1 h
  unfold isAgg
  simp only [Sem.run_bind, run_underlying hd, Result.andThen_ok]
  subst h
  cases d <;> rfl

theorem run_loadVar {t : TypeId} {g : Bool} {sz : Nat} {a a2 v : Value} (hg : aggOf P t = some g) (hs : szOf P t = some sz) (hm : MR B0 σ m w) (ha : VR σ a a2)
    (h : aLoad g sz m a = some v) : ∃ q v2, a2 = .pointer (some q) ∧ (loadVar t q).run P w = .ok v2 w ∧ VR σ v v2 := by
  unfold aLoad at h
  split at h
  · rename_i b o
    split at h
    · rename_i c own hc
      obtain ⟨i, hi⟩ := hm.live_of hc
      have hq : a2 = .pointer (some ⟨i.block, i.off + o, none⟩) := by
        cases ha with
        | ptr h' => rw [hi] at h'; cases h'; rfl
        | ptrDead h' => rw [hi] at h'; cases h'
      refine ⟨⟨i.block, i.off + o, none⟩, ?_⟩
      cases g with
      | true =>
        simp only [if_true] at h
        split at h
        · cases h
          obtain ⟨vs, h1, h2, h3⟩ := hm.piece_lr hi hc o sz (by assumption)
          refine ⟨.agg vs.toArray, hq, ?_, .agg_lr h3⟩
          unfold loadVar
          have := run_loadCells (P := P) i.block (i.off + o) vs h2
          rw [h1] at this
          simp [run_isAgg hg, run_sizeOf hs, this]
        · cases h
      | false =>
        simp only [Bool.false_eq_true, if_false] at h
        obtain ⟨v', h1, h2⟩ := hm.load hi hc h
        refine ⟨v', hq, ?_, h2⟩
        unfold loadVar
        simp [run_isAgg hg, h1]
    · cases h
  · cases h

theorem sim_load {t : TypeId} {g : Bool} {sz : Nat} {a a2 v : Value} (hg : aggOf P t = some g) (hs : szOf P t = some sz) (hm : MR B0 σ m w) (ha : VR σ a a2)
    (h : aLoad g sz m a = some v) : ∃ v2, (Instr.loadAt t a2).run P w = .ok v2 w ∧ VR σ v v2 := by
  obtain ⟨q, v2, rfl, h1, h2⟩ := run_loadVar hg hs hm ha h
  exact ⟨v2, by unfold Instr.loadAt; simpa [Instr.sureAddr] using h1, h2⟩

/-- A row of cells written into an own block. -/
theorem sim_write {b o : Nat} {vs vs' : List Value} {m' : Mem} {i : Img} (hm : MR B0 σ m w) (hi : σ b = .live i) (hl : LR σ vs vs') (h : aWrite m b o vs = some m') :
    ∃ w', (storeCells ⟨i.block, i.off + o, none⟩ vs').run P w = .ok () w' ∧ MR B0 σ m' w' ∧ Below B0 w w' ∧ m'.next = m.next := by
  unfold aWrite at h
  split at h
  · rename_i c u hc
    split at h
    · rename_i hcond
      cases h
      obtain ⟨w', h1, h2, h3⟩ := run_storeCells (P := P) B0 hi vs vs' o 0 m w c hm hc hl (by simpa using hcond.1) hcond.2
      exact ⟨w', h1, h2, h3, rfl⟩
    · cases h
  · cases h

theorem sim_store {t : TypeId} {sz : Nat} {a a2 v v2 : Value} {m' : Mem} (hs : szOf P t = some sz) (hm : MR B0 σ m w) (ha : VR σ a a2) (hv : VR σ v v2)
    (h : aStore sz m a v = some m') : ∃ w', (Instr.storeAt t a2 v2).run P w = .ok () w' ∧ MR B0 σ m' w' ∧ Below B0 w w' ∧ m'.next = m.next := by
  unfold aStore at h
  split at h
  · rename_i b o
    split at h
    · rename_i hsz
      have h0 := h
      unfold aWrite at h0
      split at h0
      · rename_i c u hc
        obtain ⟨i, hi⟩ := hm.live_of hc
        have hq : a2 = .pointer (some ⟨i.block, i.off + o, none⟩) := by
          cases ha with
          | ptr h' => rw [hi] at h'; cases h'; rfl
          | ptrDead h' => rw [hi] at h'; cases h'
        subst hq
        obtain ⟨w', h1, h2⟩ := sim_write (P := P) hm hi hv.cells_lr h
        refine ⟨w', ?_, h2⟩
        unfold Instr.storeAt storeVar
        have hsz' : v2.cells.size = sz := by rw [← hv.cells.1]; exact hsz
        simp [Instr.sureAddr, run_sizeOf hs, hsz', h1]
      · cases h0
    · cases h
  · cases h

theorem sim_fieldAddr {s : TypeId} {fs : Array Field} {f : Nat} {fl : Field} {sz : Nat} {a a2 v : Value} (hu : P.underlying s = some (.struct fs)) (hf : fs[f]? = some fl)
    (hs : szOf P fl.type = some sz) (hz : 0 < sz) (ha : VR σ a a2) (h : aFieldAddr fl.offset a = some v) : ∃ v2, (Instr.fieldAt s a2 f).run P w = .ok v2 w ∧ VR σ v v2 := by
  unfold aFieldAddr at h
  split at h
  · rename_i b o
    cases h
    have fp : ∀ q : Addr, (fieldPlace q fl).run P w = .ok (q.add fl.offset) w := by
      intro q; unfold fieldPlace; simp [run_sizeOf hs, show sz ≠ 0 from by omega]
    cases ha with
    | @ptr _ _ i hb =>
      refine ⟨.pointer (some ⟨i.block, i.off + o + fl.offset, none⟩), ?_, by rw [Nat.add_assoc]; exact .ptr hb⟩
      unfold Instr.fieldAt
      simp [run_underlying hu, hf, Instr.sureAddr, fp, addr_add]
    | @ptrDead _ _ q hb =>
      refine ⟨.pointer (some (q.add fl.offset)), ?_, .ptrDead hb⟩
      unfold Instr.fieldAt
      simp [run_underlying hu, hf, Instr.sureAddr, fp]
  · cases h

theorem sim_part {t : TypeId} {g : Bool} {off sz : Nat} {cs ds : Array Value} {v : Value} (hg : aggOf P t = some g) (hs : szOf P t = some sz) (hl : LR σ cs.toList ds.toList)
    (h : aPart g off sz cs = some v) : ∃ v2, (part t ds off).run P w = .ok v2 w ∧ VR σ v v2 := by
  unfold aPart at h
  cases g with
  | true =>
    simp only [if_true] at h
    split at h
    · cases h
      refine ⟨.agg (ds.extract off (off + sz)), by unfold part; simp [run_isAgg hg, run_sizeOf hs], ?_⟩
      have : ∀ xs : Array Value, xs.extract off (off + sz) = ((xs.toList.drop off).take sz).toArray := by
        intro xs; apply Array.ext'; simp [List.extract]
      rw [this, this]
      exact .agg_lr ((hl.drop off).take sz)
    · cases h
  | false =>
    simp only [Bool.false_eq_true, if_false] at h
    obtain ⟨y, hy, hr⟩ := hl.get (j := off) (x := v) (by simpa using h)
    refine ⟨y, ?_, hr⟩
    rw [Array.getElem?_toList] at hy
    unfold part; simp [run_isAgg hg, hy]

theorem sim_field {s : TypeId} {fs : Array Field} {f : Nat} {fl : Field} {g : Bool} {sz : Nat} {a a2 v : Value} (hu : P.underlying s = some (.struct fs)) (hf : fs[f]? = some fl)
    (hg : aggOf P fl.type = some g) (hs : szOf P fl.type = some sz) (ha : VR σ a a2) (h : aField g fl.offset sz a = some v) : ∃ v2, (Instr.field s a2 f).run P w = .ok v2 w ∧ VR σ v v2 := by
  unfold aField at h
  split at h
  · cases ha with
    | agg h1 h2 =>
      obtain ⟨v2, e, hr⟩ := sim_part (P := P) (w := w) hg hs (LR.arr h1 h2) h
      refine ⟨v2, ?_, hr⟩
      unfold Instr.field
      simp [run_underlying hu, hf, asAgg, e]
  · cases h

theorem sim_idxS {t e : TypeId} {sz : Nat} {a a2 i i2 v : Value} (hu : P.underlying t = some (.slice e)) (hs : szOf P e = some sz) (ha : VR σ a a2) (hi : VR σ i i2)
    (h : aIdxS sz a i = some v) : ∃ v2, (Instr.indexAt t a2 i2).run P w = .ok v2 w ∧ VR σ v v2 := by
  unfold aIdxS at h
  split at h
  · rename_i b o n c k x
    split at h
    · rename_i hb
      cases h
      obtain rfl := hi.int_inv
      have key : ∀ (q : Addr) (c' : Nat), (Instr.indexAt t (.slice (some q) n c') (.int k x)).run P w = .ok (.pointer (some (q.add (x.toNat * sz)))) w := by
        intro q c'
        unfold Instr.indexAt
        simp [asIntOf, run_underlying hu, run_sizeOf hs, hb]
      cases ha with
      | @slice _ _ _ _ c' im h1 h2 h3 => exact ⟨_, key _ _, by rw [addr_add, Nat.add_assoc]; exact .ptr h1⟩
      | sliceZ h1 => have := hb.2; have := hb.1; omega
      | sliceDead h1 => exact ⟨_, key _ _, .ptrDead h1⟩
    · cases h
  · cases h

theorem sim_idxP {t e : TypeId} {n sz : Nat} {a a2 i i2 v : Value} (hu : P.underlying t = some (.array n e)) (hs : szOf P e = some sz) (ha : VR σ a a2) (hi : VR σ i i2)
    (h : aIdxP n sz a i = some v) : ∃ v2, (Instr.indexAt t a2 i2).run P w = .ok v2 w ∧ VR σ v v2 := by
  unfold aIdxP at h
  split at h
  · rename_i b o k x
    split at h
    · rename_i hb
      cases h
      obtain rfl := hi.int_inv
      have key : ∀ (q : Addr), (Instr.indexAt t (.pointer (some q)) (.int k x)).run P w = .ok (.pointer (some (q.add (x.toNat * sz)))) w := by
        intro q
        unfold Instr.indexAt
        simp [asIntOf, run_underlying hu, run_sizeOf hs, hb, Instr.sureAddr]
      cases ha with
      | ptr h1 => exact ⟨_, key _, by rw [addr_add, Nat.add_assoc]; exact .ptr h1⟩
      | ptrDead h1 => exact ⟨_, key _, .ptrDead h1⟩
    · cases h
  · cases h

theorem sim_idxA {t e : TypeId} {g : Bool} {n sz : Nat} {a a2 i i2 v : Value} (hu : P.underlying t = some (.array n e)) (hs : szOf P e = some sz)
    (hg : aggOf P e = some g) (ha : VR σ a a2) (hi : VR σ i i2)
    (h : aIdxA g n sz a i = some v) : ∃ v2, (Instr.index t a2 i2).run P w = .ok v2 w ∧ VR σ v v2 := by
  unfold aIdxA at h
  split at h
  · rename_i cs k x
    split at h
    · rename_i hb
      obtain rfl := hi.int_inv
      cases ha with
      | @agg _ ds h1 h2 =>
        obtain ⟨v2, e', hr⟩ := sim_part (P := P) (w := w) hg hs (LR.arr h1 h2) h
        refine ⟨v2, ?_, hr⟩
        unfold Instr.index
        simp [asIntOf, run_underlying hu, run_sizeOf hs, hb, e']
    · cases h
  · cases h

theorem sim_idxStr {t : TypeId} {a a2 i i2 v : Value} (hu : P.underlying t = some .string) (ha : VR σ a a2) (hi : VR σ i i2)
    (h : aIdxStr a i = some v) : ∃ v2, (Instr.index t a2 i2).run P w = .ok v2 w ∧ VR σ v v2 := by
  unfold aIdxStr at h
  split at h
  · rename_i s k x
    split at h
    · rename_i hb
      cases h
      obtain rfl := hi.int_inv
      obtain rfl := ha.string_inv
      refine ⟨_, ?_, .int _ _⟩
      unfold Instr.index
      simp [asIntOf, run_underlying hu, hb.1, getElem?_pos s x.toNat hb.2]
    · cases h
  · cases h

theorem sim_bound {top : Nat} {x x2 : Value} {n : Nat} {code : BoundsCode} (hx : VR σ x x2) (h : aBound top x = some n) {top' : Nat} (ht : top ≤ top') :
    (Instr.sliceBound x2 top' code).run P w = .ok n w := by
  unfold aBound at h
  split at h
  · split at h
    · cases h
      obtain rfl := hx.int_inv
      rename_i k i hb
      unfold Instr.sliceBound
      have : (0 ≤ i ∧ i ≤ (top' : Int)) := ⟨hb.1, by have := hb.2; omega⟩
      simp [asIntOf, this]
    · cases h
  · cases h

theorem aBound_le {top n : Nat} {x : Value} (h : aBound top x = some n) : n ≤ top := by
  unfold aBound at h
  split at h
  · split at h
    · cases h; rename_i hb; have := hb.2; have := hb.1; omega
    · cases h
  · cases h

def OVR (σ : Inj) : Option Value → Option Value → Prop
  | none, none => True
  | some a, some b => VR σ a b
  | _, _ => False

/-- The bounds of a slice expression: the model's, with a capacity that may be more. -/
theorem sim_bounds {isS : Bool} {len cap cap' l h k : Nat} {lo hi mx lo2 hi2 mx2 : Option Value} (hlo : OVR σ lo lo2) (hhi : OVR σ hi hi2) (hmx : OVR σ mx mx2)
    (hc : cap ≤ cap') (hb : aBounds len cap lo hi mx = some (l, h, k)) :
    (Instr.sliceBounds isS len cap' lo2 hi2 mx2).run P w = .ok (l, h, if mx.isSome then k else cap') w ∧ (mx = none → k = cap) ∧ l ≤ h ∧ (hi.isSome ∨ mx.isSome → h ≤ k) ∧ (hi = none → h = len) ∧ k ≤ cap := by
  unfold aBounds at hb
  obtain ⟨m0, h1, hb⟩ := Option.bind_eq_some_iff.1 hb
  obtain ⟨h0, h2, hb⟩ := Option.bind_eq_some_iff.1 hb
  obtain ⟨l0, h3, hb⟩ := Option.bind_eq_some_iff.1 hb
  obtain ⟨rfl, rfl, rfl⟩ : l0 = l ∧ h0 = h ∧ m0 = k := by simpa using hb
  have hmxs : mx2.isSome = mx.isSome := by cases mx <;> cases mx2 <;> first | rfl | exact hmx.elim
  unfold Instr.sliceBounds
  cases mx with
  | none =>
    obtain rfl : mx2 = none := by cases mx2 with | none => rfl | some _ => exact hmx.elim
    cases h1
    cases hi with
    | none =>
      obtain rfl : hi2 = none := by cases hi2 with | none => rfl | some _ => exact hhi.elim
      cases h2
      cases lo with
      | none =>
        obtain rfl : lo2 = none := by cases lo2 with | none => rfl | some _ => exact hlo.elim
        cases h3
        exact ⟨by simp, fun _ => rfl, Nat.zero_le _, by simp, fun _ => rfl, Nat.le_refl _⟩
      | some lo =>
        obtain ⟨lo2, rfl⟩ : ∃ x, lo2 = some x := by cases lo2 with | none => exact hlo.elim | some x => exact ⟨x, rfl⟩
        have := sim_bound (P := P) (w := w) (code := .sliceB) hlo h3 (Nat.le_refl _)
        exact ⟨by simp [this], fun _ => rfl, aBound_le h3, by simp, fun _ => rfl, Nat.le_refl _⟩
    | some hi =>
      obtain ⟨hi2, rfl⟩ : ∃ x, hi2 = some x := by cases hi2 with | none => exact hhi.elim | some x => exact ⟨x, rfl⟩
      have e2 := fun code => sim_bound (P := P) (w := w) (code := code) hhi h2 hc
      cases lo with
      | none =>
        obtain rfl : lo2 = none := by cases lo2 with | none => rfl | some _ => exact hlo.elim
        cases h3
        exact ⟨by simp [e2], fun _ => rfl, Nat.zero_le _, fun _ => aBound_le h2, by simp, Nat.le_refl _⟩
      | some lo =>
        obtain ⟨lo2, rfl⟩ : ∃ x, lo2 = some x := by cases lo2 with | none => exact hlo.elim | some x => exact ⟨x, rfl⟩
        have e3 := sim_bound (P := P) (w := w) (code := .sliceB) hlo h3 (Nat.le_refl _)
        exact ⟨by simp [e2, e3], fun _ => rfl, aBound_le h3, fun _ => aBound_le h2, by simp, Nat.le_refl _⟩
  | some mx =>
    obtain ⟨mx2, rfl⟩ : ∃ x, mx2 = some x := by cases mx2 with | none => exact hmx.elim | some x => exact ⟨x, rfl⟩
    have e1 := fun code => sim_bound (P := P) (w := w) (code := code) hmx h1 hc
    cases hi with
    | none => simp at h2
    | some hi =>
      obtain ⟨hi2, rfl⟩ : ∃ x, hi2 = some x := by cases hi2 with | none => exact hhi.elim | some x => exact ⟨x, rfl⟩
      have e2 := fun code => sim_bound (P := P) (w := w) (code := code) hhi h2 (Nat.le_refl _)
      cases lo with
      | none =>
        obtain rfl : lo2 = none := by cases lo2 with | none => rfl | some _ => exact hlo.elim
        cases h3
        exact ⟨by simp [e1, e2], by simp, Nat.zero_le _, fun _ => aBound_le h2, by simp, aBound_le h1⟩
      | some lo =>
        obtain ⟨lo2, rfl⟩ : ∃ x, lo2 = some x := by cases lo2 with | none => exact hlo.elim | some x => exact ⟨x, rfl⟩
        have e3 := fun code => sim_bound (P := P) (w := w) (code := code) hlo h3 (Nat.le_refl _)
        exact ⟨by simp [e1, e2, e3], by simp, aBound_le h3, fun _ => aBound_le h2, by simp, aBound_le h1⟩
end Go.Am


/- Slice expressions, make, literals, append, copy. -/
namespace Go.Am
open Go.RowKit

variable {B0 : Nat} {σ : Inj} {m : Mem} {w : World} {P : Program}

theorem VR.ne_fresh_slice {b o n c : Nat} {v : Value} (h : VR σ (.slice (some ⟨b, o, none⟩) n c) v) : σ b ≠ .fresh := by
  cases h with
  | slice h _ _ => rw [h]; simp
  | sliceZ h => exact h
  | sliceDead h => rw [h]; simp

theorem MR.cap_eq (hm : MR B0 σ m w) {b : Nat} {i : Img} {cs : List Value} (hb : σ b = .live i) (hc : m.blk b = some (.cells cs none)) {o c c' : Nat} (h : c ≤ c')
    (hx : c < c' → o + c * i.unit = i.len ∧ c' * i.unit ≤ c * i.unit + i.spare) : c' = c := by
  obtain ⟨hs, hu⟩ := hm.ro b i cs hb hc
  rcases Nat.lt_or_ge c c' with hlt | hge
  · have := (hx hlt).2
    rw [hs, Nat.add_zero] at this
    have := Nat.le_of_mul_le_mul_right this hu
    omega
  · omega

theorem sim_sub {t e : TypeId} {sz : Nat} {a a2 v : Value} {lo hi mx lo2 hi2 mx2 : Option Value} (hu : P.underlying t = some (.slice e)) (hs : szOf P e = some sz)
    (hm : MR B0 σ m w) (ha : VR σ a a2) (hlo : OVR σ lo lo2) (hhi : OVR σ hi hi2) (hmx : OVR σ mx mx2) (h : aSub sz m a lo hi mx = some v) :
    ∃ v2, (Instr.sliceAt t a2 lo2 hi2 mx2).run P w = .ok v2 w ∧ VR σ v v2 := by
  have base : ∀ x : Value, (Instr.sliceAt t x lo2 hi2 mx2).run P w = (Instr.slice t x lo2 hi2 mx2).run P w := by
    intro x; unfold Instr.sliceAt; simp [run_underlying hu]
  unfold aSub at h
  split at h
  · obtain ⟨⟨l, hh, k⟩, hb, h⟩ := Option.bind_eq_some_iff.1 h
    cases h
    cases ha with
    | sliceNil =>
      obtain ⟨h1, h2, h3, h4, h5, h6⟩ := sim_bounds (P := P) (w := w) (isS := true) hlo hhi hmx (Nat.le_refl 0) hb
      refine ⟨.slice none 0 0, ?_, .sliceNil⟩
      rw [base]
      unfold Instr.slice
      have hk : k = 0 := by omega
      have hl0 : hh = 0 := by
        cases hi with
        | none => exact h5 rfl
        | some _ => have := h4 (.inl rfl); omega
      have hl : l = 0 := by omega
      have hmm : (if mx.isSome then k else 0) = 0 := by split <;> omega
      rw [hmm] at h1
      subst hk; subst hl0; subst hl
      simp [run_underlying hu, h1, run_sizeOf hs]
  · rename_i b o n c
    split at h
    · rename_i hun
      obtain ⟨⟨l, hh, k⟩, hb, h⟩ := Option.bind_eq_some_iff.1 h
      unfold cutAt at h
      split at h
      · rename_i hhk
        simp only at hhk h
        cases h
        -- the concrete slice
        have key : ∀ (q : Addr) (c' : Nat), c ≤ c' → ∃ k', (k ≤ k' ∧ (k < k' → mx = none ∧ k = c ∧ k' = c')) ∧
            (Instr.slice t (.slice (some q) n c') lo2 hi2 mx2).run P w = .ok (.slice (if k' = l then some q else some (q.add (l * sz))) (hh - l) (k' - l)) w := by
          intro q c' hcc
          obtain ⟨h1, h2, h3, h4, h5, h6⟩ := sim_bounds (P := P) (w := w) (isS := true) (len := n) hlo hhi hmx hcc hb
          refine ⟨if mx.isSome then k else c', ⟨by split <;> omega, fun hlt => ?_⟩, ?_⟩
          · cases mx with
            | none => exact ⟨rfl, h2 rfl, by simp⟩
            | some _ => simp at hlt
          · unfold Instr.slice
            simp [run_underlying hu, h1, run_sizeOf hs]
        have hl := (sim_bounds (P := P) (w := w) (isS := true) hlo hhi hmx (Nat.le_refl c) hb).2.2.1
        have fin : ∀ (q : Addr) (k' : Nat) (z : Value), k ≤ k' → σ b ≠ .fresh → k' = l → VR σ (.slice (some ⟨b, o + l * sz, none⟩) (hh - l) (k - l)) (.slice (some q) (hh - l) (k' - l)) := by
          intro q k' z h1 hf h2
          have e1 : hh - l = 0 := by omega
          have e2 : k - l = 0 := by omega
          have e3 : k' - l = 0 := by omega
          rw [e1, e2, e3]; exact .sliceZ hf
        have hf := ha.ne_fresh_slice
        cases ha with
        | @slice _ _ _ _ c' i h1 h2 h3 =>
          obtain ⟨k', ⟨hk, hkx⟩, hrun⟩ := key ⟨i.block, i.off + o, none⟩ c' h2
          refine ⟨_, by rw [base]; exact hrun, ?_⟩
          by_cases e : k' = l
          · rw [if_pos e]; exact fin _ _ (.bool true) hk hf e
          · rw [if_neg e, addr_add, Nat.add_assoc]
            refine .slice h1 (by omega) fun hlt => ?_
            obtain ⟨_, rfl, rfl⟩ := hkx (by omega)
            have hcc : k < k' := by omega
            obtain ⟨x1, x2⟩ := h3 hcc
            -- the unit
            have hun2 : i.unit = sz := by
              unfold unitOk at hun
              split at hun
              · rename_i cs u hc
                have := (hm.rw b i cs u h1 hc).1
                rw [this]; exact Nat.eq_of_beq_eq_true hun
              · rename_i cs hc
                exact absurd (hm.cap_eq h1 hc h2 h3) (by omega)
              · cases hun
            subst hun2
            have m1 : l * i.unit + (k - l) * i.unit = k * i.unit := by rw [← Nat.add_mul]; congr 1; omega
            have m2 : l * i.unit + (k' - l) * i.unit = k' * i.unit := by rw [← Nat.add_mul]; congr 1; omega
            constructor <;> omega
        | @sliceZ _ _ q h1 =>
          obtain ⟨k', ⟨hk, hkx⟩, hrun⟩ := key q 0 (Nat.le_refl 0)
          have h6 := (sim_bounds (P := P) (w := w) (isS := true) hlo hhi hmx (Nat.le_refl 0) hb).2.2.2.2.2
          have : k' = 0 := by
            rcases Nat.lt_or_ge k k' with hlt | hge
            · exact (hkx hlt).2.2
            · omega
          have el : l = 0 := by omega
          refine ⟨_, by rw [base]; exact hrun, ?_⟩
          rw [if_pos (by omega)]
          exact fin _ _ (.bool true) hk hf (by omega)
        | sliceDead h1 =>
          have := hm.dom b (fun i hi => by rw [h1] at hi; cases hi)
          unfold unitOk at hun; rw [this] at hun; cases hun
      · cases h
    · cases h
  · cases h

theorem sim_subP {t e : TypeId} {n sz : Nat} {a a2 v : Value} {lo hi mx lo2 hi2 mx2 : Option Value} (hu : P.underlying t = some (.array n e)) (hs : szOf P e = some sz)
    (ha : VR σ a a2) (hlo : OVR σ lo lo2) (hhi : OVR σ hi hi2) (hmx : OVR σ mx mx2) (h : aSubP n sz a lo hi mx = some v) :
    ∃ v2, (Instr.sliceAt t a2 lo2 hi2 mx2).run P w = .ok v2 w ∧ VR σ v v2 := by
  unfold aSubP at h
  split at h
  · rename_i b o
    obtain ⟨⟨l, hh, k⟩, hb, h⟩ := Option.bind_eq_some_iff.1 h
    unfold cutAt at h
    split at h
    · rename_i hhk
      simp only at hhk h
      cases h
      obtain ⟨h1, h2, h3, h4, h5, h6⟩ := sim_bounds (P := P) (w := w) (isS := false) hlo hhi hmx (Nat.le_refl n) hb
      have hk : (if mx.isSome then k else n) = k := by
        cases mx with
        | none => exact (h2 rfl).symm
        | some _ => rfl
      rw [hk] at h1
      have key : ∀ (q : Addr), (Instr.sliceAt t (.pointer (some q)) lo2 hi2 mx2).run P w = .ok (.slice (some (if k = l then q else q.add (l * sz))) (hh - l) (k - l)) w := by
        intro q
        unfold Instr.sliceAt
        simp [run_underlying hu, Instr.sureAddr, h1, run_sizeOf hs]
      refine (?_ : ∃ q, a2 = .pointer (some q) ∧ _).elim fun q hq => ⟨_, by rw [hq.1]; exact key q, hq.2⟩
      by_cases e : k = l
      · have e1 : hh - l = 0 := by omega
        have e2 : k - l = 0 := by omega
        rw [e1, e2]
        cases ha with
        | ptr h1 => exact ⟨_, rfl, .sliceZ (by rw [h1]; simp)⟩
        | ptrDead h1 => exact ⟨_, rfl, .sliceZ (by rw [h1]; simp)⟩
      · cases ha with
        | ptr h1 => exact ⟨_, rfl, by rw [if_neg e, addr_add, Nat.add_assoc]; exact .slice h1 (Nat.le_refl _) (fun h => absurd h (Nat.lt_irrefl _))⟩
        | ptrDead h1 => exact ⟨_, rfl, by rw [if_neg e]; exact .sliceDead h1⟩
    · cases h
  · cases h

theorem map_range0 (f : Nat → Value) : Array.map f (Array.range 0) = #[] := Array.eq_empty_of_size_eq_zero (by simp)

theorem zeros_length (z : List Value) (n : Nat) : (zeros z n).length = n * z.length := by
  induction n with
  | zero => simp [zeros]
  | succ n ih => simp [zeros, ih, Nat.add_mul]; omega

theorem zeros_get (z : List Value) (n j : Nat) (h : j < n * z.length) : (zeros z n)[j]? = z[j % z.length]? := by
  induction n generalizing j with
  | zero => simp at h
  | succ n ih =>
    unfold zeros
    by_cases hj : j < z.length
    · rw [List.getElem?_append_left hj, Nat.mod_eq_of_lt hj]
    · rw [List.getElem?_append_right (by omega), ih _ (by rw [Nat.add_mul] at h; omega)]
      congr 1
      exact (Nat.mod_eq_sub_mod (by omega)).symm

/-- The model's row of zeros. -/
theorem zeros_range (z : Array Value) (n : Nat) (hz : 0 < z.size) :
    (Array.range (n * z.size)).map (fun x => z[x % z.size]!) = (zeros z.toList n).toArray := by
  apply Array.ext_getElem?
  intro j
  by_cases hj : j < n * z.size
  · have h1 : j % z.size < z.size := Nat.mod_lt _ hz
    rw [Array.getElem?_map, Array.getElem?_range, if_pos (by simpa using hj)]
    rw [List.getElem?_toArray, zeros_get _ _ _ (by simpa using hj)]
    simp [h1, getElem!_pos]
  · rw [Array.getElem?_eq_none (by simp; omega), List.getElem?_toArray, List.getElem?_eq_none (by rw [zeros_length]; simpa using hj)]

theorem LR.zeros {z z' : List Value} (h : LR σ z z') : ∀ n, LR σ (zeros z n) (zeros z' n)
  | 0 => .nil
  | n + 1 => h.append (LR.zeros h n)

theorem zeroOf_lr {t : TypeId} {z : Value} (h : zeroOf P t = some z) : LR σ z.cells.toList z.cells.toList :=
  (run_zeroValue (P := P) (w := (default : World)) (σ := σ) h).2.cells_lr

theorem wrap64_id {n : Int} (h0 : 0 ≤ n) (h : n < 2 ^ 62) : IntKind.i64.wrap n = n := by
  unfold IntKind.wrap IntKind.bits IntKind.signed
  simp
  omega

theorem sim_make {t e : TypeId} {sz by_ : Nat} {z l l2 c c2 v : Value} {m' : Mem} {at_ : Option Nat} (hu : P.underlying t = some (.slice e)) (hs : szOf P e = some sz)
    (hby : byOf P e = some by_) (hz : zeroOf P e = some z) (hzs : z.cells.size = sz) (hsz : 0 < sz) (hm : MR B0 σ m w) (hat : AtOk σ m at_) (hl : VR σ l l2) (hc : VR σ c c2)
    (h : aMake at_ sz by_ z.cells.toList m l c = some (v, m')) : ∃ v2 w2, (Instr.makeSlice t l2 c2).run P w = .ok v2 w2 ∧ OpR P B0 σ m w at_ v m' v2 w2 := by
  unfold aMake at h
  split at h
  · rename_i k1 l k2 c
    split at h
    · rename_i hcond
      obtain ⟨h0, h1, h2, h3, h4, h5⟩ := hcond
      obtain rfl := hl.int_inv
      obtain rfl := hc.int_inv
      generalize hp : place at_ m (.cells (zeros z.cells.toList c.toNat) (some sz)) = bp at h
      obtain ⟨b, m1⟩ := bp
      cases h
      obtain ⟨i, hi, hib⟩ := run_bytes hby
      have hL : LR σ (zeros z.cells.toList c.toNat) (zeros z.cells.toList c.toNat) := (zeroOf_lr hz).zeros _
      obtain ⟨σ', a1, a2, a3, a4, a5⟩ := place_mr hm hat (C := (zeros z.cells.toList c.toNat).toArray) e 0 sz (by simp) (fun j v hj => by
        obtain ⟨y, hy, hr⟩ := hL.get hj
        exact ⟨y, by simpa using hy, hr⟩) hp
      have wl : IntKind.i64.wrap l = l := wrap64_id h0 (by omega)
      have wc : IntKind.i64.wrap c = c := wrap64_id (by omega) h2
      refine ⟨.slice (some ⟨w.heap.size, 0, none⟩) l.toNat c.toNat, w.alloc (.cells (zeros z.cells.toList c.toNat).toArray e), ?_, ⟨σ', ?_, a2, a3, Below.alloc (Below.refl _ _) hm.size _, a4, a5⟩⟩
      · have t1 : ¬ (c < 0 ∨ 281474976710656 < (by_ : Int) * c) := by
          rw [Int.mul_comm]; omega
        unfold Instr.makeSlice
        simp only [Sem.run_bind, run_underlying hu, Result.andThen_ok, asInt, asIntOf, Sem.run_pure, run_typeInfo hi, hib, wl, wc]
        have hbool : (decide (c < 0) || decide ((by_ : Int) * c > 2 ^ 48) || decide (l < 0) || decide (l > c)) = false := by
          simp; rw [Int.mul_comm]; omega
        simp only [hbool]
        simp only [Bool.false_eq_true, if_false]
        simp only [Sem.run_bind, Result.andThen_ok, run_askRoom, run_sizeOf hs]
        by_cases e0 : c.toNat * sz = 0
        · have : c.toNat = 0 := by
            rcases Nat.mul_eq_zero.1 e0 with h | h
            · exact h
            · omega
          rw [if_pos e0]
          simp [this, newRow, zeros, map_range0]
        · rw [if_neg e0]
          have hrow := zeros_range z.cells c.toNat (by omega)
          rw [hzs] at hrow
          simp only [Sem.run_bind, Sem.run_pure, Result.andThen_ok, (run_zeroValue (σ := σ) hz).1, hzs]
          rw [hrow]
          simp [newRow]
      · have := VR.slice (σ := σ') (o := 0) (n := l.toNat) a1 (Nat.le_refl c.toNat) (fun h => absurd h (Nat.lt_irrefl _))
        simpa using this
    · cases h
  · cases h
end Go.Am


/- Literals, append, copy. -/
namespace Go.Am
open Go.RowKit

variable {B0 : Nat} {σ : Inj} {m : Mem} {w : World} {P : Program}

/-- The model's way of writing a part. -/
theorem fold_write (vs : List Value) : ∀ (off k : Nat) (cs : Array Value), off + k + vs.length ≤ cs.size →
    ((vs.zipIdx k).foldl (fun cs (p : Value × Nat) => cs.setIfInBounds (off + p.2) p.1) cs).toList = writeL cs.toList (off + k) vs := by
  induction vs with
  | nil => intro off k cs _; simp [writeL]
  | cons v vs ih =>
    intro off k cs h
    simp only [List.zipIdx_cons, List.foldl_cons]
    rw [ih off (k + 1) _ (by simp at h ⊢; omega)]
    rw [show off + (k + 1) = (off + k) + 1 from by omega]
    have : (cs.setIfInBounds (off + k) v).toList = cs.toList.set (off + k) v := by simp
    rw [this]
    exact writeL_cons (by simp at h ⊢; omega) v vs

theorem LR.writeL {c c' vs vs' : List Value} (hc : LR σ c c') (hv : LR σ vs vs') (o : Nat) : LR σ (writeL c o vs) (writeL c' o vs') := by
  unfold Am.writeL
  rw [hv.1]
  exact ((hc.take o).append hv).append (hc.drop _)

/-- Parts: what the abstract machine and the model put where. -/
inductive PR (σ : Inj) : List (Nat × Nat × Value) → List (Nat × Value) → (Nat → Option (Nat × Nat)) → Prop
  | nil {f} : PR σ [] [] f
  | cons {o s : Nat} {i : Nat} {v v2 : Value} {r r2 f} (hf : f i = some (o, s)) (hv : VR σ v v2) (h : PR σ r r2 f) : PR σ ((o, s, v) :: r) ((i, v2) :: r2) f

theorem sim_fill {f : Nat → Option (Nat × Nat)} : ∀ {ps : List (Nat × Nat × Value)} {qs : List (Nat × Value)} (_ : PR σ ps qs f) {cs out : List Value} {ds : Array Value},
    LR σ cs ds.toList → fillL cs ps = some out → ∃ d2, Instr.fill f ds qs = some d2 ∧ LR σ out d2.toList := by
  intro ps qs hp
  induction hp with
  | nil => intro cs out ds hl h; simp only [fillL] at h; cases h; exact ⟨ds, rfl, hl⟩
  | @cons o s i v v2 r r2 f hf hv hr ih =>
    intro cs out ds hl h
    simp only [fillL] at h
    split at h
    · rename_i hc
      have hsz : v2.cells.size = s := by rw [← hv.cells.1]; exact hc.1
      have hds : ds.size = cs.length := by rw [hl.1]; simp
      have hle : o + v2.cells.size ≤ ds.size := by omega
      simp only [Instr.fill, hf]
      rw [if_neg (by simp only [ne_eq, gt_iff_lt, Bool.or_eq_true, decide_eq_true_eq]; omega)]
      have e : (v2.cells.zipIdx.foldl (fun cs (c, j) => cs.setIfInBounds (o + j) c) ds).toList = writeL ds.toList o v2.cells.toList := by
        have := fold_write v2.cells.toList o 0 ds (by simpa using hle)
        rw [Nat.add_zero] at this
        rw [← this]
        congr 1
        rw [← Array.foldl_toList]
        simp
      exact ih (by rw [e]; exact hl.writeL hv.cells_lr o) h
    · cases h

theorem LR.toArr {xs : List Value} {ys : Array Value} (h : LR σ xs ys.toList) : VR σ (.agg xs.toArray) (.agg ys) := by
  have := VR.agg_lr h
  simpa using this

theorem sim_build {t : TypeId} {z v : Value} {d : TypeDesc} {ps : List (Nat × Nat × Value)} {qs : Array (Nat × Value)} {cs : List Value} (hu : P.underlying t = some d) (hz : zeroOf P t = some z)
    (hd : (∃ fs, d = .struct fs ∧ (∀ f, f ∈ fs.toList → ∃ s, szOf P f.type = some s) ∧ PR σ ps qs.toList (fun i => (fs[i]?).map fun f => (f.offset, (szOf P f.type).getD 0))) ∨
      (∃ n e s, d = .array n e ∧ szOf P e = some s ∧ PR σ ps qs.toList (fun i => some (i * s, s))))
    (h : fillL z.cells.toList ps = some cs) (hv : v = .agg cs.toArray) : ∃ v2, (Instr.build t qs).run P w = .ok v2 w ∧ VR σ v v2 := by
  subst hv
  have hz0 := (run_zeroValue (P := P) (w := w) (σ := σ) hz).1
  rcases hd with ⟨fs, rfl, hf, hp⟩ | ⟨n, e, s, rfl, hs, hp⟩
  · obtain ⟨d2, e1, e2⟩ := sim_fill hp (zeroOf_lr (σ := σ) hz) h
    refine ⟨.agg d2, ?_, e2.toArr⟩
    have hm : ∀ (l : List Field), (∀ f, f ∈ l → ∃ s, szOf P f.type = some s) →
        (l.mapM (fun f => do pure (f.offset, ← sizeOf f.type) : Field → Sem (Nat × Nat))).run P w = .ok (l.map fun f => (f.offset, (szOf P f.type).getD 0)) w := by
      intro l
      induction l with
      | nil => intro _; simp
      | cons f l ih =>
        intro hl
        obtain ⟨s, hs⟩ := hl f (by simp)
        rw [List.mapM_cons]
        simp only [Sem.run_bind, run_sizeOf hs, Result.andThen_ok, Sem.run_pure, ih (fun g hg => hl g (by simp [hg])), List.map_cons, hs, Option.getD_some]
    have hm2 : (fs.mapM (fun f => do pure (f.offset, ← sizeOf f.type) : Field → Sem (Nat × Nat))).run P w = .ok (fs.map fun f => (f.offset, (szOf P f.type).getD 0)) w := by
      rw [Array.mapM_eq_mapM_toList, Sem.run_map, hm fs.toList hf]
      simp only [Result.andThen_ok]
      congr 1
      apply Array.ext'; simp
    unfold Instr.build
    simp only [Sem.run_bind, hz0, Result.andThen_ok, run_underlying hu, hm2]
    have hfun : (fun (i : Nat) => (fs.map fun f => (f.offset, (szOf P f.type).getD 0))[i]?) = (fun i => (fs[i]?).map fun f => (f.offset, (szOf P f.type).getD 0)) := by
      funext i; simp
    rw [hfun, e1]
    simp
  · obtain ⟨d2, e1, e2⟩ := sim_fill hp (zeroOf_lr (σ := σ) hz) h
    refine ⟨.agg d2, ?_, e2.toArr⟩
    unfold Instr.build
    simp only [Sem.run_bind, hz0, Result.andThen_ok, run_underlying hu, Sem.run_pure, run_sizeOf hs, e1]

theorem sim_bslice {t e : TypeId} {len sz : Nat} {z v : Value} {ps : List (Nat × Nat × Value)} {qs : Array (Nat × Value)} {cs : List Value} {at_ : Option Nat} {m' : Mem} {b : Nat}
    (hu : P.underlying t = some (.slice e)) (hs : szOf P e = some sz) (hz : zeroOf P e = some z) (hzs : z.cells.size = sz) (hsz : 0 < sz) (hlen : len * sz ≤ 2 ^ 24)
    (hm : MR B0 σ m w) (hat : AtOk σ m at_) (hp : PR σ ps qs.toList (fun i => some (i * sz, sz))) (h : fillL (zeros z.cells.toList len) ps = some cs)
    (hpl : place at_ m (.cells cs (some sz)) = (b, m')) (hv : v = .slice (some ⟨b, 0, none⟩) len len) :
    ∃ v2 w2, (Instr.buildSlice t len qs).run P w = .ok v2 w2 ∧ OpR P B0 σ m w at_ v m' v2 w2 := by
  subst hv
  have hz0 := (run_zeroValue (P := P) (w := w) (σ := σ) hz).1
  have hL : LR σ (zeros z.cells.toList len) (zeros z.cells.toList len) := (zeroOf_lr hz).zeros _
  obtain ⟨d2, e1, e2⟩ := sim_fill hp (ds := (zeros z.cells.toList len).toArray) (by simpa using hL) h
  obtain ⟨σ', a1, a2, a3, a4, a5⟩ := place_mr hm hat (C := d2) e 0 sz (by rw [e2.1]; simp) (fun j v hj => by
        obtain ⟨y, hy, hr⟩ := e2.get hj
        exact ⟨y, by simpa using hy, hr⟩) hpl
  refine ⟨.slice (some ⟨w.heap.size, 0, none⟩) len len, w.alloc (.cells d2 e), ?_, ⟨σ', ?_, a2, a3, Below.alloc (Below.refl _ _) hm.size _, a4, a5⟩⟩
  · unfold Instr.buildSlice
    simp only [Sem.run_bind, run_underlying hu, Result.andThen_ok, run_sizeOf hs]
    rw [if_neg (by omega)]
    by_cases e0 : len * sz = 0
    · have : len = 0 := by
        rcases Nat.mul_eq_zero.1 e0 with h | h
        · exact h
        · omega
      subst this
      rw [if_pos e0]
      have e1' : Instr.fill (fun i => some (i * sz, sz)) #[] qs.toList = some d2 := by simpa [zeros] using e1
      simp [map_range0, e1', newRow]
    · rw [if_neg e0]
      have hrow := zeros_range z.cells len (by omega)
      rw [hzs] at hrow
      simp only [Sem.run_bind, Sem.run_pure, Result.andThen_ok, hz0, hzs]
      rw [hrow, e1]
      simp [newRow]
  · have := VR.slice (σ := σ') (o := 0) (n := len) a1 (Nat.le_refl len) (fun h => absurd h (Nat.lt_irrefl _))
    simpa using this
end Go.Am


/- append and copy. -/
namespace Go.Am
open Go.RowKit

variable {B0 : Nat} {σ : Inj} {m : Mem} {w : World} {P : Program}

/-- What is appended or copied is loaded first. -/
theorem sim_src {unit n : Nat} {x x2 : Value} {xs : List Value} (hm : MR B0 σ m w) (hx : VR σ x x2) (h : aSrc unit n m x = some xs) :
    ∃ ys : List Value, (Builtin.firstCells unit n x2).run P w = .ok ys.toArray w ∧ LR σ xs ys := by
  unfold aSrc at h
  split at h
  · cases h; cases hx; exact ⟨[], by simp [Builtin.firstCells], .nil⟩
  · rename_i b o l c
    split at h
    · rename_i h0
      cases h
      subst h0
      have : ∀ q : Addr, (loadCells q (0 * unit)).run P w = .ok #[] w := by intro q; simp [loadCells, loadCellsFrom]
      cases hx with
      | slice _ _ _ => exact ⟨[], by simp only [Builtin.firstCells]; exact this _, .nil⟩
      | sliceZ _ => exact ⟨[], by simp only [Builtin.firstCells]; exact this _, .nil⟩
      | sliceDead _ => exact ⟨[], by simp only [Builtin.firstCells]; exact this _, .nil⟩
    · rename_i h0
      split at h
      rotate_left
      · cases h
      rename_i hnl
      unfold aCells at h
      split at h
      · rename_i cs own hc
        split at h
        · rename_i hle
          cases h
          obtain ⟨i, hi⟩ := hm.live_of hc
          obtain ⟨vs, e1, e2, e3⟩ := hm.piece_lr hi hc o (n * unit) hle
          have := run_loadCells (P := P) i.block (i.off + o) vs e2
          rw [e1] at this
          cases hx with
          | slice h' _ _ => 
            rw [hi] at h'; cases h'
            exact ⟨vs, by simp only [Builtin.firstCells]; exact this, e3⟩
          | sliceZ h' => omega
          | sliceDead h' => rw [hi] at h'; cases h'
        · cases h
      · cases h
  · cases h

theorem nextslicecap_le {need c : Nat} (h : c < need) : Builtin.nextslicecap need c ≤ 2 * need := by
  have hg : ∀ (r c : Nat), c ≤ need → Builtin.growBy need r c ≤ need + (need + 768) / 4 := by
    intro r
    induction r with
    | zero => intro c hc; simp [Builtin.growBy]; omega
    | succ r ih =>
      intro c hc
      unfold Builtin.growBy
      split
      · omega
      · rename_i hlt
        by_cases h2 : c + (c + 768) / 4 ≤ need
        · exact ih _ h2
        · cases r with
          | zero => simp only [Builtin.growBy]; omega
          | succ r => unfold Builtin.growBy; rw [if_pos (by omega)]; omega
  unfold Builtin.nextslicecap
  split
  · omega
  · split
    · omega
    · have := hg 4 c (by omega); omega

/-- append where a new row is made. -/
theorem run_append_new {t u e ty : TypeId} {eu : TypeId} {sz by_ n : Nat} {z : Value} {base : Option Addr} {l c : Nat} {x2 : Value} {old new : List Value} (ht : P.underlying t = some (.slice e))
    (htu : P.underlying u = some (.slice eu)) (hs : szOf P e = some sz) (hby : byOf P e = some by_) (hz : zeroOf P e = some z) (hzs : z.cells.size = sz)
    (hlen : (Builtin.lenOf x2).run P w = .ok n w) (hneed : c < l + n) (hb : (l + n) * by_ ≤ 2 ^ 47) (hby0 : 0 < by_)
    (hold' : (Builtin.firstCells sz l (.slice base l c)).run P w.drew = .ok old.toArray w.drew) (hnew : (Builtin.firstCells sz n x2).run P w.drew = .ok new.toArray w.drew)
    (hol : old.length = l * sz) (hnl : new.length = n * sz) :
    ∃ (cap : Nat) (C : Array Value), l + n ≤ cap ∧ C.size = (l + n) * sz + (cap - (l + n)) * sz ∧ C.toList.take ((l + n) * sz) = old ++ new ∧
      (Builtin.append_ #[t, u] ty #[.slice base l c, x2]).run P w = .ok (.slice (some ⟨w.heap.size, 0, none⟩) (l + n) cap) (w.drew.alloc (.cells C e)) := by
  obtain ⟨i, hi, hib⟩ := run_bytes hby
  have hz0 := fun w : World => (run_zeroValue (P := P) (w := w) (σ := fun _ => .dead) hz).1
  let cap := (Question.appendCap (l + n) c e).cut (w.tape w.drawn (.appendCap (l + n) c e))
  have hcap : l + n ≤ cap := by simp only [cap, Question.cut]; omega
  refine ⟨cap, old.toArray ++ new.toArray ++ Builtin.zeroCells z.cells (cap - (l + n)), hcap, ?_, ?_, ?_⟩
  · simp [Builtin.zeroCells, hol, hnl, hzs, Nat.add_mul]
  · simp only [Array.toList_append]
    rw [List.take_append_of_le_length (by simp [hol, hnl, Nat.add_mul])]
    rw [List.take_of_length_le (by simp [hol, hnl, Nat.add_mul])]
  · have h48 : ¬ (Builtin.nextslicecap (l + n) c * by_ > 2 ^ 48) := by
      have := nextslicecap_le hneed
      have h2 : Builtin.nextslicecap (l + n) c * by_ ≤ (2 * (l + n)) * by_ := Nat.mul_le_mul_right _ this
      rw [Nat.mul_assoc] at h2
      omega
    have hmax : ¬ (((l + n : Nat) : Int) > IntKind.i64.max ∧ (false = true ∨ by_ = 0)) := by
      rintro ⟨_, h | h⟩
      · cases h
      · omega
    have hforced : (Question.appendCap (l + n) c e).forced = false := rfl
    have hd : ({ w with drawn := w.drawn + 1 } : World) = w.drew := rfl
    unfold Builtin.append_
    simp only [List.getElem?_toArray, List.getElem?_cons_zero, List.getElem?_cons_succ, Sem.run_bind, run_underlying ht, Result.andThen_ok, run_sizeOf hs, run_underlying htu, Sem.run_pure]
    simp only [Bool.false_eq_true, if_false, Sem.run_bind, hlen, Result.andThen_ok]
    rw [if_neg (show ¬ l + n ≤ c by omega)]
    simp only [Sem.run_bind, run_typeInfo hi, Result.andThen_ok, hib]
    rw [if_neg (by simpa using hmax)]
    simp only [Sem.run_bind, run_typeInfo hi, Result.andThen_ok, hib]
    rw [if_neg h48]
    simp only [Sem.run_bind, run_choose, hforced, Bool.false_eq_true, if_false, Result.andThen_ok, run_askRoom, hd, run_typeInfo hi]
    simp only [hold', hnew, hz0, Result.andThen_ok, Bool.not_false, if_true, Sem.run_pure]
    simp [newRow, cap]
    rfl

/-- append where there is room. -/
theorem run_append_room {t u e ty eu : TypeId} {sz n : Nat} {base : Option Addr} {l c : Nat} {x2 : Value} {new : List Value} {w' : World} (ht : P.underlying t = some (.slice e))
    (htu : P.underlying u = some (.slice eu)) (hs : szOf P e = some sz) (hlen : (Builtin.lenOf x2).run P w = .ok n w) (hneed : l + n ≤ c)
    (hnew : (Builtin.firstCells sz n x2).run P w = .ok new.toArray w)
    (hst : match base with | some a => (storeCells (a.add (l * sz)) new).run P w = .ok () w' | none => w' = w) :
    (Builtin.append_ #[t, u] ty #[.slice base l c, x2]).run P w = .ok (.slice base (l + n) c) w' := by
  unfold Builtin.append_
  simp only [List.getElem?_toArray, List.getElem?_cons_zero, List.getElem?_cons_succ, Sem.run_bind, run_underlying ht, Result.andThen_ok, run_sizeOf hs, run_underlying htu, Sem.run_pure]
  simp only [Bool.false_eq_true, if_false, Sem.run_bind, hlen, Result.andThen_ok]
  rw [if_pos hneed]
  simp only [Bool.not_false, if_true, Sem.run_bind, hnew, Result.andThen_ok]
  cases base with
  | none => subst hst; simp
  | some a => simp only at hst; simp [hst]

/-- A new row holds what it is to hold, with a spare. -/
theorem new_row_rel {old new ys xs : List Value} {C : Array Value} (ho : LR σ old ys) (hn : LR σ new xs) (hC : C.toList.take (ys ++ xs).length = ys ++ xs) :
    ∀ (j : Nat) v, (old ++ new)[j]? = some v → ∃ v', C[j]? = some v' ∧ VR σ v v' := by
  intro j v hj
  obtain ⟨y, hy, hr⟩ := (ho.append hn).get hj
  refine ⟨y, ?_, hr⟩
  rw [← hC, List.getElem?_take] at hy
  split at hy
  · simpa using hy
  · cases hy

/-- Cells stored behind a block, where it has room to spare. -/
theorem run_storeSpare {b u : Nat} {i : Img} {c : List Value} (hb : σ b = .live i) (hc : m.blk b = some (.cells c (some u))) : ∀ (ys : List Value) (k : Nat) (w : World),
    MR B0 σ m w → k + ys.length ≤ i.spare → ys.all Value.oneCell' = true →
    ∃ w', (storeCells ⟨i.block, i.off + i.len, none⟩ ys k).run P w = .ok () w' ∧ MR B0 σ m w' ∧ Below B0 w w' ∧
      (∀ (j : Nat) v, ys[j]? = some v → w'.cell? ⟨i.block, i.off + i.len + (k + j), none⟩ = some v) ∧
      (∀ j, j < k → w'.cell? ⟨i.block, i.off + i.len + j, none⟩ = w.cell? ⟨i.block, i.off + i.len + j, none⟩) := by
  intro ys
  induction ys with
  | nil => intro k w hm _ _; exact ⟨w, by simp [storeCells], hm, Below.refl _ _, by simp, fun _ _ => rfl⟩
  | cons y ys ih =>
    intro k w hm hk hone
    simp only [List.all_cons, Bool.and_eq_true] at hone
    simp only [List.length_cons] at hk
    obtain ⟨_, hB, hrw⟩ := hm.rw b i c u hb hc
    obtain ⟨⟨x0, hx0⟩, hfz⟩ := hrw (i.len + k) (by omega)
    have ea : i.off + i.len + k = i.off + (i.len + k) := by omega
    replace hfz := hfz (i.off + (i.len + k))
    rw [← ea] at hx0 hfz
    have hst := run_store P w ⟨i.block, i.off + i.len + k, none⟩ y .plain hone.1
    have hm1 := hm.setCell_out (a := ⟨i.block, i.off + i.len + k, none⟩) (v := y) hB ⟨x0, hx0⟩ (by
      intro b' i' c' own' hb' hc' j hj e
      simp only [Addr.mk.injEq, and_true] at e
      by_cases eb : b' = b
      · subst eb; rw [hb] at hb'; cases hb'; omega
      · exact hm.apart b b' i i' (fun e => eb e.symm) hb hb' (.inl ⟨c, u, hc⟩) e.1)
    obtain ⟨w', e1, e2, e3, e4, e5⟩ := ih (k + 1) _ hm1 (by omega) hone.2
    refine ⟨w', ?_, e2, Below.trans (Below.setCell (Below.refl _ _) hB _) e3, ?_, ?_⟩
    · rw [storeCells]
      simp only [Sem.run_bind, addr_add]
      rw [hst, hx0]
      simp only [hfz, Bool.false_eq_true, if_false, Result.andThen_ok]
      exact e1
    · intro j v hj
      cases j with
      | zero =>
        simp only [List.getElem?_cons_zero, Option.some.injEq] at hj
        subst hj
        rw [Nat.add_zero, e5 k (by omega)]
        exact World.cell?_setCell_same _ _ _ hx0
      | succ j =>
        rw [List.getElem?_cons_succ] at hj
        have := e4 j v hj
        rw [← this]; congr 2; show i.off + i.len + (k + (j + 1)) = i.off + i.len + (k + 1 + j); omega
    · intro j hj
      rw [e5 j (by omega), World.cell?_setCell_other]
      intro e; simp only [Addr.mk.injEq, and_true, true_and] at e; omega

theorem oneCells_lr {xs ys : List Value} (h : LR σ xs ys) (hx : oneCells xs = true) : ys.all Value.oneCell' = true := by
  rw [List.all_eq_true]
  intro y hy
  obtain ⟨j, hj, rfl⟩ := List.mem_iff_getElem.1 hy
  have hj' : j < xs.length := by rw [h.1]; exact hj
  have hr := h.2 j _ _ (List.getElem?_eq_getElem hj') (List.getElem?_eq_getElem hj)
  rw [← hr.oneCell]
  exact List.all_eq_true.1 hx _ (List.getElem_mem hj')

theorem sim_app {t u e ty eu : TypeId} {sz by_ : Nat} {z s s2 x x2 v : Value} {m' : Mem} {at_ : Option Nat} (ht : P.underlying t = some (.slice e)) (htu : P.underlying u = some (.slice eu))
    (hs : szOf P e = some sz) (hby : byOf P e = some by_) (hz : zeroOf P e = some z) (hzs : z.cells.size = sz) (hsz : 0 < sz) (hby0 : 0 < by_)
    (hm : MR B0 σ m w) (hat : AtOk σ m at_) (hvs : VR σ s s2) (hvx : VR σ x x2) (h : aApp at_ sz by_ m s x = some (v, m')) :
    ∃ v2 w2, (Builtin.append_ #[t, u] ty #[s2, x2]).run P w = .ok v2 w2 ∧ OpR P B0 σ m w at_ v m' v2 w2 := by
  unfold aApp at h
  obtain ⟨n, hn, h'⟩ := Option.bind_eq_some_iff.1 h
  clear h
  obtain ⟨xs, hxs, h⟩ := Option.bind_eq_some_iff.1 h'
  clear h'
  obtain ⟨ys, hf, hly⟩ := sim_src (P := P) hm hvx hxs
  have hlen : ∀ w : World, (Builtin.lenOf x2).run P w = .ok n w := by
    intro w
    cases hvx <;> first | (simp only [sliceLen, Option.some.injEq] at hn; subst hn; rfl) | (simp [sliceLen] at hn)
  have hnl : xs.length = n * sz := by
    unfold aSrc at hxs
    split at hxs
    · cases hxs; simp [sliceLen] at hn; subst hn; simp
    · split at hxs
      · rename_i h0; cases hxs; subst h0; simp
      · split at hxs
        · unfold aCells at hxs
          split at hxs
          · split at hxs
            · cases hxs; simp; omega
            · cases hxs
          · cases hxs
        · cases hxs
    · cases hxs
  have hyl : ys.length = n * sz := by rw [← hly.1]; exact hnl
  -- where a new row is made, out of 'q'
  have fresh_row : ∀ (base : Option Addr) (l c' : Nat) (old : List Value) (m1 : Mem) (σ1 : Inj), MR B0 σ1 m1 w → Evo σ σ1 → m1.next = m.next → AtOk σ1 m1 at_ →
      (∀ b, b < m.next → at_ ≠ some b → σ b = .fresh → σ1 b = .fresh) → (∃ olds : List Value, (Builtin.firstCells sz l (.slice base l c')).run P w.drew = .ok olds.toArray w.drew ∧ LR σ old olds ∧ olds.length = l * sz) →
      c' < l + n → (l + n) * by_ ≤ 2 ^ 47 → ∀ b m2, place at_ m1 (.cells (old ++ xs) (some sz)) = (b, m2) →
      ∃ v2 w2, (Builtin.append_ #[t, u] ty #[.slice base l c', x2]).run P w = .ok v2 w2 ∧ OpR P B0 σ m w at_ (.slice (some ⟨b, 0, none⟩) (l + n) (l + n)) m2 v2 w2 := by
    intro base l c' old m1 σ1 hm1 he1 hnx hat1 hfr ⟨olds, ho1, ho2, ho3⟩ hneed hbnd b m2 hpl
    obtain ⟨ys1, hf1, hly1⟩ := sim_src (P := P) (hm.same (w' := w.drew) rfl) hvx hxs
    have hyl1 : ys1.length = n * sz := by rw [← hly1.1]; exact hnl
    obtain ⟨cap, C, c1, c2, c3, c4⟩ := run_append_new (P := P) (ty := ty) ht htu hs hby hz hzs (hlen w) hneed hbnd hby0 ho1 hf1 ho3 hyl1
    have hol : old.length = l * sz := by rw [ho2.1]; exact ho3
    have rel := new_row_rel (C := C) (ho2.mono he1) (hly1.mono he1) (by rw [List.length_append, ho3, hyl1, ← Nat.add_mul]; exact c3)
    obtain ⟨σ', a1, a2, a3, a4, a5⟩ := place_mr (hm1.same (w' := w.drew) rfl) hat1 (C := C) e ((cap - (l + n)) * sz) sz (by rw [c2, List.length_append, hol, hnl, Nat.add_mul]) rel hpl
    refine ⟨_, _, c4, ⟨σ', ?_, a2, he1.trans a3, Below.alloc ((Below.refl _ _).drew) (by simpa using hm.size) _, by omega, fun b' h1 h2 h3 => a5 b' (by omega) h2 (hfr b' h1 h2 h3)⟩⟩
    have := VR.slice (σ := σ') (o := 0) (n := l + n) (c := l + n) (c' := cap) a1 c1 (fun _ => ⟨by simp [hol, hnl, Nat.add_mul], by
      simp only; rw [← Nat.add_mul]; exact Nat.mul_le_mul_right _ (by omega)⟩)
    simpa using this
  split at h
  · -- nil
    cases hvs
    split at h
    · rename_i h0
      cases h
      subst h0
      have hy0 : ys = [] := List.length_eq_zero_iff.1 (by rw [hyl]; simp)
      subst hy0
      exact ⟨_, _, run_append_room (P := P) (ty := ty) (w' := w) ht htu hs (hlen w) (Nat.le_refl _) hf rfl, .pure hm .sliceNil⟩
    · rename_i h0
      split at h
      · rename_i hcond
        generalize hp : place at_ m (.cells xs (some sz)) = bp at h
        obtain ⟨b, m2⟩ := bp
        cases h
        have := fresh_row none 0 0 [] m σ hm (Evo.refl σ) rfl hat (fun _ _ _ h => h) ⟨[], rfl, .nil, by simp⟩ (by omega) (by simpa using hcond.1) _ _ (by simpa using hp)
        simpa using this
      · cases h
  · rename_i b o l c
    split at h
    · rename_i h0
      split at h
      · rename_i hcond
        cases h
        subst h0
        have hy0 : ys = [] := List.length_eq_zero_iff.1 (by rw [hyl]; simp)
        subst hy0
        have key : ∀ (q : Addr) (c' : Nat), l ≤ c' → (Builtin.append_ #[t, u] ty #[.slice (some q) l c', x2]).run P w = .ok (.slice (some q) l c') w := by
          intro q c' hc
          exact run_append_room (P := P) (ty := ty) (w' := w) ht htu hs (hlen w) (by simpa using hc) hf (by simp [storeCells])
        obtain ⟨o', ho'⟩ := Option.isSome_iff_exists.1 hcond.2
        obtain ⟨i, hi⟩ := hm.live_of ho'
        cases hvs with
        | slice h1 h2 h3 => exact ⟨_, _, key _ _ (by omega), .pure hm (.slice h1 h2 h3)⟩
        | sliceZ h1 => exact ⟨_, _, key _ _ (by omega), .pure hm (.sliceZ h1)⟩
        | sliceDead h1 => rw [hi] at h1; cases h1
      · cases h
    · rename_i h0
      split at h
      · -- room that is known of
        rename_i hroom
        obtain ⟨m2, hw, h⟩ := Option.map_eq_some_iff.1 h
        cases h
        have hw0 := hw
        unfold aWrite at hw0
        split at hw0
        · rename_i cs u' hc
          obtain ⟨i, hi⟩ := hm.live_of hc
          cases hvs with
          | @slice _ _ _ _ c' _ h1 h2 h3 =>
            rw [hi] at h1; cases h1
            obtain ⟨w', e1, e2, e3, e4⟩ := sim_write (P := P) hm hi hly hw
            refine ⟨_, w', run_append_room (P := P) (ty := ty) (w' := w') ht htu hs (hlen w) (by omega) hf ?_, ⟨σ, .slice hi h2 h3, e2, .refl σ, e3, by omega, fun _ _ _ h => h⟩⟩
            simp only [addr_add]; rw [Nat.add_assoc]; exact e1
          | sliceZ h1 => omega
          | sliceDead h1 => rw [hi] at h1; cases h1
        · cases hw0
      · rename_i hroom
        split at h
        · rename_i cs own hc
          split at h
          · rename_i hcond
            obtain ⟨q1, q2, q3, q4, q5, q6, q7⟩ := hcond
            obtain ⟨i, hi⟩ := hm.live_of hc
            have hil := (hm.cells b i cs own hi hc).1
            have hlsz : o + l * sz ≤ cs.length := by have := Nat.mul_le_mul_right sz q5; omega
            -- what was there
            have hsrc : ∀ w1 : World, w1.heap = w.heap → ∀ s2, VR σ (.slice (some ⟨b, o, none⟩) l c) s2 → ∃ olds : List Value, (Builtin.firstCells sz l s2).run P w1 = .ok olds.toArray w1 ∧ LR σ ((cs.drop o).take (l * sz)) olds ∧ olds.length = l * sz := by
              intro w1 hw1 s2 hv
              by_cases hl0 : l = 0
              · subst hl0
                obtain ⟨olds, z1, z2⟩ := sim_src (P := P) (unit := sz) (n := 0) (xs := []) (hm.same hw1) hv (by simp [aSrc])
                exact ⟨olds, z1, by simpa using z2, by rw [← z2.1]; simp⟩
              · obtain ⟨olds, z1, z2⟩ := sim_src (P := P) (unit := sz) (n := l) (xs := (cs.drop o).take (l * sz)) (hm.same hw1) hv (by
                  simp only [aSrc, hl0, if_false, Nat.le_refl, if_true, aCells, hc]
                  rw [if_pos hlsz])
                exact ⟨olds, z1, z2, by rw [← z2.1]; simp; omega⟩
            by_cases hkill : own.isSome = true ∧ o + c * sz = cs.length
            · -- the old block dies
              rw [if_pos hkill] at h
              dsimp only at h
              obtain ⟨hsome, hend⟩ := hkill
              rcases q7 with q7 | ⟨q7, q8⟩
              · subst q7; cases hsome
              · subst q7
                have hlc : l = c := by omega
                subst hlc
                generalize hp : place at_ (m.set b none) (.cells ((cs.drop o).take (l * sz) ++ xs) (some sz)) = bp at h
                obtain ⟨b', m2⟩ := bp
                cases h
                have hb' : at_ ≠ some b := by
                  rintro rfl
                  have := hat.1; rw [hi] at this; cases this
                have hatk : AtOk (σ.set b .dead) (m.set b none) at_ := by
                  cases at_ with
                  | none => trivial
                  | some k => exact ⟨by rw [Inj.set_ne _ _ (by rintro rfl; exact hb' rfl)]; exact hat.1, hat.2⟩
                have realloc : ∀ (q : Addr) (c' : Nat), s2 = .slice (some q) l c' → c' < l + n → ∃ v2 w2, (Builtin.append_ #[t, u] ty #[s2, x2]).run P w = .ok v2 w2 ∧
                    OpR P B0 σ m w at_ (.slice (some ⟨b', 0, none⟩) (l + n) (l + n)) m2 v2 w2 := by
                  intro q c' hs2 hneed
                  subst hs2
                  exact fresh_row (some q) l c' _ _ _ (hm.kill b (by rw [hi]; simp)) Evo.set_dead rfl hatk
                    (fun k h1 h2 h3 => by rw [Inj.set_ne _ _ (by rintro rfl; rw [hi] at h3; cases h3)]; exact h3) (hsrc w.drew rfl _ hvs) hneed q1 _ _ hp
                have hvs0 := hvs
                cases hvs with
                | @slice _ _ _ _ c' _ h1 h2 h3 =>
                  rw [hi] at h1; cases h1
                  by_cases hin : l + n ≤ c'
                  · -- in place
                    have hunit := (hm.rw b i cs sz hi hc).1
                    have hlt : l < c' := by omega
                    obtain ⟨x1, x2'⟩ := h3 hlt
                    rw [hunit] at x1 x2'
                    have hsp : n * sz ≤ i.spare := by
                      have := Nat.mul_le_mul_right sz hin
                      rw [Nat.add_mul] at this; omega
                    obtain ⟨w', e1, e2, e3, e4, e5⟩ := run_storeSpare (P := P) hi hc ys 0 w hm (by omega) (oneCells_lr hly q3)
                    have hadd : (⟨i.block, i.off + o, none⟩ : Addr).add (l * sz) = ⟨i.block, i.off + i.len, none⟩ := by
                      rw [addr_add]; congr 1; omega
                    have hrun := run_append_room (P := P) (ty := ty) (base := some ⟨i.block, i.off + o, none⟩) (w' := w') ht htu hs (hlen w) hin hf (by simp only [hadd]; exact e1)
                    have hdrop : (cs.drop o).take (l * sz) = cs.drop o := List.take_of_length_le (by simp; omega)
                    rw [hdrop] at hp
                    have grown : ∀ (b' : Nat) (mB : Mem), MR B0 σ mB w' → mB.blk b = some (.cells cs (some sz)) → σ b' = .fresh → b' < mB.next →
                        MR B0 ((σ.set b .dead).set b' (.live ⟨i.block, i.off + o, cs.length - o + n * sz, i.spare - n * sz, sz⟩)) ((mB.set b none).set b' (some (.cells (cs.drop o ++ xs) (some sz)))) w' := by
                      intro b' mB hmB hcB hf' hlt'
                      refine hmB.grow hi hcB hf' hlt' (by omega) hnl hsp fun j v hj => ?_
                      obtain ⟨y, hy, hr⟩ := hly.get hj
                      refine ⟨y, ?_, hr⟩
                      have := e4 j y hy
                      rw [← this]; congr 2; show i.off + cs.length + j = i.off + i.len + (0 + j); omega
                    have vr : ∀ (b' : Nat), σ b' = .fresh → VR ((σ.set b .dead).set b' (.live ⟨i.block, i.off + o, cs.length - o + n * sz, i.spare - n * sz, sz⟩))
                        (.slice (some ⟨b', 0, none⟩) (l + n) (l + n)) (.slice (some ⟨i.block, i.off + o, none⟩) (l + n) c') := by
                      intro b' hf'
                      have := VR.slice (σ := (σ.set b .dead).set b' (.live ⟨i.block, i.off + o, cs.length - o + n * sz, i.spare - n * sz, sz⟩)) (o := 0) (n := l + n) (c := l + n) (c' := c')
                        (Inj.set_self _ _ _) hin (fun _ => by
                          have w1 : (l + n) * sz = l * sz + n * sz := Nat.add_mul _ _ _
                          constructor
                          · show 0 + (l + n) * sz = cs.length - o + n * sz
                            omega
                          · show c' * sz ≤ (l + n) * sz + (i.spare - n * sz)
                            omega)
                      simpa using this
                    cases at_ with
                    | none =>
                      simp only [place] at hp
                      obtain ⟨rfl, rfl⟩ : m.next = b' ∧ (m.set b none).new (.cells (cs.drop o ++ xs) (some sz)) = m2 := by simpa using hp
                      have hfr := hm.fresh m.next (Nat.le_refl _)
                      have hbn : b ≠ m.next := by rintro rfl; rw [hi] at hfr; cases hfr
                      refine ⟨_, w', hrun, ⟨_, vr _ hfr, ?_, Evo.trans Evo.set_dead (Evo.set_fresh (by rw [Inj.set_ne _ _ (show m.next ≠ b from fun h => hbn h.symm)]; exact hfr) _), e3, by simp [Mem.new], ?_⟩⟩
                      · exact grown m.next (m.bump 1) (e2.bump 1) hc hfr (by simp)
                      · intro k h1 _ h3
                        rw [Inj.set_ne _ _ (by omega), Inj.set_ne _ _ (by rintro rfl; rw [hi] at h3; cases h3)]; exact h3
                    | some kk =>
                      simp only [place] at hp
                      obtain ⟨rfl, rfl⟩ : kk = b' ∧ (m.set b none).set kk (some (.cells (cs.drop o ++ xs) (some sz))) = m2 := by simpa using hp
                      refine ⟨_, w', hrun, ⟨_, vr _ hat.1, ?_, Evo.trans Evo.set_dead (Evo.set_fresh (by rw [Inj.set_ne _ _ (show kk ≠ b from fun h => hb' (by rw [h]))]; exact hat.1) _), e3, by simp, ?_⟩⟩
                      · exact grown kk m e2 hc hat.1 hat.2
                      · intro k h1 h2 h3
                        rw [Inj.set_ne _ _ (by rintro rfl; exact h2 rfl), Inj.set_ne _ _ (by rintro rfl; rw [hi] at h3; cases h3)]; exact h3
                  · exact realloc _ _ rfl (by omega)
                | sliceZ h1 => exact realloc _ _ rfl (by omega)
                | sliceDead h1 => rw [hi] at h1; cases h1
            · rw [if_neg hkill] at h
              dsimp only at h
              generalize hp : place at_ m (.cells ((cs.drop o).take (l * sz) ++ xs) (some sz)) = bp at h
              obtain ⟨b', m2⟩ := bp
              cases h
              have go : ∀ (q : Addr) (c' : Nat), s2 = .slice (some q) l c' → c' = c → ∃ v2 w2, (Builtin.append_ #[t, u] ty #[s2, x2]).run P w = .ok v2 w2 ∧
                    OpR P B0 σ m w at_ (.slice (some ⟨b', 0, none⟩) (l + n) (l + n)) m2 v2 w2 := by
                intro q c' hs2 hcc
                subst hs2
                exact fresh_row (some q) l c' _ _ _ hm (Evo.refl σ) rfl hat (fun _ _ _ h => h) (hsrc w.drew rfl _ hvs) (by omega) q1 _ _ hp
              have hvs0 := hvs
              cases hvs with
              | @slice _ _ _ _ c' _ h1 h2 h3 =>
                rw [hi] at h1; cases h1
                refine go _ _ rfl ?_
                cases own with
                | none => exact hm.cap_eq hi hc h2 h3
                | some u' =>
                  rcases q7 with q7 | ⟨q7, q8⟩
                  · cases q7
                  · cases q7
                    have hunit := (hm.rw b i cs sz hi hc).1
                    rcases Nat.lt_or_ge c c' with hlt | hge
                    · have := (h3 hlt).1
                      rw [hunit] at this
                      exact absurd ⟨rfl, by omega⟩ hkill
                    · omega
              | sliceZ h1 => exact go _ _ rfl rfl
              | sliceDead h1 => rw [hi] at h1; cases h1
          · cases h
        · cases h
  · cases h
end Go.Am


/- copy, maps, comparisons, the rest. -/
namespace Go.Am
open Go.RowKit

variable {B0 : Nat} {σ : Inj} {m : Mem} {w : World} {P : Program}

theorem sim_copy {t u e ty : TypeId} {sz : Nat} {d d2 s s2 v : Value} {m' : Mem} {at_ : Option Nat} (ht : P.underlying t = some (.slice e))
    (hs : szOf P e = some sz) (hm : MR B0 σ m w) (hvd : VR σ d d2) (hvs : VR σ s s2) (h : aCopy sz m d s = some (v, m')) :
    ∃ v2 w2, (Builtin.copy_ #[t, u] ty #[d2, s2]).run P w = .ok v2 w2 ∧ OpR P B0 σ m w at_ v m' v2 w2 := by
  unfold aCopy at h
  obtain ⟨dl, hdl, h'⟩ := Option.bind_eq_some_iff.1 h
  clear h
  obtain ⟨sl, hsl, h⟩ := Option.bind_eq_some_iff.1 h'
  clear h'
  dsimp only at h
  obtain ⟨xs, hxs, h'⟩ := Option.bind_eq_some_iff.1 h
  clear h
  obtain ⟨ys, hf, hly⟩ := sim_src (P := P) hm hvs hxs
  have hlen : (Builtin.lenOf s2).run P w = .ok sl w := by
    cases hvs <;> first | (simp only [sliceLen, Option.some.injEq] at hsl; subst hsl; rfl) | (simp [sliceLen] at hsl)
  have key : ∀ (base : Option Addr) (c : Nat) (w' : World), (match base with | some a => (storeCells a ys).run P w = .ok () w' | none => w' = w) →
      (Builtin.copy_ #[t, u] ty #[.slice base dl c, s2]).run P w = .ok (.int .i64 (Nat.min sl dl : Nat)) w' := by
    intro base c w' hst
    unfold Builtin.copy_
    simp only [List.getElem?_toArray, List.getElem?_cons_zero, List.getElem?_cons_succ, Sem.run_bind, run_underlying ht, Result.andThen_ok, hlen, run_sizeOf hs, hf]
    cases base with
    | none => subst hst; simp [goInt]
    | some a => simp only at hst; simp [hst, goInt]
  have hyl0 : Nat.min sl dl = 0 → ys = [] := by
    intro h0
    rw [h0] at hxs
    have : xs = [] := by
      unfold aSrc at hxs
      split at hxs
      · cases hxs; rfl
      · simp at hxs; exact hxs
      · cases hxs
    subst this
    exact List.length_eq_zero_iff.1 hly.1.symm
  split at h'
  · cases h'
    cases hvd
    simp only [sliceLen, Option.some.injEq] at hdl
    subst hdl
    have h0 : Nat.min sl 0 = 0 := Nat.min_zero _
    have := key none 0 w rfl
    rw [h0] at this
    exact ⟨_, _, this, .pure hm (.int _ _)⟩
  · rename_i b o l c
    simp only [sliceLen, Option.some.injEq] at hdl
    subst hdl
    split at h'
    · rename_i h0
      cases h'
      have hy := hyl0 h0
      subst hy
      have k2 : ∀ q c', (Builtin.copy_ #[t, u] ty #[.slice (some q) l c', s2]).run P w = .ok (.int .i64 (0 : Nat)) w := by
        intro q c'
        have := key (some q) c' w (by simp [storeCells])
        rw [h0] at this; exact this
      cases hvd with
      | slice _ _ _ => exact ⟨_, _, k2 _ _, .pure hm (.int _ _)⟩
      | sliceZ _ => exact ⟨_, _, k2 _ _, .pure hm (.int _ _)⟩
      | sliceDead _ => exact ⟨_, _, k2 _ _, .pure hm (.int _ _)⟩
    · rename_i h0
      obtain ⟨m2, hw, h⟩ := Option.map_eq_some_iff.1 h'
      cases h
      have hw0 := hw
      unfold aWrite at hw0
      split at hw0
      · rename_i cs u' hc
        obtain ⟨i, hi⟩ := hm.live_of hc
        obtain ⟨w', e1, e2, e3, e4⟩ := sim_write (P := P) hm hi hly hw
        have fin : OpR P B0 σ m w at_ (.int .i64 (Nat.min sl l : Nat)) m' (.int .i64 (Nat.min sl l : Nat)) w' := ⟨σ, .int _ _, e2, .refl σ, e3, by omega, fun _ _ _ h => h⟩
        cases hvd with
        | slice h1 h2 h3 =>
          rw [hi] at h1; cases h1
          exact ⟨_, _, key _ _ w' e1, fin⟩
        | sliceZ h1 => exact absurd (Nat.min_zero _) h0
        | sliceDead h1 => rw [hi] at h1; cases h1
      · cases hw0
  · cases h'

theorem sim_appZ {t u e ty : TypeId} {kk : IntKind} {sz by_ : Nat} {z s s2 x x2 v : Value} {m' : Mem} {at_ : Option Nat} (ht : P.underlying t = some (.slice e)) (htu : P.underlying u = some (.int kk))
    (hs : szOf P e = some sz) (hby : byOf P e = some by_) (hz : zeroOf P e = some z) (hzs : z.cells.size = sz) (hsz : 0 < sz) (hby0 : 0 < by_)
    (hm : MR B0 σ m w) (hat : AtOk σ m at_) (hvs : VR σ s s2) (hvx : VR σ x x2) (h : aAppZ at_ sz by_ z.cells.toList m s x = some (v, m')) :
    ∃ v2 w2, (Builtin.append_ #[t, u] ty #[s2, x2]).run P w = .ok v2 w2 ∧ OpR P B0 σ m w at_ v m' v2 w2 := by
  unfold aAppZ at h
  split at h
  rotate_left
  · cases h
  rename_i l
  cases hvs
  cases hvx
  split at h
  rotate_left
  · cases h
  rename_i hc
  obtain ⟨h0, h62, h47, h5, h6⟩ := hc
  obtain ⟨n, rfl⟩ := Int.eq_ofNat_of_zero_le (Int.le_of_lt h0)
  rw [Int.toNat_natCast] at h
  have h47 : n * by_ ≤ 2 ^ 47 := by exact_mod_cast h47
  generalize hp : place at_ m (.cells (zeros z.cells.toList n) (some sz)) = bp at h
  obtain ⟨b, m2⟩ := bp
  cases h
  obtain ⟨i, hi, hib⟩ := run_bytes hby
  have hz0 := fun w : World => (run_zeroValue (P := P) (w := w) (σ := fun _ => .dead) hz).1
  let cap := (Question.appendCap n 0 e).cut (w.tape w.drawn (.appendCap n 0 e))
  have hcap : n ≤ cap := by simp only [cap, Question.cut]; omega
  have h48 : ¬ (Builtin.nextslicecap n 0 * by_ > 2 ^ 48) := by
    have := nextslicecap_le (need := n) (c := 0) (by omega)
    have h2 : Builtin.nextslicecap n 0 * by_ ≤ (2 * n) * by_ := Nat.mul_le_mul_right _ this
    rw [Nat.mul_assoc] at h2
    omega
  have hwr : IntKind.i64.wrap (n : Int) = n := wrap64_id (by omega) (by omega)
  have hmx : IntKind.i64.max = 9223372036854775807 := by decide
  have hmax : ¬ (((n : Nat) : Int) > IntKind.i64.max ∧ (true = true ∨ by_ = 0)) := by
    rintro ⟨h, -⟩; omega
  have hforced : (Question.appendCap n 0 e).forced = false := rfl
  have hd : ({ w with drawn := w.drawn + 1 } : World) = w.drew := rfl
  have hn0 : ¬ n * sz = 0 := by
    have : 0 < n * sz := Nat.mul_pos (by omega) hsz
    omega
  let C := Builtin.zeroCells z.cells n ++ Builtin.zeroCells z.cells (cap - n)
  have run : (Builtin.append_ #[t, u] ty #[.slice none 0 0, .int .i64 (n : Int)]).run P w = .ok (.slice (some ⟨w.heap.size, 0, none⟩) n cap) (w.drew.alloc (.cells C e)) := by
    unfold Builtin.append_
    simp only [List.getElem?_toArray, List.getElem?_cons_zero, List.getElem?_cons_succ, Sem.run_bind, run_underlying ht, Result.andThen_ok, run_sizeOf hs, run_underlying htu, Sem.run_pure]
    simp only [if_true, Sem.run_bind, asInt, asIntOf, Result.andThen_ok, Sem.run_pure, hwr]
    rw [if_neg (show ¬ (n : Int) < 0 by omega)]
    simp only [Sem.run_bind, Sem.run_pure, run_typeInfo hi, Result.andThen_ok, hib]
    rw [if_neg (show ¬ ((n : Int) * (by_ : Nat) > 2 ^ 48) by
      have : ((n : Int) * (by_ : Nat)) = ((n * by_ : Nat) : Int) := by simp
      rw [this]; omega)]
    simp only [Sem.run_bind, Sem.run_pure, Result.andThen_ok, Int.toNat_natCast, Nat.zero_add]
    rw [if_neg (show ¬ n ≤ 0 by omega)]
    simp only [Sem.run_bind, run_typeInfo hi, Result.andThen_ok, hib]
    rw [if_neg (by simpa using hmax)]
    simp only [Sem.run_bind, run_typeInfo hi, Result.andThen_ok, hib]
    rw [if_neg h48]
    simp only [Sem.run_bind, run_choose, hforced, Bool.false_eq_true, if_false, Result.andThen_ok, run_askRoom, hd, run_typeInfo hi]
    simp only [Builtin.firstCells, hz0, Result.andThen_ok, Bool.not_true, Bool.false_eq_true, if_false, Sem.run_pure, if_neg hn0, Sem.run_bind]
    simp [newRow, cap, C]
    rfl
  have hC : C.size = (zeros z.cells.toList n).length + (cap - n) * sz := by
    simp only [C, Array.size_append, Builtin.zeroCells, Array.size_map, Array.size_range, zeros_length, Array.length_toList, hzs]
  have hrel : ∀ (j : Nat) q, (zeros z.cells.toList n)[j]? = some q → ∃ q', C[j]? = some q' ∧ VR σ q q' := by
    intro j q hq
    have hlr : LR σ (zeros z.cells.toList n) (zeros z.cells.toList n) := (zeroOf_lr hz).zeros n
    refine ⟨q, ?_, hlr.2 j q q hq hq⟩
    have hj := (List.getElem?_eq_some_iff.1 hq).1
    have hl : (Builtin.zeroCells z.cells n).toList = zeros z.cells.toList n := by
      unfold Builtin.zeroCells
      rw [zeros_range z.cells n (by omega)]
    have hsz2 : j < (Builtin.zeroCells z.cells n).size := by rw [← Array.length_toList, hl]; exact hj
    simp only [C]
    rw [Array.getElem?_append_left hsz2, ← Array.getElem?_toList, hl, hq]
  obtain ⟨σ', a1, a2, a3, a4, a5⟩ := place_mr (hm.same (w' := w.drew) rfl) hat (C := C) e ((cap - n) * sz) sz hC hrel hp
  refine ⟨_, _, run, ⟨σ', ?_, a2, a3, Below.alloc ((Below.refl _ _).drew) (by simpa using hm.size) _, a4, a5⟩⟩
  have hzl : (zeros z.cells.toList n).length = n * sz := by rw [zeros_length, Array.length_toList, hzs]
  have := VR.slice (σ := σ') (o := 0) (n := n) (c := n) (c' := cap) a1 hcap (fun _ => ⟨by simp [hzl], by
    simp only; rw [← Nat.add_mul]; exact Nat.mul_le_mul_right _ (by omega)⟩)
  simpa using this

theorem zeroCells_eq (z : Array Value) (n : Nat) (hz : 0 < z.size) : (Builtin.zeroCells z n).toList = zeros z.toList n := by
  unfold Builtin.zeroCells
  rw [zeros_range z n hz]

theorem sim_clr {t e ty : TypeId} {sz : Nat} {z a a2 : Value} {m' : Mem} {at_ : Option Nat} {ts : Array TypeId} (hts : ts[0]? = some t) (hu : P.underlying t = some (.slice e)) (hs : szOf P e = some sz) (hz : zeroOf P e = some z) (hzs : z.cells.size = sz) (hsz : 0 < sz)
    (hm : MR B0 σ m w) (ha : VR σ a a2) (h : aClr sz z.cells.toList m a = some m') :
    ∃ v2 w2, (Builtin.clear_ ts ty #[a2]).run P w = .ok v2 w2 ∧ OpR P B0 σ m w at_ (.tuple #[]) m' v2 w2 := by
  have fin0 : ∀ {m' w'}, MR B0 σ m' w' → Below B0 w w' → m'.next = m.next → OpR P B0 σ m w at_ (.tuple #[]) m' (.tuple #[]) w' := fun h1 h2 h3 => ⟨σ, .tuple rfl (by simp), h1, .refl σ, h2, by omega, fun _ _ _ h => h⟩
  have k0 : ∀ q c', (Builtin.clear_ ts ty #[.slice q 0 c']).run P w = .ok (.tuple #[]) w := by
    intro q c'
    unfold Builtin.clear_
    simp only [hts, List.getElem?_toArray, List.getElem?_cons_zero, Sem.run_bind, run_underlying hu, Result.andThen_ok]
    cases q <;> simp
  unfold aClr at h
  split at h
  · cases h
    cases ha
    exact ⟨_, _, k0 _ _, fin0 hm (Below.refl _ _) rfl⟩
  · rename_i b o n c
    split at h
    · rename_i h0
      subst h0
      cases h
      cases ha with
      | slice _ _ _ => exact ⟨_, _, k0 _ _, fin0 hm (Below.refl _ _) rfl⟩
      | sliceZ _ => exact ⟨_, _, k0 _ _, fin0 hm (Below.refl _ _) rfl⟩
      | sliceDead _ => exact ⟨_, _, k0 _ _, fin0 hm (Below.refl _ _) rfl⟩
    · rename_i h0
      split at h
      rotate_left
      · cases h
      have hw0 := h
      unfold aWrite at hw0
      split at hw0
      · rename_i cs u' hc
        obtain ⟨i, hi⟩ := hm.live_of hc
        obtain ⟨w', e1, e2, e3, e4⟩ := sim_write (P := P) hm hi ((zeroOf_lr hz).zeros n) h
        have k1 : ∀ c', (Builtin.clear_ ts ty #[.slice (some ⟨i.block, i.off + o, none⟩) n c']).run P w = .ok (.tuple #[]) w' := by
          intro c'
          obtain ⟨n, rfl⟩ : ∃ k, n = k + 1 := ⟨n - 1, by omega⟩
          unfold Builtin.clear_
          simp only [hts, List.getElem?_toArray, List.getElem?_cons_zero, Sem.run_bind, run_underlying hu, Result.andThen_ok]
          rw [(run_zeroValue (P := P) (w := w) (σ := σ) hz).1]
          simp only [Result.andThen_ok, zeroCells_eq z.cells (n + 1) (by omega), e1]
          rfl
        cases ha with
        | slice h1 h2 h3 =>
          rw [hi] at h1; cases h1
          exact ⟨_, _, k1 _, fin0 e2 e3 (by omega)⟩
        | sliceZ h1 => exact absurd rfl h0
        | sliceDead h1 => rw [hi] at h1; cases h1
      · cases hw0
  · cases h

theorem sim_capN {t e ty : TypeId} {a a2 v : Value} {ts : Array TypeId} (hts : ts[0]? = some t) (hu : P.underlying t = some (.slice e)) (ha : VR σ a a2) (h : aCapN a = some v) :
    (Builtin.cap_ ts ty #[a2]).run P w = .ok v w ∧ VR σ v v := by
  unfold aCapN at h
  split at h
  · cases h
    cases ha
    refine ⟨?_, .int _ _⟩
    unfold Builtin.cap_
    simp only [hts, List.getElem?_toArray, List.getElem?_cons_zero, Sem.run_bind, run_underlying hu, Result.andThen_ok]
    rfl
  · cases h

/-! ### maps -/

theorem keyEq_sim {kk : KK} {k k2 x x2 : Value} {r : Bool} {d : TypeDesc} (hd : match kk, d with | .int, .int _ => True | .string, .string => True | .bool, .bool => True | _, _ => False)
    (hk : VR σ k k2) (hx : VR σ x x2) (h : keyEq kk k x = some r) : Instr.sameNow d k2 x2 = some r ∧ (r = true → Instr.sameBits 10000 x2 k2 = true) := by
  cases kk <;> cases d <;> first | exact hd.elim | skip
  all_goals
    cases k <;> cases x <;> first | (simp [keyEq] at h; done) | skip
  · rename_i a b c dd
    obtain rfl := hk.int_inv; obtain rfl := hx.int_inv
    simp only [keyEq] at h
    split at h
    · rename_i e; subst e
      refine ⟨by simpa [Instr.sameNow] using h, fun hr => ?_⟩
      subst hr
      simp at h; subst h
      unfold Instr.sameBits; simp
    · cases h
  · obtain rfl := hk.bool_inv; obtain rfl := hx.bool_inv
    simp only [keyEq] at h
    refine ⟨by simpa [Instr.sameNow] using h, fun hr => ?_⟩
    subst hr
    simp at h; subst h
    unfold Instr.sameBits; simp

def KKok (kk : KK) (d : TypeDesc) : Prop := match kk, d with | .int, .int _ => True | .string, .string => True | .bool, .bool => True | _, _ => False

theorem cKK_ok {t : TypeId} {kk : KK} (h : cKK P t = some kk) : ∃ d, P.underlying t = some d ∧ KKok kk d := by
  unfold cKK at h
  split at h
  · rename_i hh; cases h; exact ⟨_, hh, trivial⟩
  · rename_i hh; cases h; exact ⟨_, hh, trivial⟩
  · rename_i hh; cases h; exact ⟨_, hh, trivial⟩
  · cases h

theorem MapR.cons_inv {k v : Value} {es : List (Value × Value)} {ES : List MapEntry} (h : MapR σ ((k, v) :: es) ES.toArray) :
    ∃ e r, ES = e :: r ∧ VR σ k e.key ∧ VR σ v e.val ∧ MapR σ es r.toArray := by
  obtain ⟨h1, h2⟩ := h
  cases ES with
  | nil => simp at h1
  | cons e r =>
    obtain ⟨e', he, hk, hv⟩ := h2 0 k v rfl
    simp at he; subst he
    exact ⟨e, r, rfl, hk, hv, by simpa using h1, fun j a b hj => by
      obtain ⟨e', he, h⟩ := h2 (j + 1) a b (by simpa using hj)
      exact ⟨e', by simpa using he, h⟩⟩

theorem findK_sim {kk : KK} {d : TypeDesc} (hd : KKok kk d) {k k2 : Value} (hk : VR σ k k2) : ∀ {es : List (Value × Value)} {ES : List MapEntry} {i : Nat} {r : Option (Nat × Value)},
    MapR σ es ES.toArray → findK kk k es i = some r →
    (r = none ∧ Instr.findNow d k2 ES i = some none) ∨
    ∃ j v e, r = some (i + j, v) ∧ ES[j]? = some e ∧ Instr.findNow d k2 ES i = some (some (i + j, e.val)) ∧ VR σ v e.val ∧ Instr.sameBits 10000 e.key k2 = true ∧ j < es.length := by
  intro es
  induction es with
  | nil =>
    intro ES i r hm h
    simp only [findK] at h
    cases h
    obtain rfl : ES = [] := by have := hm.1; simp at this; exact List.length_eq_zero_iff.1 this.symm
    exact .inl ⟨rfl, rfl⟩
  | cons x es ih =>
    obtain ⟨k', v'⟩ := x
    intro ES i r hm h
    obtain ⟨e, rr, rfl, h1, h2, h3⟩ := hm.cons_inv
    simp only [findK] at h
    split at h
    · rename_i he
      cases h
      obtain ⟨s1, s2⟩ := keyEq_sim (d := d) hd hk h1 he
      refine .inr ⟨0, v', e, rfl, rfl, ?_, h2, s2 rfl, by simp⟩
      simp only [Instr.findNow, s1, Nat.add_zero]
    · rename_i he
      obtain ⟨s1, _⟩ := keyEq_sim (d := d) hd hk h1 he
      rcases ih h3 h with ⟨rfl, h4⟩ | ⟨j, v, e', rfl, h5, h6, h7, h8, h9⟩
      · exact .inl ⟨rfl, by simp only [Instr.findNow, s1]; exact h4⟩
      · refine .inr ⟨j + 1, v, e', by congr 2; omega, by simpa using h5, ?_, h7, h8, by simp; omega⟩
        simp only [Instr.findNow, s1]
        rw [h6]; congr 3; omega
    · cases h

theorem run_checkKey {b : Bool} {t : TypeId} {d : TypeDesc} {kk : KK} {k : Value} (hu : P.underlying t = some d) (hd : KKok kk d) : (Instr.checkKey b 10000 t k).run P w = .ok () w := by
  unfold Instr.checkKey
  simp only [Sem.run_bind, run_underlying hu, Result.andThen_ok]
  cases kk <;> cases d <;> first | exact hd.elim | (cases k <;> rfl)

theorem run_getMap {r : Nat} {ES : Array MapEntry} {cl : Nat} (h : w.heap[r]? = some (.map ES cl)) : (getObj r).run P w = .ok (.map ES cl) w := by
  unfold getObj; simp [Sem.run, h]

theorem sim_look {t kt et : TypeId} {kk : KK} {z mp mp2 k k2 v : Value} {ok : Bool} (ht : P.underlying t = some (.map kt et)) (hkk : cKK P kt = some kk) (hz : zeroOf P et = some z)
    (hm : MR B0 σ m w) (hmp : VR σ mp mp2) (hk : VR σ k k2) (h : aLook kk z ok m mp k = some v) : ∃ v2, (Instr.lookup t mp2 k2 ok).run P w = .ok v2 w ∧ VR σ v v2 := by
  obtain ⟨d, hd, hok⟩ := cKK_ok hkk
  obtain ⟨hz1, hz2⟩ := run_zeroValue (P := P) (w := w) (σ := σ) hz
  unfold aLook at h
  obtain ⟨es, hes, h'⟩ := Option.bind_eq_some_iff.1 h
  clear h
  obtain ⟨r, hr, h⟩ := Option.bind_eq_some_iff.1 h'
  clear h'
  -- the model's entries
  have key : ∃ ES : Array MapEntry, MapR σ es ES ∧ (Instr.lookup t mp2 k2 ok).run P w = (do
      Instr.checkKey ES.isEmpty 10000 kt k2
      let (v, is) ← match ← Instr.findKey kt k2 ES.toList with
        | some (_, v) => pure (v, true)
        | none => pure (← zeroValue et, false)
      pure (if ok then .tuple #[v, .bool is] else v) : Sem Value).run P w := by
    split at hes
    · cases hes
      cases hmp
      refine ⟨#[], ⟨rfl, by simp⟩, ?_⟩
      unfold Instr.lookup
      simp only [Sem.run_bind, run_underlying ht, Result.andThen_ok, Sem.run_pure]
      rfl
    · split at hes
      · rename_i r0 _ es' hb
        cases hes
        obtain ⟨i, hi⟩ := hm.live_of hb
        obtain ⟨_, ES, cl, hw, hmr⟩ := hm.map _ i es hi hb
        cases hmp with
        | map h1 =>
          rw [hi] at h1; cases h1
          refine ⟨ES, hmr.1, ?_⟩
          unfold Instr.lookup
          simp only [Sem.run_bind, run_underlying ht, Result.andThen_ok, Sem.run_pure, run_getMap hw]
          rfl
        | mapDead h1 => rw [hi] at h1; cases h1
      · cases hes
    · cases hes
  obtain ⟨ES, hmr, hrun⟩ := key
  rw [hrun]
  simp only [Sem.run_bind, run_checkKey hd hok, Result.andThen_ok]
  rcases findK_sim hok hk (ES := ES.toList) (by simpa using hmr) hr with ⟨rfl, hf⟩ | ⟨j, v0, e, rfl, h5, h6, h7, _, _⟩
  · have : (Instr.findKey kt k2 ES.toList).run P w = .ok none w := by
      unfold Instr.findKey; simp [run_underlying hd, hf]
    rw [this]
    simp only [Result.andThen_ok, Sem.run_bind, hz1, Sem.run_pure]
    cases h
    refine ⟨_, rfl, ?_⟩
    cases ok
    · simpa using hz2
    · simp only [if_true]; exact .tuple_lr (.cons hz2 (.cons (.bool _) .nil))
  · have : (Instr.findKey kt k2 ES.toList).run P w = .ok (some (0 + j, e.val)) w := by
      unfold Instr.findKey; simp [run_underlying hd, h6]
    rw [this]
    simp only [Result.andThen_ok, Sem.run_bind, Sem.run_pure]
    cases h
    refine ⟨_, rfl, ?_⟩
    cases ok
    · simpa using h7
    · simp only [if_true]; exact .tuple_lr (.cons h7 (.cons (.bool _) .nil))

theorem run_setMap {r : Nat} {ES ES' : Array MapEntry} {cl cl' : Nat} (h : w.heap[r]? = some (.map ES cl)) :
    (setObj r (.map ES' cl')).run P w = .ok () { w with heap := w.heap.setIfInBounds r (.map ES' cl') } := by
  unfold setObj; simp [Sem.run, h]

theorem below_setMap {r : Nat} {o : Obj} (h : B0 ≤ r) : Below B0 w { w with heap := w.heap.setIfInBounds r o } :=
  ⟨rfl, rfl, rfl, by simp, fun k hk => Array.getElem?_setIfInBounds_ne (by omega)⟩

theorem MapR.set {es : List (Value × Value)} {ES : Array MapEntry} (h : MapR σ es ES) {k v : Value} {j : Nat} {e : MapEntry} (hk : VR σ k e.key) (hv : VR σ v e.val) :
    MapR σ (es.set j (k, v)) (ES.modify j fun _ => e) := by
  refine ⟨by simp [h.1], fun i a b hi => ?_⟩
  by_cases e' : i = j
  · subst e'
    by_cases hlt : i < es.length
    · rw [List.getElem?_set_self hlt] at hi
      cases hi
      have : i < ES.size := by rw [← h.1]; exact hlt
      refine ⟨e, ?_, hk, hv⟩
      rw [Array.getElem?_modify]; simp [this]
    · rw [List.getElem?_eq_none (by simp; omega)] at hi; cases hi
  · rw [List.getElem?_set_ne (Ne.symm e')] at hi
    obtain ⟨e2, h1, h2, h3⟩ := h.2 i a b hi
    refine ⟨e2, ?_, h2, h3⟩
    rw [Array.getElem?_modify]; simp [Ne.symm e', h1]

theorem MapR.push {es : List (Value × Value)} {ES : Array MapEntry} (h : MapR σ es ES) {k v : Value} {e : MapEntry} (hk : VR σ k e.key) (hv : VR σ v e.val) :
    MapR σ (es ++ [(k, v)]) (ES.push e) := by
  refine ⟨by simp [h.1], fun i a b hi => ?_⟩
  by_cases hlt : i < es.length
  · rw [List.getElem?_append_left hlt] at hi
    obtain ⟨e2, h1, h2, h3⟩ := h.2 i a b hi
    have : i < ES.size := by rw [← h.1]; exact hlt
    exact ⟨e2, by rw [Array.getElem?_push_lt this, ← h1, Array.getElem?_eq_getElem this], h2, h3⟩
  · rw [List.getElem?_append_right (by omega)] at hi
    have : i = es.length := by
      have := (List.getElem?_eq_some_iff.1 hi).1; simp at this; omega
    subst this
    simp at hi
    obtain ⟨rfl, rfl⟩ := hi
    exact ⟨e, by rw [h.1]; simp, hk, hv⟩

theorem MapR.erase {es : List (Value × Value)} {ES : Array MapEntry} (h : MapR σ es ES) {j : Nat} (hj : j < es.length) :
    MapR σ (es.eraseIdx j) (ES.eraseIdxIfInBounds j) := by
  have hj' : j < ES.size := by rw [← h.1]; exact hj
  refine ⟨by simp [Array.eraseIdxIfInBounds, hj', List.length_eraseIdx, h.1], fun i a b hi => ?_⟩
  simp only [Array.eraseIdxIfInBounds, hj', dite_true]
  rw [List.getElem?_eraseIdx] at hi
  rw [Array.getElem?_eraseIdx]
  split at hi
  · rename_i hlt; rw [if_pos hlt]; exact h.2 _ a b hi
  · rename_i hlt; rw [if_neg hlt]; exact h.2 _ a b hi

theorem Bst.push {ES : Array MapEntry} {cl : Nat} {k v : Value} (h : Bst ES cl) : Bst (ES.push { key := k, val := v, born := cl }) (cl + 1) := by
  obtain ⟨h1, h2⟩ := h
  refine ⟨fun x hx => ?_, ?_⟩
  · simp only [Array.toList_push, List.mem_append, List.mem_singleton] at hx
    rcases hx with hx | rfl
    · have := h1 x hx; omega
    · simp
  · rw [Array.toList_push, List.map_append, List.nodup_append]
    refine ⟨h2, by simp, fun a ha b hb => ?_⟩
    obtain ⟨x, hx, rfl⟩ := List.mem_map.1 ha
    simp at hb
    have := h1 x hx
    omega
theorem Bst.set {ES : Array MapEntry} {cl j : Nat} {e : MapEntry} {k v : Value} (h : Bst ES cl) (hj : ES[j]? = some e) : Bst (ES.modify j fun _ => { e with key := k, val := v }) cl := by
  have key : (ES.modify j fun _ => { e with key := k, val := v }).toList.map (·.born) = ES.toList.map (·.born) := by
    apply List.ext_getElem?
    intro x
    rw [List.getElem?_map, List.getElem?_map, Array.getElem?_toList, Array.getElem?_toList, Array.getElem?_modify]
    by_cases hx : j = x
    · subst hx; simp [hj]
    · simp [hx]
  have mem : ∀ L : List MapEntry, (∀ x ∈ L, x.born < cl) ↔ ∀ b ∈ L.map (·.born), b < cl := fun L => by simp
  exact ⟨(mem _).2 (by rw [key]; exact (mem _).1 h.1), by rw [key]; exact h.2⟩
theorem Bst.erase {ES : Array MapEntry} {cl j : Nat} (h : Bst ES cl) : Bst (ES.eraseIdxIfInBounds j) cl := by
  have hs : (ES.eraseIdxIfInBounds j).toList.Sublist ES.toList := by
    unfold Array.eraseIdxIfInBounds
    split
    · rw [Array.toList_eraseIdx]; exact List.eraseIdx_sublist _ _
    · exact List.Sublist.refl _
  exact ⟨fun x hx => h.1 x (hs.subset hx), h.2.sublist (hs.map _)⟩

theorem sim_upd {t kt et : TypeId} {kk : KK} {mp mp2 k k2 v v2 : Value} {m' : Mem} (ht : P.underlying t = some (.map kt et)) (hkk : cKK P kt = some kk)
    (hm : MR B0 σ m w) (hmp : VR σ mp mp2) (hk : VR σ k k2) (hv : VR σ v v2) (h : aUpd kk m mp k v = some m') :
    ∃ w', (Instr.mapUpdate t mp2 k2 v2).run P w = .ok () w' ∧ MR B0 σ m' w' ∧ Below B0 w w' ∧ m'.next = m.next := by
  obtain ⟨d, hd, hok⟩ := cKK_ok hkk
  unfold aUpd at h
  split at h
  · split at h
    · rename_i r0 _ es hb
      obtain ⟨r, hr, h⟩ := Option.map_eq_some_iff.1 h
      obtain ⟨i, hi⟩ := hm.live_of hb
      obtain ⟨⟨_, _, _, hB⟩, ES, cl, hw, hmr⟩ := hm.map _ i es hi hb
      obtain rfl : mp2 = .map (some i.block) := by
        cases hmp with
        | map h1 => rw [hi] at h1; cases h1; rfl
        | mapDead h1 => rw [hi] at h1; cases h1
      rcases findK_sim hok hk (ES := ES.toList) (by simpa using hmr.1) hr with ⟨rfl, hf⟩ | ⟨j, v0, e, rfl, h5, h6, h7, h8, h9⟩
      · have hfk : (Instr.findKey kt k2 ES.toList).run P w = .ok none w := by
          unfold Instr.findKey; simp [run_underlying hd, hf]
        subst h
        refine ⟨_, ?_, hm.setMap (cl' := cl + 1) hi hb ⟨hmr.1.push (e := { key := k2, val := v2, born := cl }) hk hv, hmr.2.push⟩, below_setMap hB, rfl⟩
        unfold Instr.mapUpdate
        simp only [Sem.run_bind, run_underlying ht, Result.andThen_ok, run_getMap hw, run_checkKey hd hok, hfk, run_setMap hw]
      · have hfk : (Instr.findKey kt k2 ES.toList).run P w = .ok (some (0 + j, e.val)) w := by
          unfold Instr.findKey; simp [run_underlying hd, h6]
        subst h
        rw [Array.getElem?_toList] at h5
        have hmod : (ES.modify (0 + j) fun e => { e with key := k2, val := v2 }) = ES.modify (0 + j) fun _ => { e with key := k2, val := v2 } := by
          apply Array.ext_getElem?
          intro x
          rw [Array.getElem?_modify, Array.getElem?_modify]
          by_cases hx : 0 + j = x
          · simp only [hx, if_true]
            have : ES[x]? = some e := by rw [← hx, Nat.zero_add]; exact h5
            rw [this]; rfl
          · simp only [hx, if_false]
        refine ⟨_, ?_, hm.setMap (cl' := cl) hi hb ⟨hmr.1.set (j := 0 + j) (e := { e with key := k2, val := v2 }) hk hv, hmr.2.set (by rw [Nat.zero_add]; exact h5)⟩, below_setMap hB, rfl⟩
        unfold Instr.mapUpdate
        simp only [Sem.run_bind, run_underlying ht, Result.andThen_ok, run_getMap hw, run_checkKey hd hok, hfk]
        have hks : (Instr.keyThatStays (((ES[0 + j]?).map (·.key)).getD k2) k2).run P w = .ok k2 w := by
          rw [Nat.zero_add, h5]
          unfold Instr.keyThatStays
          simp [h8]
        rw [hks]
        simp only [Result.andThen_ok, hmod, run_setMap hw]
    · cases h
  · cases h

theorem sim_del {t kt et ty : TypeId} {kk : KK} {mp mp2 k k2 : Value} {m' : Mem} {ts : Array TypeId} (hts : ts[0]? = some t) (ht : P.underlying t = some (.map kt et)) (hkk : cKK P kt = some kk)
    (hm : MR B0 σ m w) (hmp : VR σ mp mp2) (hk : VR σ k k2) (h : aDel kk m mp k = some m') :
    ∃ w', (Builtin.delete_ ts ty #[mp2, k2]).run P w = .ok (.tuple #[]) w' ∧ MR B0 σ m' w' ∧ Below B0 w w' ∧ m'.next = m.next := by
  obtain ⟨d, hd, hok⟩ := cKK_ok hkk
  have h0 := hts
  unfold aDel at h
  split at h
  · cases h
    cases hmp
    refine ⟨w, ?_, hm, Below.refl _ _, rfl⟩
    unfold Builtin.delete_
    simp only [h0, List.getElem?_toArray, List.getElem?_cons_zero, List.getElem?_cons_succ, Sem.run_bind, run_underlying ht, Result.andThen_ok, run_checkKey hd hok, Sem.run_pure]
  · split at h
    · rename_i r0 _ es hb
      obtain ⟨r, hr, h⟩ := Option.map_eq_some_iff.1 h
      obtain ⟨i, hi⟩ := hm.live_of hb
      obtain ⟨⟨_, _, _, hB⟩, ES, cl, hw, hmr⟩ := hm.map _ i es hi hb
      obtain rfl : mp2 = .map (some i.block) := by
        cases hmp with
        | map h1 => rw [hi] at h1; cases h1; rfl
        | mapDead h1 => rw [hi] at h1; cases h1
      rcases findK_sim hok hk (ES := ES.toList) (by simpa using hmr.1) hr with ⟨rfl, hf⟩ | ⟨j, v0, e, rfl, h5, h6, h7, h8, h9⟩
      · have hfk : (Instr.findKey kt k2 ES.toList).run P w = .ok none w := by
          unfold Instr.findKey; simp [run_underlying hd, hf]
        subst h
        have hset : m.set r0 (some (.map es)) = m := by
          cases m; simp only [Mem.set]; congr; funext x
          split
          · rename_i e; subst e; exact hb.symm
          · rfl
        have := hm.setMap (cl' := cl) hi hb hmr
        rw [hset] at this
        refine ⟨_, ?_, this, below_setMap hB, rfl⟩
        unfold Builtin.delete_
        simp only [h0, List.getElem?_toArray, List.getElem?_cons_zero, List.getElem?_cons_succ, Sem.run_bind, run_underlying ht, Result.andThen_ok, run_getMap hw, run_checkKey hd hok, hfk, run_setMap hw, Sem.run_pure]
      · have hfk : (Instr.findKey kt k2 ES.toList).run P w = .ok (some (0 + j, e.val)) w := by
          unfold Instr.findKey; simp [run_underlying hd, h6]
        subst h
        refine ⟨_, ?_, hm.setMap (cl' := cl) hi hb ⟨hmr.1.erase (j := 0 + j) (by omega), hmr.2.erase⟩, below_setMap hB, rfl⟩
        unfold Builtin.delete_
        simp only [h0, List.getElem?_toArray, List.getElem?_cons_zero, List.getElem?_cons_succ, Sem.run_bind, run_underlying ht, Result.andThen_ok, run_getMap hw, run_checkKey hd hok, hfk, run_setMap hw, Sem.run_pure]
    · cases h
  · cases h
end Go.Am
