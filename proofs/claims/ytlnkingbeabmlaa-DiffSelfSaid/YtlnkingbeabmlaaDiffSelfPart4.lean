/- Parts of the proofs of the statements of this seat: AmSort, DiffKeyD, AmTabDiff, DiffKeys, AmTieDiff, AmBlk. No conditions. -/
import Derived.Test.YtlnkingbeabmlaaDiffSelfPart3
import Derived.Laws.IdiomCopy
import Derived.Test.YtlnkingbeabmlaaProg
import Derived.Test.YtlnkingbeabmlaaRows
set_option linter.unusedVariables false
set_option linter.unusedSimpArgs false

/- slices.Sort at whole numbers, in place. -/
namespace Go.Am
open Go.RowKit Go.Shelf Go.Proofs
open Go.Sort (putRow mapBlock putCells grow onCells Holds setCell_eq mapBlock_mapBlock mapBlock_congr mapBlock_id modify_append_left)

def cellInts : List Value → Option (List Int)
  | [] => some []
  | .int .i64 n :: r => (cellInts r).map (n :: ·)
  | _ => none

def X.isort : List Value → Mem → Option (Value × Mem)
  | [.slice none 0 0], m => some (.tuple #[], m)
  | [.slice (some ⟨b, o, none⟩) n _], m =>
    match m.blk b with
    | some (.cells cs (some u)) =>
      if o + n ≤ cs.length ∧ n ≤ 1000000 then
        (cellInts ((cs.drop o).take n)).map fun zs => (.tuple #[], m.set b (some (.cells (writeL cs o ((sortI zs).map (.int .i64))) (some u))))
      else none
    | _ => none
  | _, _ => none

theorem cellInts_eq : ∀ {l : List Value} {zs : List Int}, cellInts l = some zs → l = zs.map (.int .i64)
  | [], zs, h => by cases h; rfl
  | v :: r, zs, h => by
    unfold cellInts at h
    split at h
    · cases ‹_ = []›
    · rename_i n r' e
      cases e
      obtain ⟨q, h1, rfl⟩ := Option.map_eq_some_iff.1 h
      rw [cellInts_eq h1]; rfl
    · cases h
theorem cellInts_map : ∀ {zs : List Int}, cellInts (zs.map (.int .i64)) = some zs
  | [] => rfl
  | z :: r => by simp only [List.map_cons, cellInts, cellInts_map, Option.map_some]

theorem X.isort_frame : ExtFrame X.isort := by
  intro args m v m' k o hk hlt h
  unfold X.isort at h ⊢
  split at h
  · cases h; exact ⟨rfl, hk, hlt, Nat.le_refl _⟩
  · rename_i b o' n c
    split at h
    · rename_i cs u hb
      have hne : b ≠ k := by rintro rfl; rw [hk] at hb; cases hb
      have hb2 : (m.set k (some o)).blk b = some (.cells cs (some u)) := by rw [Mem.set_ne _ _ hne]; exact hb
      simp only [hb2]
      split at h
      · rename_i hcond
        rw [if_pos hcond]
        obtain ⟨zs, h1, h2⟩ := Option.map_eq_some_iff.1 h
        cases h2
        rw [h1]
        refine ⟨?_, ?_, ?_, ?_⟩
        · simp only [Option.map_some, Option.some.injEq, Prod.mk.injEq, true_and]
          simp only [Mem.set]
          congr 1
          funext x
          by_cases e1 : x = b
          · subst e1; simp [hne]
          · by_cases e2 : x = k
            · subst e2; simp [e1]
            · simp [e1, e2]
        · simp [Mem.set, hk]; exact fun e => absurd e.symm hne
        · simpa [Mem.set] using hlt
        · simp [Mem.set]
      · cases h
    · cases h
  · cases h

variable {P : Program} {B0 : Nat} {σ : Inj} {m : Mem} {w : World}

/-- A row of cells set in an own block. -/
theorem MR.stores {b u : Nat} {i : Img} (hb : σ b = .live i) (hB : B0 ≤ i.block) : ∀ (vs vs' : List Value) (o : Nat) {m : Mem} {w : World} {c : List Value}, MR B0 σ m w → m.blk b = some (.cells c (some u)) → o + vs.length ≤ c.length → LR σ vs vs' →
    MR B0 σ (m.set b (some (.cells (writeL c o vs) (some u)))) (w.setCells i.block (i.off + o) vs') ∧ Below B0 w (w.setCells i.block (i.off + o) vs')
  | [], vs', o, m, w, c, h, hm, hl, hr => by
    obtain rfl : vs' = [] := List.eq_nil_of_length_eq_zero hr.1.symm
    have e : writeL c o [] = c := by unfold writeL; simp
    have : m.set b (some (.cells (writeL c o []) (some u))) = m := by
      rw [e]
      unfold Mem.set; congr 1; funext q; split
      · rename_i e; subst e; exact hm.symm
      · rfl
    rw [this]
    exact ⟨h, Below.refl _ _⟩
  | v :: vs, vs', o, m, w, c, h, hm, hl, hr => by
    obtain ⟨v', r', rfl, h1, h2⟩ := hr.cons_inv
    have hlt : o < c.length := by simp at hl; omega
    have g := h.store hb hm hlt h1
    obtain ⟨k1, k2⟩ := MR.stores (u := u) hb hB vs r' (o + 1) g (c := c.set o v) (by simp [Mem.set]) (by simp at hl ⊢; omega) h2
    rw [writeL_cons hlt] at k1
    have e : (m.set b (some (.cells (c.set o v) (some u)))).set b (some (.cells (writeL c o (v :: vs)) (some u))) = m.set b (some (.cells (writeL c o (v :: vs)) (some u))) := by
      unfold Mem.set; congr 1; funext q; simp only []; split <;> rfl
    rw [e] at k1
    rw [World.setCells]
    exact ⟨k1, ((Below.refl _ w).setCell hB v').trans k2⟩

theorem putRow_cells : ∀ (zs : List Int) (w : World) (b o : Nat), putRow (Value.int .i64) w b o zs.toArray = w.setCells b o (zs.map (.int .i64))
  | [], w, b, o => by
    unfold putRow World.setCells
    refine mapBlock_id _ _ _ fun c e fr _ => ?_
    apply Array.ext_getElem?
    intro k
    simp only [putCells, Array.getElem?_mapIdx]
    cases c[k]? with
    | none => rfl
    | some x =>
      simp only [Option.map_some, Option.some.injEq]
      rw [if_neg (by simp only [List.size_toArray, List.length_nil]; omega)]
  | z :: zs, w, b, o => by
    rw [List.map_cons, World.setCells, ← putRow_cells zs]
    unfold putRow
    rw [setCell_eq, mapBlock_mapBlock]
    refine mapBlock_congr _ _ _ _ fun c e fr _ => ?_
    apply Array.ext_getElem?
    intro k
    simp only [putCells, Array.getElem?_mapIdx, Array.getElem?_setIfInBounds]
    by_cases hk : o = k
    · subst hk
      rw [if_pos rfl]
      by_cases hc : o < c.size
      · rw [if_pos hc, Array.getElem?_eq_getElem hc]
        simp only [Option.map_some, Option.some.injEq]
        rw [if_pos ⟨Nat.le_refl _, by simp⟩, if_neg (by omega), Nat.sub_self]
        simp
      · rw [if_neg hc, Array.getElem?_eq_none (by omega)]
        rfl
    · rw [if_neg hk]
      cases c[k]? with
      | none => rfl
      | some x =>
        simp only [Option.map_some, Option.some.injEq]
        by_cases h1 : o + 1 ≤ k ∧ k < o + 1 + zs.toArray.size
        · have h2 : o ≤ k ∧ k < o + (z :: zs).toArray.size := by simp at h1 ⊢; omega
          rw [if_pos h1, if_pos h2]
          congr 1
          have e : k - o = (k - (o + 1)) + 1 := by omega
          have h3 : k - (o + 1) < zs.length := by simp at h1; omega
          rw [e]
          rw [getElem!_pos _ _ (by simpa using h3), getElem!_pos _ _ (by simpa using h3)]
          simp
        · have h2 : ¬ (o ≤ k ∧ k < o + (z :: zs).toArray.size) := by simp at h1 ⊢; omega
          rw [if_neg h1, if_neg h2]

theorem X.isort_sim {P : Program} {G : Nat → World → Prop} {ρq : Ren} (LQ : SlLaysM.n5 P ρq) (args : List Value) (m : Mem) (v : Value) (m' : Mem) (h : X.isort args m = some (v, m')) : SimCall P G (ρq.f 5) args m v m' := by
  intro B0 σ args2 w hG hl hm
  have vt : VR σ (.tuple #[]) (.tuple #[]) := .tuple rfl fun i hi => by simp at hi
  unfold X.isort at h
  split at h
  · cases h
    obtain ⟨y, r, rfl, hy, hr⟩ := hl.cons_inv
    obtain rfl : r = [] := List.eq_nil_of_length_eq_zero hr.1.symm
    cases hy with
    | sliceNil =>
      refine (AnyM.slices_Sort_int_none LQ none 0 w).mono ?_
      rintro e w2 ⟨rfl, rfl⟩
      exact ⟨_, rfl, OpR.pure hm vt⟩
  · rename_i b o n c
    split at h
    · rename_i cs u hb
      split at h
      · rename_i hcond
        obtain ⟨zs, h1, h2⟩ := Option.map_eq_some_iff.1 h
        cases h2
        have hz := cellInts_eq h1
        obtain ⟨i, hi⟩ := hm.live_of hb
        obtain ⟨y, r, rfl, hy, hr⟩ := hl.cons_inv
        obtain rfl : r = [] := List.eq_nil_of_length_eq_zero hr.1.symm
        obtain ⟨hlen, hcells⟩ := hm.cells b i cs _ hi hb
        obtain ⟨-, hB, hrw⟩ := hm.rw b i cs u hi hb
        have hzl : zs.length = n := by have := congrArg List.length hz; simp at this; omega
        have hsl : (∃ c', y = .slice (some ⟨i.block, i.off + o, none⟩) n c') ∨ ∃ q, n = 0 ∧ y = .slice (some q) 0 0 := by
          cases hy with
          | slice h1 h2 h3 => rw [hi] at h1; cases h1; exact .inl ⟨_, rfl⟩
          | sliceZ h1 => exact .inr ⟨_, rfl, rfl⟩
          | sliceDead h1 => rw [hi] at h1; cases h1
        rcases hsl with ⟨c', rfl⟩ | ⟨q, rfl, rfl⟩
        rotate_left
        · obtain rfl : zs = [] := List.eq_nil_of_length_eq_zero hzl
          have e : m.set b (some (.cells (writeL cs o ((sortI []).map (.int .i64))) (some u))) = m := by
            have e1 : writeL cs o ((sortI []).map (.int .i64)) = cs := by unfold writeL; simp [sortI]
            rw [e1]
            unfold Mem.set; congr 1; funext q; split
            · rename_i e; subst e; exact hb.symm
            · rfl
          rw [e]
          refine (AnyM.slices_Sort_int_none LQ (some q) 0 w).mono ?_
          rintro e w2 ⟨rfl, rfl⟩
          exact ⟨_, rfl, OpR.pure hm vt⟩
        have hlt := hm.lt b i hi
        have hH : Holds (Value.int .i64) w i.block (i.off + o) zs.toArray := by
          intro j hj
          have hj' : j < zs.length := by simpa using hj
          have hg : cs[o + j]? = some (.int .i64 zs[j]) := by
            have : ((cs.drop o).take n)[j]? = some (.int .i64 zs[j]) := by
              rw [hz, List.getElem?_map, List.getElem?_eq_getElem hj']; rfl
            rwa [List.getElem?_take_of_lt (by omega), List.getElem?_drop] at this
          obtain ⟨v', g1, g2⟩ := hcells (o + j) _ hg
          cases g2
          refine ⟨?_, ?_⟩
          · rw [Nat.add_assoc, g1, getElem!_pos (zs.toArray) j hj]; simp
          · exact (hrw (o + j) (by omega)).2 _
        have key := AnyM.slices_Sort_int LQ i.block (i.off + o) c' zs w hH hlt (by omega)
        rw [hzl] at key
        refine key.mono ?_
        rintro e w2 ⟨rfl, nn, os, rfl⟩
        have hbel : Below w.heap.size w (grow (Go.Sort.ahead w nn) os) := ⟨rfl, rfl, rfl, by simp [grow, Go.Sort.ahead], fun k hk => by
          simp only [grow, Go.Sort.ahead]
          rw [Array.getElem?_append_left hk]⟩
        have hw2 : grow (putRow (Value.int .i64) (Go.Sort.ahead w nn) i.block (i.off + o) (zs.mergeSort fun x y => decide (x ≤ y)).toArray) os = (grow (Go.Sort.ahead w nn) os).setCells i.block (i.off + o) ((sortI zs).map (.int .i64)) := by
          rw [mergeSort_sortI (List.Perm.refl zs), ← putRow_cells]
          unfold putRow mapBlock grow
          simp only [modify_append_left _ _ _ _ (show i.block < (Go.Sort.ahead w nn).heap.size from hlt)]
        rw [hw2]
        have hm2 := hm.below hbel
        have hrel : LR σ ((sortI zs).map (.int .i64)) ((sortI zs).map (.int .i64)) := ⟨rfl, fun j x y hx hy => by
          rw [hx] at hy; cases hy
          rw [List.getElem?_map, Option.map_eq_some_iff] at hx
          obtain ⟨q, -, rfl⟩ := hx
          exact .int _ _⟩
        obtain ⟨k1, k2⟩ := MR.stores hi hB _ _ o hm2 hb (by rw [List.length_map, sortI_len, hzl]; exact hcond.1) hrel
        exact ⟨_, rfl, ⟨σ, vt, k1, .refl σ, (hbel.mono hm.size).trans k2, by simp [Mem.set], fun _ _ _ h => h⟩⟩
      · cases h
    · cases h
  · cases h
end Go.Am


/- What stands for slices.Sorted of a map's keys at this program (laykeys.py). -/
namespace Go.Am
def X.sk : List Value → Mem → Option (Value × Mem) := X.skeys [58]
theorem X.sk_frame : ExtFrame X.sk := X.skeys_frame _
def X.so : List Value → Mem → Option (Value × Mem) := X.isort
theorem X.so_frame : ExtFrame X.so := X.isort_frame
end Go.Am


/- The functions of the layer diff in the form of the abstract machine. Printed by amgen.py. -/
set_option linter.unusedVariables false
namespace Go.Am

@[irreducible] def F.law22_DiffChanges : Nat := 3
@[irreducible] def F.law22_DiffSelf : Nat := 4
@[irreducible] def F.law22_DiffLists : Nat := 5
@[irreducible] def F.law22_right : Nat := 6
@[irreducible] def F.law22_awake : Nat := 7
@[irreducible] def F.diff_Changes : Nat := 8
@[irreducible] def F.ref22_List : Nat := 9
@[irreducible] def F.diff_Shift : Nat := 10
@[irreducible] def F.ref22_Shift : Nat := 11
@[irreducible] def F.ref16_Find : Nat := 12
@[irreducible] def F.ref16_SamePlace : Nat := 13
@[irreducible] def F.diff_Moved : Nat := 14
@[irreducible] def F.ref03_Same : Nat := 15
@[irreducible] def F.diff_Came : Nat := 16
@[irreducible] def F.diff_Gone : Nat := 17
@[irreducible] def F.diff_Resized : Nat := 18
@[irreducible] def F.law16_Light : Nat := 19
@[irreducible] def F.ref16_Right : Nat := 20
@[irreducible] def F.diff_places : Nat := 21
@[irreducible] def F.diff_some : Nat := 22
@[irreducible] def F.diff_Changes_1 : Nat := 23
@[irreducible] def F.plan_SamePlace : Nat := 24
@[irreducible] def F.diff_clone : Nat := 25
@[irreducible] def F.ref22_Units : Nat := 26
@[irreducible] def F.ref22_Moved : Nat := 27
@[irreducible] def F.mask_Count : Nat := 28
@[irreducible] def F.diff_window : Nat := 29
@[irreducible] def F.ref16_At : Nat := 30
@[irreducible] def F.diff_Moved_1 : Nat := 31
@[irreducible] def F.diff_moved : Nat := 32
@[irreducible] def F.diff_Came_1 : Nat := 33
@[irreducible] def F.diff_Gone_1 : Nat := 34
@[irreducible] def F.diff_Resized_1 : Nat := 35
@[irreducible] def F.ref16_place : Nat := 36
@[irreducible] def F.ref16_apart : Nat := 37
@[irreducible] def F.ref16_Splits : Nat := 38
@[irreducible] def F.ref16_Cores : Nat := 39
@[irreducible] def F.ref16_Load : Nat := 40
@[irreducible] def F.slices_Sorted_int : Nat := 41
@[irreducible] def F.maps_Keys_map_int_api_Place_int_api_Place : Nat := 42
@[irreducible] def F.slices_Sort_int_int : Nat := 43
@[irreducible] def F.slices_DeleteFunc_int_int : Nat := 44
@[irreducible] def F.slices_Compact_int_int : Nat := 45
@[irreducible] def F.diff_some_1 : Nat := 46
@[irreducible] def F.slices_Equal_api_Piece_api_Piece : Nat := 47
@[irreducible] def F.slices_Clone_api_Piece_api_Piece : Nat := 48
@[irreducible] def F.ref22_On : Nat := 49
@[irreducible] def F.math_bits_OnesCount64 : Nat := 50
@[irreducible] def F.ref04_Has : Nat := 51
@[irreducible] def F.ref08_Is : Nat := 52
@[irreducible] def F.ref16_Has : Nat := 53
@[irreducible] def F.ref04_Count : Nat := 54
@[irreducible] def F.ref16_Windows : Nat := 55
@[irreducible] def F.ref16_Wholes : Nat := 56
@[irreducible] def F.maps_Keys_map_int_api_Place_int_api_Place_1 : Nat := 58
@[irreducible] def F.slices_IndexFunc_int_int : Nat := 61
@[irreducible] def F.ref04_Ticks : Nat := 62
@[irreducible] def F.ref04_With : Nat := 63

def RB.law22_DiffChanges_1 : RCode :=
  (.seq (.seq (.region [⟨some 37, none, .mov (.t 7)⟩,
    ⟨some 38, none, .mov (.t 6)⟩,
    ⟨some 39, none, .len (.t 38)⟩,
    ⟨some 40, none, .bin .lss (.t 37) (.t 39)⟩]
    [2, 3, 5, 6, 7, 40])
  (.cond (.t 40)
    .skip
    (.exit 0)))
  (.seq (.block 1
    (.seq (.drawn [⟨some 44, none, .load true 3 (.t 2)⟩,
      ⟨some 45, none, .mov (.t 6)⟩,
      ⟨some 46, none, .mov (.t 7)⟩,
      ⟨some 47, none, .idxS 1 (.t 45) (.t 46)⟩,
      ⟨some 48, none, .load false 1 (.t 47)⟩,
      ⟨some 49, none, .call F.ref16_Find [.t 44, .t 48]⟩,
      ⟨some 43, none, .mov (.t 49)⟩,
      ⟨some 50, none, .ext 0 (.t 43)⟩,
      ⟨some 51, none, .ext 1 (.t 43)⟩,
      ⟨some 8, none, .alloc [(.int .i64 0), (.int .i64 0), (.int .i64 0), (.slice none 0 0)]⟩,
      ⟨none, none, .store 4 (.t 8) (.t 50)⟩,
      ⟨some 9, none, .mov (.t 51)⟩]
      [[], [], [], [1, 2], [3], [0, 4], [5], [6], [6], [], [9, 7, 5, 0, 1, 2, 3, 4, 5, 6, 7, 9], [8, 10, 0, 1, 2, 3, 4, 5, 6, 7, 8, 9, 10]]
      [(1, []), (2, []), (3, []), (0, []), (4, []), (5, []), (6, []), (7, []), (8, []), (9, []), (10, []), (11, [])]
      [[], [], [], [1, 2], [1, 2, 3], [0, 1, 2, 3, 4], [0, 1, 2, 3, 4, 5], [0, 1, 2, 3, 4, 5, 6], [0, 1, 2, 3, 4, 5, 6], [], [0, 1, 2, 3, 4, 5, 6, 7, 9], [0, 1, 2, 3, 4, 5, 6, 7, 8, 9, 10]]
      [2, 3, 5, 6, 7, 8])
    (.seq (.drawn [⟨some 53, none, .load true 3 (.t 3)⟩,
      ⟨some 54, none, .mov (.t 6)⟩,
      ⟨some 55, none, .mov (.t 7)⟩,
      ⟨some 56, none, .idxS 1 (.t 54) (.t 55)⟩,
      ⟨some 57, none, .load false 1 (.t 56)⟩,
      ⟨some 58, none, .call F.ref16_Find [.t 53, .t 57]⟩,
      ⟨some 52, none, .mov (.t 58)⟩,
      ⟨some 59, none, .ext 0 (.t 52)⟩,
      ⟨some 60, none, .ext 1 (.t 52)⟩,
      ⟨some 10, none, .alloc [(.int .i64 0), (.int .i64 0), (.int .i64 0), (.slice none 0 0)]⟩,
      ⟨none, none, .store 4 (.t 10) (.t 59)⟩,
      ⟨some 11, none, .mov (.t 60)⟩]
      [[], [], [], [1, 2], [3], [0, 4], [5], [6], [6], [], [9, 7, 5, 0, 1, 2, 3, 4, 5, 6, 7, 9], [8, 10, 0, 1, 2, 3, 4, 5, 6, 7, 8, 9, 10]]
      [(1, []), (2, []), (3, []), (0, []), (4, []), (5, []), (6, []), (7, []), (8, []), (9, []), (10, []), (11, [])]
      [[], [], [], [1, 2], [1, 2, 3], [0, 1, 2, 3, 4], [0, 1, 2, 3, 4, 5], [0, 1, 2, 3, 4, 5, 6], [0, 1, 2, 3, 4, 5, 6], [], [0, 1, 2, 3, 4, 5, 6, 7, 9], [0, 1, 2, 3, 4, 5, 6, 7, 8, 9, 10]]
      [2, 3, 5, 6, 7, 8, 10])
    (.seq (.drawn [⟨some 61, none, .mov (.t 5)⟩,
      ⟨some 62, none, .mov (.t 7)⟩,
      ⟨some 63, none, .idxS 9 (.t 61) (.t 62)⟩,
      ⟨some 64, none, .fieldAddr 0 (.t 63)⟩,
      ⟨some 65, none, .load false 1 (.t 64)⟩,
      ⟨some 66, none, .mov (.t 6)⟩,
      ⟨some 67, none, .mov (.t 7)⟩,
      ⟨some 68, none, .idxS 1 (.t 66) (.t 67)⟩,
      ⟨some 69, none, .load false 1 (.t 68)⟩,
      ⟨some 70, none, .bin .neq (.t 65) (.t 69)⟩,
      ⟨some 71, none, .mov (.t 70)⟩,
      ⟨some 72, some (71, false), .mov (.t 5)⟩,
      ⟨some 73, some (71, false), .mov (.t 7)⟩,
      ⟨some 74, some (71, false), .idxS 9 (.t 72) (.t 73)⟩,
      ⟨some 75, some (71, false), .fieldAddr 1 (.t 74)⟩,
      ⟨some 76, some (71, false), .load true 4 (.t 75)⟩,
      ⟨some 77, some (71, false), .load true 4 (.t 8)⟩,
      ⟨some 78, some (71, false), .call F.ref16_SamePlace [.t 76, .t 77]⟩,
      ⟨some 79, some (71, false), .un .not (.t 78)⟩,
      ⟨some 80, none, .pick (.t 71) (.c (.bool true)) (.t 79)⟩,
      ⟨some 81, none, .mov (.t 80)⟩,
      ⟨some 82, some (81, false), .mov (.t 5)⟩,
      ⟨some 83, some (81, false), .mov (.t 7)⟩,
      ⟨some 84, some (81, false), .idxS 9 (.t 82) (.t 83)⟩,
      ⟨some 85, some (81, false), .fieldAddr 5 (.t 84)⟩,
      ⟨some 86, some (81, false), .load true 4 (.t 85)⟩,
      ⟨some 87, some (81, false), .load true 4 (.t 10)⟩,
      ⟨some 88, some (81, false), .call F.ref16_SamePlace [.t 86, .t 87]⟩,
      ⟨some 89, some (81, false), .un .not (.t 88)⟩,
      ⟨some 90, none, .pick (.t 81) (.c (.bool true)) (.t 89)⟩]
      [[], [], [0, 1], [2], [3], [], [], [5, 6], [7], [4, 8], [9], [10], [10], [11, 12, 10], [13, 10], [14, 10], [10], [15, 16, 10, 10], [17, 10], [10, 18], [19, 17], [20], [20], [21, 22, 20], [23, 20], [24, 20], [20], [25, 26, 20, 20], [27, 20], [20, 28]]
      [(0, []), (1, []), (2, []), (3, []), (5, []), (6, []), (7, []), (4, []), (8, []), (9, []), (10, []), (11, []), (12, []), (13, []), (14, []), (15, []), (16, []), (17, []), (18, []), (19, []), (20, []), (21, []), (22, []), (23, []), (24, []), (25, []), (26, []), (27, []), (28, []), (29, [])]
      [[], [], [0, 1], [0, 1, 2], [0, 1, 2, 3], [], [], [5, 6], [5, 6, 7], [0, 1, 2, 3, 4, 5, 6, 7, 8], [0, 1, 2, 3, 4, 5, 6, 7, 8, 9], [0, 1, 2, 3, 4, 5, 6, 7, 8, 9, 10], [0, 1, 2, 3, 4, 5, 6, 7, 8, 9, 10], [0, 1, 2, 3, 4, 5, 6, 7, 8, 9, 10, 11, 12], [0, 1, 2, 3, 4, 5, 6, 7, 8, 9, 10, 11, 12, 13], [0, 1, 2, 3, 4, 5, 6, 7, 8, 9, 10, 11, 12, 13, 14], [0, 1, 2, 3, 4, 5, 6, 7, 8, 9, 10], [0, 1, 2, 3, 4, 5, 6, 7, 8, 9, 10, 11, 12, 13, 14, 15, 16], [0, 1, 2, 3, 4, 5, 6, 7, 8, 9, 10, 11, 12, 13, 14, 15, 16, 17], [0, 1, 2, 3, 4, 5, 6, 7, 8, 9, 10, 11, 12, 13, 14, 15, 16, 17, 18], [0, 1, 2, 3, 4, 5, 6, 7, 8, 9, 10, 11, 12, 13, 14, 15, 16, 17, 18, 19], [0, 1, 2, 3, 4, 5, 6, 7, 8, 9, 10, 11, 12, 13, 14, 15, 16, 17, 18, 19, 20], [0, 1, 2, 3, 4, 5, 6, 7, 8, 9, 10, 11, 12, 13, 14, 15, 16, 17, 18, 19, 20], [0, 1, 2, 3, 4, 5, 6, 7, 8, 9, 10, 11, 12, 13, 14, 15, 16, 17, 18, 19, 20, 21, 22], [0, 1, 2, 3, 4, 5, 6, 7, 8, 9, 10, 11, 12, 13, 14, 15, 16, 17, 18, 19, 20, 21, 22, 23], [0, 1, 2, 3, 4, 5, 6, 7, 8, 9, 10, 11, 12, 13, 14, 15, 16, 17, 18, 19, 20, 21, 22, 23, 24], [0, 1, 2, 3, 4, 5, 6, 7, 8, 9, 10, 11, 12, 13, 14, 15, 16, 17, 18, 19, 20], [0, 1, 2, 3, 4, 5, 6, 7, 8, 9, 10, 11, 12, 13, 14, 15, 16, 17, 18, 19, 20, 21, 22, 23, 24, 25, 26], [0, 1, 2, 3, 4, 5, 6, 7, 8, 9, 10, 11, 12, 13, 14, 15, 16, 17, 18, 19, 20, 21, 22, 23, 24, 25, 26, 27], [0, 1, 2, 3, 4, 5, 6, 7, 8, 9, 10, 11, 12, 13, 14, 15, 16, 17, 18, 19, 20, 21, 22, 23, 24, 25, 26, 27, 28]]
      [2, 3, 5, 6, 7, 90])
    (.cond (.t 90)
      (.seq (.region [⟨some 4, none, .mov (.c (.bool false))⟩]
        [4])
      .ret)
      .skip)))) [2, 3, 5, 6, 7])
  (.region [⟨some 41, none, .mov (.t 7)⟩,
    ⟨some 42, none, .bin .add (.t 41) (.c (.int .i64 1))⟩,
    ⟨some 7, none, .mov (.t 42)⟩]
    [2, 3, 5, 6, 7])))
def RC.law22_DiffChanges : RFn := ⟨2, [.slot 4],
  (.seq (.region [⟨some 2, none, .box (.t 0)⟩,
    ⟨some 3, none, .box (.t 1)⟩,
    ⟨some 4, none, .mov (.c (.bool false))⟩]
    [2, 3])
  (.seq (.seq (.region [⟨some 12, none, .load true 3 (.t 2)⟩,
    ⟨some 13, none, .load true 3 (.t 3)⟩,
    ⟨some 14, none, .call F.law22_right [.t 12, .t 13]⟩,
    ⟨some 15, none, .un .not (.t 14)⟩]
    [2, 3, 15])
  (.cond (.t 15)
    (.seq (.region [⟨some 16, none, .call F.law22_awake []⟩,
      ⟨some 4, none, .mov (.t 16)⟩]
      [4])
    .ret)
    .skip))
  (.seq (.region [⟨some 17, none, .load true 3 (.t 2)⟩,
    ⟨some 18, none, .load true 3 (.t 3)⟩,
    ⟨some 19, none, .call F.diff_Changes [.t 17, .t 18]⟩,
    ⟨some 5, none, .mov (.t 19)⟩]
    [2, 3, 5])
  (.seq (.region [⟨some 20, none, .load true 3 (.t 2)⟩,
    ⟨some 21, none, .load true 3 (.t 3)⟩,
    ⟨some 22, none, .call F.ref22_List [.c (.int .i64 4), .t 20, .t 21]⟩,
    ⟨some 6, none, .mov (.t 22)⟩]
    [2, 3, 5, 6])
  (.seq (.seq (.drawn [⟨some 23, none, .mov (.t 5)⟩,
    ⟨some 24, none, .len (.t 23)⟩,
    ⟨some 25, none, .mov (.t 6)⟩,
    ⟨some 26, none, .len (.t 25)⟩,
    ⟨some 27, none, .bin .neq (.t 24) (.t 26)⟩,
    ⟨some 28, none, .mov (.t 27)⟩,
    ⟨some 29, some (28, false), .load true 3 (.t 2)⟩,
    ⟨some 30, some (28, false), .load true 3 (.t 3)⟩,
    ⟨some 31, some (28, false), .call F.diff_Shift [.t 29, .t 30]⟩,
    ⟨some 32, some (28, false), .load true 3 (.t 2)⟩,
    ⟨some 33, some (28, false), .load true 3 (.t 3)⟩,
    ⟨some 34, some (28, false), .call F.ref22_Shift [.t 32, .t 33]⟩,
    ⟨some 35, some (28, false), .bin .neq (.t 31) (.t 34)⟩,
    ⟨some 36, none, .pick (.t 28) (.c (.bool true)) (.t 35)⟩]
    [[], [0], [], [2], [1, 3], [4], [5], [5], [6, 7, 5, 5], [5], [5], [9, 10, 8, 5], [8, 11, 5], [5, 12]]
    [(0, []), (1, []), (2, []), (3, []), (4, []), (5, []), (6, []), (7, []), (9, []), (10, []), (8, [2, 3]), (11, []), (12, []), (13, [])]
    [[], [0], [], [2], [0, 1, 2, 3], [0, 1, 2, 3, 4], [0, 1, 2, 3, 4, 5], [0, 1, 2, 3, 4, 5], [0, 1, 2, 3, 4, 5, 6, 7], [0, 1, 2, 3, 4, 5], [0, 1, 2, 3, 4, 5], [0, 1, 2, 3, 4, 5, 6, 7, 8, 9, 10], [0, 1, 2, 3, 4, 5, 6, 7, 8, 9, 10, 11], [0, 1, 2, 3, 4, 5, 6, 7, 8, 9, 10, 11, 12]]
    [2, 3, 5, 6, 36])
  (.cond (.t 36)
    (.seq (.region [⟨some 4, none, .mov (.c (.bool false))⟩]
      [4])
    .ret)
    .skip))
  (.seq (.seq (.region [⟨some 7, none, .mov (.c (.int .i64 0))⟩]
    [2, 3, 5, 6, 7])
  (.block 0
    (.loop [2, 3, 5, 6, 7] RB.law22_DiffChanges_1) []))
  (.seq (.region [⟨some 91, none, .call F.law22_awake []⟩,
    ⟨some 4, none, .mov (.t 91)⟩]
    [4])
  .ret)))))))⟩

def RC.law22_DiffSelf : RFn := ⟨2, [.slot 4],
  (.seq (.region [⟨some 2, none, .box (.t 0)⟩,
    ⟨some 3, none, .box (.t 1)⟩,
    ⟨some 4, none, .mov (.c (.bool false))⟩]
    [2, 3])
  (.seq (.seq (.region [⟨some 5, none, .load true 3 (.t 2)⟩,
    ⟨some 6, none, .load true 3 (.t 3)⟩,
    ⟨some 7, none, .call F.law22_right [.t 5, .t 6]⟩,
    ⟨some 8, none, .un .not (.t 7)⟩]
    [2, 3, 8])
  (.cond (.t 8)
    (.seq (.region [⟨some 9, none, .call F.law22_awake []⟩,
      ⟨some 4, none, .mov (.t 9)⟩]
      [4])
    .ret)
    .skip))
  (.seq (.drawn [⟨some 10, none, .load true 3 (.t 2)⟩,
    ⟨some 11, none, .load true 3 (.t 2)⟩,
    ⟨some 12, none, .call F.diff_Moved [.t 10, .t 11]⟩,
    ⟨some 13, none, .len (.t 12)⟩,
    ⟨some 14, none, .bin .eql (.t 13) (.c (.int .i64 0))⟩,
    ⟨some 15, none, .mov (.t 14)⟩,
    ⟨some 16, some (15, true), .load true 3 (.t 2)⟩,
    ⟨some 17, some (15, true), .load true 3 (.t 2)⟩,
    ⟨some 18, some (15, true), .call F.diff_Changes [.t 16, .t 17]⟩,
    ⟨some 19, some (15, true), .len (.t 18)⟩,
    ⟨some 20, some (15, true), .bin .eql (.t 19) (.c (.int .i64 0))⟩,
    ⟨some 21, none, .pick (.t 15) (.t 20) (.c (.bool false))⟩,
    ⟨some 22, none, .mov (.t 21)⟩,
    ⟨some 23, some (22, true), .load true 3 (.t 2)⟩,
    ⟨some 24, some (22, true), .load true 3 (.t 2)⟩,
    ⟨some 25, some (22, true), .call F.diff_Shift [.t 23, .t 24]⟩,
    ⟨some 26, some (22, true), .bin .eql (.t 25) (.c (.int .i64 0))⟩,
    ⟨some 27, none, .pick (.t 22) (.t 26) (.c (.bool false))⟩,
    ⟨some 28, none, .mov (.t 27)⟩,
    ⟨some 29, some (28, true), .load true 3 (.t 2)⟩,
    ⟨some 30, some (28, true), .load true 3 (.t 3)⟩,
    ⟨some 31, some (28, true), .call F.diff_Moved [.t 29, .t 30]⟩,
    ⟨some 32, some (28, true), .load true 3 (.t 3)⟩,
    ⟨some 33, some (28, true), .load true 3 (.t 2)⟩,
    ⟨some 34, some (28, true), .call F.diff_Moved [.t 32, .t 33]⟩,
    ⟨some 35, some (28, true), .call F.ref03_Same [.t 31, .t 34]⟩,
    ⟨some 36, none, .pick (.t 28) (.t 35) (.c (.bool false))⟩,
    ⟨some 37, none, .mov (.t 36)⟩,
    ⟨some 38, some (37, true), .load true 3 (.t 2)⟩,
    ⟨some 39, some (37, true), .load true 3 (.t 3)⟩,
    ⟨some 40, some (37, true), .call F.diff_Came [.t 38, .t 39]⟩,
    ⟨some 41, some (37, true), .load true 3 (.t 3)⟩,
    ⟨some 42, some (37, true), .load true 3 (.t 2)⟩,
    ⟨some 43, some (37, true), .call F.diff_Gone [.t 41, .t 42]⟩,
    ⟨some 44, some (37, true), .call F.ref03_Same [.t 40, .t 43]⟩,
    ⟨some 45, none, .pick (.t 37) (.t 44) (.c (.bool false))⟩,
    ⟨some 46, none, .mov (.t 45)⟩,
    ⟨some 47, some (46, true), .load true 3 (.t 2)⟩,
    ⟨some 48, some (46, true), .load true 3 (.t 3)⟩,
    ⟨some 49, some (46, true), .call F.diff_Shift [.t 47, .t 48]⟩,
    ⟨some 50, some (46, true), .load true 3 (.t 3)⟩,
    ⟨some 51, some (46, true), .load true 3 (.t 2)⟩,
    ⟨some 52, some (46, true), .call F.diff_Shift [.t 50, .t 51]⟩,
    ⟨some 53, some (46, true), .bin .eql (.t 49) (.t 52)⟩,
    ⟨some 54, none, .pick (.t 46) (.t 53) (.c (.bool false))⟩,
    ⟨some 55, none, .mov (.t 54)⟩,
    ⟨some 56, some (55, true), .call F.law22_awake []⟩,
    ⟨some 57, none, .pick (.t 55) (.t 56) (.c (.bool false))⟩,
    ⟨some 4, none, .mov (.t 57)⟩]
    [[], [], [0, 1], [2], [3], [4, 2], [5], [5], [6, 7, 5, 5], [8, 5], [9, 5], [5, 10], [11, 8], [12], [12], [13, 14, 12, 12], [15, 12], [12, 16], [17, 15], [18], [18], [19, 20, 18, 18], [18], [18], [22, 23, 21, 18], [21, 24, 24, 18], [18, 25], [26, 25], [27], [27], [28, 29, 27, 27], [27], [27], [31, 32, 30, 27], [30, 33, 33, 27], [27, 34], [35, 34], [36], [36], [37, 38, 36, 36], [36], [36], [40, 41, 39, 36], [39, 42, 36], [36, 43], [44, 42], [45, 45], [45, 46], [47, 46, 0, 1, 2, 3, 4, 5, 6, 7, 8, 9, 10, 11, 12, 13, 14, 15, 16, 17, 18, 19, 20, 21, 22, 23, 24, 25, 26, 27, 28, 29, 30, 31, 32, 33, 34, 35, 36, 37, 38, 39, 40, 41, 42, 43, 44, 45, 46, 47]]
    [(0, []), (1, []), (2, []), (3, []), (4, []), (5, []), (6, []), (7, []), (8, []), (9, []), (10, []), (11, []), (12, []), (13, []), (14, []), (15, []), (16, []), (17, []), (18, []), (19, []), (20, []), (22, []), (23, []), (21, [3, 2]), (24, []), (25, []), (26, []), (27, []), (28, []), (29, []), (31, []), (32, []), (30, [3, 2]), (33, []), (34, []), (35, []), (36, []), (37, []), (38, []), (40, []), (41, []), (39, [3, 2]), (42, []), (43, []), (44, []), (45, []), (46, []), (47, []), (48, [])]
    [[], [], [0, 1], [0, 1, 2], [0, 1, 2, 3], [0, 1, 2, 3, 4], [0, 1, 2, 3, 4, 5], [0, 1, 2, 3, 4, 5], [0, 1, 2, 3, 4, 5, 6, 7], [0, 1, 2, 3, 4, 5, 6, 7, 8], [0, 1, 2, 3, 4, 5, 6, 7, 8, 9], [0, 1, 2, 3, 4, 5, 6, 7, 8, 9, 10], [0, 1, 2, 3, 4, 5, 6, 7, 8, 9, 10, 11], [0, 1, 2, 3, 4, 5, 6, 7, 8, 9, 10, 11, 12], [0, 1, 2, 3, 4, 5, 6, 7, 8, 9, 10, 11, 12], [0, 1, 2, 3, 4, 5, 6, 7, 8, 9, 10, 11, 12, 13, 14], [0, 1, 2, 3, 4, 5, 6, 7, 8, 9, 10, 11, 12, 13, 14, 15], [0, 1, 2, 3, 4, 5, 6, 7, 8, 9, 10, 11, 12, 13, 14, 15, 16], [0, 1, 2, 3, 4, 5, 6, 7, 8, 9, 10, 11, 12, 13, 14, 15, 16, 17], [0, 1, 2, 3, 4, 5, 6, 7, 8, 9, 10, 11, 12, 13, 14, 15, 16, 17, 18], [0, 1, 2, 3, 4, 5, 6, 7, 8, 9, 10, 11, 12, 13, 14, 15, 16, 17, 18], [0, 1, 2, 3, 4, 5, 6, 7, 8, 9, 10, 11, 12, 13, 14, 15, 16, 17, 18, 19, 20], [0, 1, 2, 3, 4, 5, 6, 7, 8, 9, 10, 11, 12, 13, 14, 15, 16, 17, 18], [0, 1, 2, 3, 4, 5, 6, 7, 8, 9, 10, 11, 12, 13, 14, 15, 16, 17, 18], [0, 1, 2, 3, 4, 5, 6, 7, 8, 9, 10, 11, 12, 13, 14, 15, 16, 17, 18, 19, 20, 21, 22, 23], [0, 1, 2, 3, 4, 5, 6, 7, 8, 9, 10, 11, 12, 13, 14, 15, 16, 17, 18, 19, 20, 21, 22, 23, 24], [0, 1, 2, 3, 4, 5, 6, 7, 8, 9, 10, 11, 12, 13, 14, 15, 16, 17, 18, 19, 20, 21, 22, 23, 24, 25], [0, 1, 2, 3, 4, 5, 6, 7, 8, 9, 10, 11, 12, 13, 14, 15, 16, 17, 18, 19, 20, 21, 22, 23, 24, 25, 26], [0, 1, 2, 3, 4, 5, 6, 7, 8, 9, 10, 11, 12, 13, 14, 15, 16, 17, 18, 19, 20, 21, 22, 23, 24, 25, 26, 27], [0, 1, 2, 3, 4, 5, 6, 7, 8, 9, 10, 11, 12, 13, 14, 15, 16, 17, 18, 19, 20, 21, 22, 23, 24, 25, 26, 27], [0, 1, 2, 3, 4, 5, 6, 7, 8, 9, 10, 11, 12, 13, 14, 15, 16, 17, 18, 19, 20, 21, 22, 23, 24, 25, 26, 27, 28, 29], [0, 1, 2, 3, 4, 5, 6, 7, 8, 9, 10, 11, 12, 13, 14, 15, 16, 17, 18, 19, 20, 21, 22, 23, 24, 25, 26, 27], [0, 1, 2, 3, 4, 5, 6, 7, 8, 9, 10, 11, 12, 13, 14, 15, 16, 17, 18, 19, 20, 21, 22, 23, 24, 25, 26, 27], [0, 1, 2, 3, 4, 5, 6, 7, 8, 9, 10, 11, 12, 13, 14, 15, 16, 17, 18, 19, 20, 21, 22, 23, 24, 25, 26, 27, 28, 29, 30, 31, 32], [0, 1, 2, 3, 4, 5, 6, 7, 8, 9, 10, 11, 12, 13, 14, 15, 16, 17, 18, 19, 20, 21, 22, 23, 24, 25, 26, 27, 28, 29, 30, 31, 32, 33], [0, 1, 2, 3, 4, 5, 6, 7, 8, 9, 10, 11, 12, 13, 14, 15, 16, 17, 18, 19, 20, 21, 22, 23, 24, 25, 26, 27, 28, 29, 30, 31, 32, 33, 34], [0, 1, 2, 3, 4, 5, 6, 7, 8, 9, 10, 11, 12, 13, 14, 15, 16, 17, 18, 19, 20, 21, 22, 23, 24, 25, 26, 27, 28, 29, 30, 31, 32, 33, 34, 35], [0, 1, 2, 3, 4, 5, 6, 7, 8, 9, 10, 11, 12, 13, 14, 15, 16, 17, 18, 19, 20, 21, 22, 23, 24, 25, 26, 27, 28, 29, 30, 31, 32, 33, 34, 35, 36], [0, 1, 2, 3, 4, 5, 6, 7, 8, 9, 10, 11, 12, 13, 14, 15, 16, 17, 18, 19, 20, 21, 22, 23, 24, 25, 26, 27, 28, 29, 30, 31, 32, 33, 34, 35, 36], [0, 1, 2, 3, 4, 5, 6, 7, 8, 9, 10, 11, 12, 13, 14, 15, 16, 17, 18, 19, 20, 21, 22, 23, 24, 25, 26, 27, 28, 29, 30, 31, 32, 33, 34, 35, 36, 37, 38], [0, 1, 2, 3, 4, 5, 6, 7, 8, 9, 10, 11, 12, 13, 14, 15, 16, 17, 18, 19, 20, 21, 22, 23, 24, 25, 26, 27, 28, 29, 30, 31, 32, 33, 34, 35, 36], [0, 1, 2, 3, 4, 5, 6, 7, 8, 9, 10, 11, 12, 13, 14, 15, 16, 17, 18, 19, 20, 21, 22, 23, 24, 25, 26, 27, 28, 29, 30, 31, 32, 33, 34, 35, 36], [0, 1, 2, 3, 4, 5, 6, 7, 8, 9, 10, 11, 12, 13, 14, 15, 16, 17, 18, 19, 20, 21, 22, 23, 24, 25, 26, 27, 28, 29, 30, 31, 32, 33, 34, 35, 36, 37, 38, 39, 40, 41], [0, 1, 2, 3, 4, 5, 6, 7, 8, 9, 10, 11, 12, 13, 14, 15, 16, 17, 18, 19, 20, 21, 22, 23, 24, 25, 26, 27, 28, 29, 30, 31, 32, 33, 34, 35, 36, 37, 38, 39, 40, 41, 42], [0, 1, 2, 3, 4, 5, 6, 7, 8, 9, 10, 11, 12, 13, 14, 15, 16, 17, 18, 19, 20, 21, 22, 23, 24, 25, 26, 27, 28, 29, 30, 31, 32, 33, 34, 35, 36, 37, 38, 39, 40, 41, 42, 43], [0, 1, 2, 3, 4, 5, 6, 7, 8, 9, 10, 11, 12, 13, 14, 15, 16, 17, 18, 19, 20, 21, 22, 23, 24, 25, 26, 27, 28, 29, 30, 31, 32, 33, 34, 35, 36, 37, 38, 39, 40, 41, 42, 43, 44], [0, 1, 2, 3, 4, 5, 6, 7, 8, 9, 10, 11, 12, 13, 14, 15, 16, 17, 18, 19, 20, 21, 22, 23, 24, 25, 26, 27, 28, 29, 30, 31, 32, 33, 34, 35, 36, 37, 38, 39, 40, 41, 42, 43, 44, 45], [0, 1, 2, 3, 4, 5, 6, 7, 8, 9, 10, 11, 12, 13, 14, 15, 16, 17, 18, 19, 20, 21, 22, 23, 24, 25, 26, 27, 28, 29, 30, 31, 32, 33, 34, 35, 36, 37, 38, 39, 40, 41, 42, 43, 44, 45, 46], [0, 1, 2, 3, 4, 5, 6, 7, 8, 9, 10, 11, 12, 13, 14, 15, 16, 17, 18, 19, 20, 21, 22, 23, 24, 25, 26, 27, 28, 29, 30, 31, 32, 33, 34, 35, 36, 37, 38, 39, 40, 41, 42, 43, 44, 45, 46, 47]]
    [4])
  .ret)))⟩

def RC.law22_DiffLists : RFn := ⟨2, [.slot 4],
  (.seq (.region [⟨some 2, none, .box (.t 0)⟩,
    ⟨some 3, none, .box (.t 1)⟩,
    ⟨some 4, none, .mov (.c (.bool false))⟩]
    [2, 3])
  (.seq (.seq (.region [⟨some 5, none, .load true 3 (.t 2)⟩,
    ⟨some 6, none, .load true 3 (.t 3)⟩,
    ⟨some 7, none, .call F.law22_right [.t 5, .t 6]⟩,
    ⟨some 8, none, .un .not (.t 7)⟩]
    [2, 3, 8])
  (.cond (.t 8)
    (.seq (.region [⟨some 9, none, .call F.law22_awake []⟩,
      ⟨some 4, none, .mov (.t 9)⟩]
      [4])
    .ret)
    .skip))
  (.seq (.drawn [⟨some 10, none, .load true 3 (.t 2)⟩,
    ⟨some 11, none, .load true 3 (.t 3)⟩,
    ⟨some 12, none, .call F.diff_Moved [.t 10, .t 11]⟩,
    ⟨some 13, none, .load true 3 (.t 2)⟩,
    ⟨some 14, none, .load true 3 (.t 3)⟩,
    ⟨some 15, none, .call F.ref22_List [.c (.int .i64 0), .t 13, .t 14]⟩,
    ⟨some 16, none, .call F.ref03_Same [.t 12, .t 15]⟩,
    ⟨some 17, none, .mov (.t 16)⟩,
    ⟨some 18, some (17, true), .load true 3 (.t 2)⟩,
    ⟨some 19, some (17, true), .load true 3 (.t 3)⟩,
    ⟨some 20, some (17, true), .call F.diff_Came [.t 18, .t 19]⟩,
    ⟨some 21, some (17, true), .load true 3 (.t 2)⟩,
    ⟨some 22, some (17, true), .load true 3 (.t 3)⟩,
    ⟨some 23, some (17, true), .call F.ref22_List [.c (.int .i64 1), .t 21, .t 22]⟩,
    ⟨some 24, some (17, true), .call F.ref03_Same [.t 20, .t 23]⟩,
    ⟨some 25, none, .pick (.t 17) (.t 24) (.c (.bool false))⟩,
    ⟨some 26, none, .mov (.t 25)⟩,
    ⟨some 27, some (26, true), .load true 3 (.t 2)⟩,
    ⟨some 28, some (26, true), .load true 3 (.t 3)⟩,
    ⟨some 29, some (26, true), .call F.diff_Gone [.t 27, .t 28]⟩,
    ⟨some 30, some (26, true), .load true 3 (.t 2)⟩,
    ⟨some 31, some (26, true), .load true 3 (.t 3)⟩,
    ⟨some 32, some (26, true), .call F.ref22_List [.c (.int .i64 2), .t 30, .t 31]⟩,
    ⟨some 33, some (26, true), .call F.ref03_Same [.t 29, .t 32]⟩,
    ⟨some 34, none, .pick (.t 26) (.t 33) (.c (.bool false))⟩,
    ⟨some 35, none, .mov (.t 34)⟩,
    ⟨some 36, some (35, true), .load true 3 (.t 2)⟩,
    ⟨some 37, some (35, true), .load true 3 (.t 3)⟩,
    ⟨some 38, some (35, true), .call F.diff_Resized [.t 36, .t 37]⟩,
    ⟨some 39, some (35, true), .load true 3 (.t 2)⟩,
    ⟨some 40, some (35, true), .load true 3 (.t 3)⟩,
    ⟨some 41, some (35, true), .call F.ref22_List [.c (.int .i64 3), .t 39, .t 40]⟩,
    ⟨some 42, some (35, true), .call F.ref03_Same [.t 38, .t 41]⟩,
    ⟨some 43, none, .pick (.t 35) (.t 42) (.c (.bool false))⟩,
    ⟨some 44, none, .mov (.t 43)⟩,
    ⟨some 45, some (44, true), .call F.law22_awake []⟩,
    ⟨some 46, none, .pick (.t 44) (.t 45) (.c (.bool false))⟩,
    ⟨some 4, none, .mov (.t 46)⟩]
    [[], [], [0, 1], [], [], [3, 4, 2], [2, 5, 5], [6, 6], [7], [7], [8, 9, 7, 7], [7], [7], [11, 12, 10, 7], [10, 13, 13, 7], [7, 14], [15, 14], [16], [16], [17, 18, 16, 16], [16], [16], [20, 21, 19, 16], [19, 22, 22, 16], [16, 23], [24, 23], [25], [25], [26, 27, 25, 25], [25], [25], [29, 30, 28, 25], [28, 31, 31, 25], [25, 32], [33, 32], [34, 34], [34, 35], [36, 35, 0, 1, 2, 3, 4, 5, 6, 7, 8, 9, 10, 11, 12, 13, 14, 15, 16, 17, 18, 19, 20, 21, 22, 23, 24, 25, 26, 27, 28, 29, 30, 31, 32, 33, 34, 35, 36]]
    [(0, []), (1, []), (3, []), (4, []), (2, [2, 3]), (5, []), (6, []), (7, []), (8, []), (9, []), (11, []), (12, []), (10, [2, 3]), (13, []), (14, []), (15, []), (16, []), (17, []), (18, []), (20, []), (21, []), (19, [2, 3]), (22, []), (23, []), (24, []), (25, []), (26, []), (27, []), (29, []), (30, []), (28, [2, 3]), (31, []), (32, []), (33, []), (34, []), (35, []), (36, []), (37, [])]
    [[], [], [0, 1], [], [], [0, 1, 2, 3, 4], [0, 1, 2, 3, 4, 5], [0, 1, 2, 3, 4, 5, 6], [0, 1, 2, 3, 4, 5, 6, 7], [0, 1, 2, 3, 4, 5, 6, 7], [0, 1, 2, 3, 4, 5, 6, 7, 8, 9], [0, 1, 2, 3, 4, 5, 6, 7], [0, 1, 2, 3, 4, 5, 6, 7], [0, 1, 2, 3, 4, 5, 6, 7, 8, 9, 10, 11, 12], [0, 1, 2, 3, 4, 5, 6, 7, 8, 9, 10, 11, 12, 13], [0, 1, 2, 3, 4, 5, 6, 7, 8, 9, 10, 11, 12, 13, 14], [0, 1, 2, 3, 4, 5, 6, 7, 8, 9, 10, 11, 12, 13, 14, 15], [0, 1, 2, 3, 4, 5, 6, 7, 8, 9, 10, 11, 12, 13, 14, 15, 16], [0, 1, 2, 3, 4, 5, 6, 7, 8, 9, 10, 11, 12, 13, 14, 15, 16], [0, 1, 2, 3, 4, 5, 6, 7, 8, 9, 10, 11, 12, 13, 14, 15, 16, 17, 18], [0, 1, 2, 3, 4, 5, 6, 7, 8, 9, 10, 11, 12, 13, 14, 15, 16], [0, 1, 2, 3, 4, 5, 6, 7, 8, 9, 10, 11, 12, 13, 14, 15, 16], [0, 1, 2, 3, 4, 5, 6, 7, 8, 9, 10, 11, 12, 13, 14, 15, 16, 17, 18, 19, 20, 21], [0, 1, 2, 3, 4, 5, 6, 7, 8, 9, 10, 11, 12, 13, 14, 15, 16, 17, 18, 19, 20, 21, 22], [0, 1, 2, 3, 4, 5, 6, 7, 8, 9, 10, 11, 12, 13, 14, 15, 16, 17, 18, 19, 20, 21, 22, 23], [0, 1, 2, 3, 4, 5, 6, 7, 8, 9, 10, 11, 12, 13, 14, 15, 16, 17, 18, 19, 20, 21, 22, 23, 24], [0, 1, 2, 3, 4, 5, 6, 7, 8, 9, 10, 11, 12, 13, 14, 15, 16, 17, 18, 19, 20, 21, 22, 23, 24, 25], [0, 1, 2, 3, 4, 5, 6, 7, 8, 9, 10, 11, 12, 13, 14, 15, 16, 17, 18, 19, 20, 21, 22, 23, 24, 25], [0, 1, 2, 3, 4, 5, 6, 7, 8, 9, 10, 11, 12, 13, 14, 15, 16, 17, 18, 19, 20, 21, 22, 23, 24, 25, 26, 27], [0, 1, 2, 3, 4, 5, 6, 7, 8, 9, 10, 11, 12, 13, 14, 15, 16, 17, 18, 19, 20, 21, 22, 23, 24, 25], [0, 1, 2, 3, 4, 5, 6, 7, 8, 9, 10, 11, 12, 13, 14, 15, 16, 17, 18, 19, 20, 21, 22, 23, 24, 25], [0, 1, 2, 3, 4, 5, 6, 7, 8, 9, 10, 11, 12, 13, 14, 15, 16, 17, 18, 19, 20, 21, 22, 23, 24, 25, 26, 27, 28, 29, 30], [0, 1, 2, 3, 4, 5, 6, 7, 8, 9, 10, 11, 12, 13, 14, 15, 16, 17, 18, 19, 20, 21, 22, 23, 24, 25, 26, 27, 28, 29, 30, 31], [0, 1, 2, 3, 4, 5, 6, 7, 8, 9, 10, 11, 12, 13, 14, 15, 16, 17, 18, 19, 20, 21, 22, 23, 24, 25, 26, 27, 28, 29, 30, 31, 32], [0, 1, 2, 3, 4, 5, 6, 7, 8, 9, 10, 11, 12, 13, 14, 15, 16, 17, 18, 19, 20, 21, 22, 23, 24, 25, 26, 27, 28, 29, 30, 31, 32, 33], [0, 1, 2, 3, 4, 5, 6, 7, 8, 9, 10, 11, 12, 13, 14, 15, 16, 17, 18, 19, 20, 21, 22, 23, 24, 25, 26, 27, 28, 29, 30, 31, 32, 33, 34], [0, 1, 2, 3, 4, 5, 6, 7, 8, 9, 10, 11, 12, 13, 14, 15, 16, 17, 18, 19, 20, 21, 22, 23, 24, 25, 26, 27, 28, 29, 30, 31, 32, 33, 34, 35], [0, 1, 2, 3, 4, 5, 6, 7, 8, 9, 10, 11, 12, 13, 14, 15, 16, 17, 18, 19, 20, 21, 22, 23, 24, 25, 26, 27, 28, 29, 30, 31, 32, 33, 34, 35, 36]]
    [4])
  .ret)))⟩

def RC.law22_right : RFn := ⟨2, [.slot 4],
  (.seq (.region [⟨some 2, none, .box (.t 0)⟩,
    ⟨some 3, none, .box (.t 1)⟩,
    ⟨some 4, none, .mov (.c (.bool false))⟩]
    [2, 3])
  (.seq (.region [⟨some 5, none, .load true 3 (.t 2)⟩,
    ⟨some 6, none, .call F.law16_Light [.t 5]⟩,
    ⟨some 7, none, .mov (.t 6)⟩,
    ⟨some 8, some (7, true), .load true 3 (.t 3)⟩,
    ⟨some 9, some (7, true), .call F.law16_Light [.t 8]⟩,
    ⟨some 10, none, .pick (.t 7) (.t 9) (.c (.bool false))⟩,
    ⟨some 11, none, .mov (.t 10)⟩,
    ⟨some 12, some (11, true), .load true 3 (.t 2)⟩,
    ⟨some 13, some (11, true), .call F.ref16_Right [.t 12]⟩,
    ⟨some 14, none, .pick (.t 11) (.t 13) (.c (.bool false))⟩,
    ⟨some 15, none, .mov (.t 14)⟩,
    ⟨some 16, some (15, true), .load true 3 (.t 3)⟩,
    ⟨some 17, some (15, true), .call F.ref16_Right [.t 16]⟩,
    ⟨some 18, none, .pick (.t 15) (.t 17) (.c (.bool false))⟩,
    ⟨some 4, none, .mov (.t 18)⟩]
    [4])
  .ret))⟩

def RC.law22_awake : RFn := ⟨0, [.slot 0],
  (.seq (.region [⟨some 0, none, .mov (.c (.bool false))⟩]
    [])
  (.seq (.region [⟨some 3, none, .build [(.int .i64 0), (.int .i64 0), (.int .i64 0), (.slice none 0 0)] [(0, 1, .c (.int .i64 1)), (1, 1, .c (.int .i64 2))]⟩,
    ⟨some 4, none, .build [(.int .i64 0), (.int .i64 0), (.int .i64 0), (.slice none 0 0)] [(0, 1, .c (.int .i64 2)), (1, 1, .c (.int .i64 1))]⟩,
    ⟨some 5, none, .bslice [(.int .i64 0), (.int .i64 0), (.int .i64 0), (.slice none 0 0), (.int .i64 0), (.int .i64 0), (.int .i64 0), (.slice none 0 0)] [(0, 4, .t 3), (4, 4, .t 4)] 2 4⟩,
    ⟨some 6, none, .build [(.int .i64 0), (u32 0#32), (.slice none 0 0)] [(0, 1, .c (.int .i64 4)), (1, 1, .c (u32 3#32)), (2, 1, .t 5)]⟩,
    ⟨some 1, none, .alloc [(.int .i64 0), (u32 0#32), (.slice none 0 0)]⟩,
    ⟨none, none, .store 3 (.t 1) (.t 6)⟩]
    [1])
  (.seq (.region [⟨some 7, none, .build [(.int .i64 0), (.int .i64 0), (.int .i64 0), (.slice none 0 0)] [(0, 1, .c (.int .i64 1)), (1, 1, .c (.int .i64 2)), (2, 1, .c (.int .i64 1))]⟩,
    ⟨some 8, none, .build [(.int .i64 0), (.int .i64 0), (.int .i64 0), (.slice none 0 0)] [(0, 1, .c (.int .i64 3)), (1, 1, .c (.int .i64 1))]⟩,
    ⟨some 9, none, .bslice [(.int .i64 0), (.int .i64 0), (.int .i64 0), (.slice none 0 0), (.int .i64 0), (.int .i64 0), (.int .i64 0), (.slice none 0 0)] [(0, 4, .t 7), (4, 4, .t 8)] 2 4⟩,
    ⟨some 10, none, .build [(.int .i64 0), (u32 0#32), (.slice none 0 0)] [(0, 1, .c (.int .i64 4)), (1, 1, .c (u32 3#32)), (2, 1, .t 9)]⟩,
    ⟨some 2, none, .alloc [(.int .i64 0), (u32 0#32), (.slice none 0 0)]⟩,
    ⟨none, none, .store 3 (.t 2) (.t 10)⟩]
    [1, 2])
  (.seq (.region [⟨some 11, none, .load true 3 (.t 1)⟩,
    ⟨some 12, none, .load true 3 (.t 2)⟩,
    ⟨some 13, none, .call F.diff_Moved [.t 11, .t 12]⟩,
    ⟨some 14, none, .bslice [(.int .i64 0)] [(0, 1, .c (.int .i64 1))] 1 1⟩,
    ⟨some 15, none, .call F.ref03_Same [.t 13, .t 14]⟩,
    ⟨some 16, none, .mov (.t 15)⟩,
    ⟨some 17, some (16, true), .load true 3 (.t 1)⟩,
    ⟨some 18, some (16, true), .load true 3 (.t 2)⟩,
    ⟨some 19, some (16, true), .call F.diff_Came [.t 17, .t 18]⟩,
    ⟨some 20, some (16, true), .bslice [(.int .i64 0)] [(0, 1, .c (.int .i64 3))] 1 1⟩,
    ⟨some 21, some (16, true), .call F.ref03_Same [.t 19, .t 20]⟩,
    ⟨some 22, none, .pick (.t 16) (.t 21) (.c (.bool false))⟩,
    ⟨some 23, none, .mov (.t 22)⟩,
    ⟨some 24, some (23, true), .load true 3 (.t 1)⟩,
    ⟨some 25, some (23, true), .load true 3 (.t 2)⟩,
    ⟨some 26, some (23, true), .call F.diff_Gone [.t 24, .t 25]⟩,
    ⟨some 27, some (23, true), .bslice [(.int .i64 0)] [(0, 1, .c (.int .i64 2))] 1 1⟩,
    ⟨some 28, some (23, true), .call F.ref03_Same [.t 26, .t 27]⟩,
    ⟨some 29, none, .pick (.t 23) (.t 28) (.c (.bool false))⟩,
    ⟨some 30, none, .mov (.t 29)⟩,
    ⟨some 31, some (30, true), .load true 3 (.t 1)⟩,
    ⟨some 32, some (30, true), .load true 3 (.t 2)⟩,
    ⟨some 33, some (30, true), .call F.diff_Shift [.t 31, .t 32]⟩,
    ⟨some 34, some (30, true), .bin .eql (.t 33) (.c (.int .i64 0))⟩,
    ⟨some 35, none, .pick (.t 30) (.t 34) (.c (.bool false))⟩,
    ⟨some 36, none, .mov (.t 35)⟩,
    ⟨some 37, some (36, true), .load true 3 (.t 1)⟩,
    ⟨some 38, some (36, true), .load true 3 (.t 2)⟩,
    ⟨some 39, some (36, true), .call F.diff_Changes [.t 37, .t 38]⟩,
    ⟨some 40, some (36, true), .len (.t 39)⟩,
    ⟨some 41, some (36, true), .bin .eql (.t 40) (.c (.int .i64 3))⟩,
    ⟨some 42, none, .pick (.t 36) (.t 41) (.c (.bool false))⟩,
    ⟨some 0, none, .mov (.t 42)⟩]
    [0])
  .ret))))⟩

def RB.diff_Changes_1 : RCode :=
  (.seq (.region [⟨some 19, none, .bin .lss (.t 18) (.t 17)⟩]
    [5, 6, 7, 16, 17, 18, 19])
  (.seq (.cond (.t 19)
    .skip
    (.exit 0))
  (.seq (.block 1
    (.seq (.region [⟨some 20, none, .idxS 1 (.t 16) (.t 18)⟩,
      ⟨some 21, none, .load false 1 (.t 20)⟩,
      ⟨some 9, none, .mov (.t 21)⟩]
      [5, 6, 7, 9, 16, 17, 18])
    (.drawn [⟨some 22, none, .mov (.t 7)⟩,
      ⟨some 23, none, .mov (.t 9)⟩,
      ⟨some 24, none, .mov (.t 5)⟩,
      ⟨some 25, none, .mov (.t 9)⟩,
      ⟨some 26, none, .look .int (.agg #[(.int .i64 0), (.int .i64 0), (.int .i64 0), (.slice none 0 0)]) false (.t 24) (.t 25)⟩,
      ⟨some 27, none, .call F.diff_clone [.t 26]⟩,
      ⟨some 28, none, .mov (.t 6)⟩,
      ⟨some 29, none, .mov (.t 9)⟩,
      ⟨some 30, none, .look .int (.agg #[(.int .i64 0), (.int .i64 0), (.int .i64 0), (.slice none 0 0)]) false (.t 28) (.t 29)⟩,
      ⟨some 31, none, .call F.diff_clone [.t 30]⟩,
      ⟨some 32, none, .build [(.int .i64 0), (.int .i64 0), (.int .i64 0), (.int .i64 0), (.slice none 0 0), (.int .i64 0), (.int .i64 0), (.int .i64 0), (.slice none 0 0)] [(0, 1, .t 23), (1, 4, .t 27), (5, 4, .t 31)]⟩,
      ⟨some 33, none, .bslice [(.int .i64 0), (.int .i64 0), (.int .i64 0), (.int .i64 0), (.slice none 0 0), (.int .i64 0), (.int .i64 0), (.int .i64 0), (.slice none 0 0)] [(0, 9, .t 32)] 1 9⟩,
      ⟨some 34, none, .app 9 104 (.t 22) (.t 33)⟩,
      ⟨some 7, none, .mov (.t 34)⟩]
      [[], [], [], [], [2, 3], [4], [], [], [6, 7], [8, 5], [1, 5, 9], [10], [0, 11, 9], [12, 12, 0, 1, 2, 3, 4, 5, 6, 7, 8, 9, 10, 11, 12]]
      [(0, []), (1, []), (2, []), (3, []), (6, []), (7, []), (4, []), (8, []), (5, [28]), (9, []), (10, []), (11, []), (12, []), (13, [])]
      [[], [], [], [], [2, 3], [2, 3, 4], [], [], [6, 7], [2, 3, 4, 5, 6, 7, 8], [1, 2, 3, 4, 5, 6, 7, 8, 9], [1, 2, 3, 4, 5, 6, 7, 8, 9, 10], [0, 1, 2, 3, 4, 5, 6, 7, 8, 9, 10, 11], [0, 1, 2, 3, 4, 5, 6, 7, 8, 9, 10, 11, 12]]
      [5, 6, 7, 16, 17, 18])) [5, 6, 7, 16, 17, 18])
  (.region [⟨some 35, none, .bin .add (.t 18) (.c (.int .i64 1))⟩,
    ⟨some 18, none, .mov (.t 35)⟩]
    [5, 6, 7, 16, 17, 18]))))
def RC.diff_Changes : RFn := ⟨2, [.slot 4],
  (.seq (.region [⟨some 2, none, .box (.t 0)⟩,
    ⟨some 3, none, .box (.t 1)⟩,
    ⟨some 4, none, .mov (.c (.slice none 0 0))⟩]
    [2, 3])
  (.seq (.drawn [⟨some 10, none, .load true 3 (.t 2)⟩,
    ⟨some 11, none, .call F.diff_places [.t 10]⟩,
    ⟨some 12, none, .load true 3 (.t 3)⟩,
    ⟨some 13, none, .call F.diff_places [.t 12]⟩,
    ⟨some 5, none, .mov (.t 11)⟩,
    ⟨some 6, none, .mov (.t 13)⟩]
    [[], [0], [], [2, 1], [1, 3, 0, 1], [3, 4, 0, 1, 2, 3, 4]]
    [(0, []), (2, []), (1, [3]), (3, []), (4, []), (5, [])]
    [[], [0], [], [0, 1, 2], [0, 1, 2, 3], [0, 1, 2, 3, 4]]
    [2, 3, 5, 6])
  (.seq (.region [⟨some 7, none, .mov (.c (.slice none 0 0))⟩]
    [2, 3, 5, 6, 7])
  (.seq (.seq (.region [⟨some 14, none, .load true 3 (.t 2)⟩,
    ⟨some 15, none, .load true 3 (.t 3)⟩,
    ⟨some 16, none, .call F.diff_some [.t 14, .t 15, .f F.diff_Changes_1]⟩,
    ⟨some 17, none, .len (.t 16)⟩,
    ⟨some 18, none, .mov (.c (.int .i64 0))⟩]
    [5, 6, 7, 16, 17, 18])
  (.block 0
    (.loop [5, 6, 7, 16, 17, 18] RB.diff_Changes_1) [7]))
  (.seq (.region [⟨some 36, none, .mov (.t 7)⟩,
    ⟨some 4, none, .mov (.t 36)⟩]
    [4])
  .ret)))))⟩

def RB.ref22_List_1 : RCode :=
  (.seq (.seq (.region [⟨some 19, none, .mov (.t 9)⟩,
    ⟨some 20, none, .mov (.t 8)⟩,
    ⟨some 21, none, .len (.t 20)⟩,
    ⟨some 22, none, .bin .lss (.t 19) (.t 21)⟩]
    [0, 4, 5, 7, 8, 9, 22])
  (.cond (.t 22)
    .skip
    (.exit 0)))
  (.seq (.block 1
    (.seq (.drawn [⟨some 26, none, .load true 3 (.t 4)⟩,
      ⟨some 27, none, .mov (.t 8)⟩,
      ⟨some 28, none, .mov (.t 9)⟩,
      ⟨some 29, none, .idxS 1 (.t 27) (.t 28)⟩,
      ⟨some 30, none, .load false 1 (.t 29)⟩,
      ⟨some 31, none, .call F.ref16_Find [.t 26, .t 30]⟩,
      ⟨some 25, none, .mov (.t 31)⟩,
      ⟨some 32, none, .ext 0 (.t 25)⟩,
      ⟨some 33, none, .ext 1 (.t 25)⟩,
      ⟨some 10, none, .alloc [(.int .i64 0), (.int .i64 0), (.int .i64 0), (.slice none 0 0)]⟩,
      ⟨none, none, .store 4 (.t 10) (.t 32)⟩,
      ⟨some 11, none, .mov (.t 33)⟩]
      [[], [], [], [1, 2], [3], [0, 4], [5], [6], [6], [], [9, 7, 5, 0, 1, 2, 3, 4, 5, 6, 7, 9], [8, 10, 0, 1, 2, 3, 4, 5, 6, 7, 8, 9, 10]]
      [(1, []), (2, []), (3, []), (0, []), (4, []), (5, []), (6, []), (7, []), (8, []), (9, []), (10, []), (11, [])]
      [[], [], [], [1, 2], [1, 2, 3], [0, 1, 2, 3, 4], [0, 1, 2, 3, 4, 5], [0, 1, 2, 3, 4, 5, 6], [0, 1, 2, 3, 4, 5, 6], [], [0, 1, 2, 3, 4, 5, 6, 7, 9], [0, 1, 2, 3, 4, 5, 6, 7, 8, 9, 10]]
      [0, 4, 5, 7, 8, 9, 10, 11])
    (.seq (.drawn [⟨some 35, none, .load true 3 (.t 5)⟩,
      ⟨some 36, none, .mov (.t 8)⟩,
      ⟨some 37, none, .mov (.t 9)⟩,
      ⟨some 38, none, .idxS 1 (.t 36) (.t 37)⟩,
      ⟨some 39, none, .load false 1 (.t 38)⟩,
      ⟨some 40, none, .call F.ref16_Find [.t 35, .t 39]⟩,
      ⟨some 34, none, .mov (.t 40)⟩,
      ⟨some 41, none, .ext 0 (.t 34)⟩,
      ⟨some 42, none, .ext 1 (.t 34)⟩,
      ⟨some 12, none, .alloc [(.int .i64 0), (.int .i64 0), (.int .i64 0), (.slice none 0 0)]⟩,
      ⟨none, none, .store 4 (.t 12) (.t 41)⟩,
      ⟨some 13, none, .mov (.t 42)⟩]
      [[], [], [], [1, 2], [3], [0, 4], [5], [6], [6], [], [9, 7, 5, 0, 1, 2, 3, 4, 5, 6, 7, 9], [8, 10, 0, 1, 2, 3, 4, 5, 6, 7, 8, 9, 10]]
      [(1, []), (2, []), (3, []), (0, []), (4, []), (5, []), (6, []), (7, []), (8, []), (9, []), (10, []), (11, [])]
      [[], [], [], [1, 2], [1, 2, 3], [0, 1, 2, 3, 4], [0, 1, 2, 3, 4, 5], [0, 1, 2, 3, 4, 5, 6], [0, 1, 2, 3, 4, 5, 6], [], [0, 1, 2, 3, 4, 5, 6, 7, 9], [0, 1, 2, 3, 4, 5, 6, 7, 8, 9, 10]]
      [0, 4, 5, 7, 8, 9, 10, 11, 12, 13])
    (.seq (.region [⟨some 14, none, .mov (.c (.bool false))⟩]
      [0, 4, 5, 7, 8, 9, 10, 11, 12, 13])
    (.seq (.seq (.region [⟨some 43, none, .mov (.t 0)⟩]
      [0, 4, 5, 7, 8, 9, 10, 11, 12, 13, 43])
    (.block 2
      (.seq (.region [⟨some 49, none, .bin .eql (.t 43) (.c (.int .i64 0))⟩,
        ⟨some 48, none, .mov (.t 49)⟩]
        [0, 4, 5, 7, 8, 9, 10, 11, 12, 13, 43, 48])
      (.cond (.t 48)
        (.region [⟨some 50, none, .mov (.t 11)⟩,
          ⟨some 51, none, .mov (.t 50)⟩,
          ⟨some 52, some (51, true), .mov (.t 13)⟩,
          ⟨some 53, none, .pick (.t 51) (.t 52) (.c (.bool false))⟩,
          ⟨some 54, none, .mov (.t 53)⟩,
          ⟨some 55, some (54, true), .load true 4 (.t 10)⟩,
          ⟨some 56, some (54, true), .load true 4 (.t 12)⟩,
          ⟨some 57, some (54, true), .call F.ref22_Moved [.t 55, .t 56]⟩,
          ⟨some 58, none, .pick (.t 54) (.t 57) (.c (.bool false))⟩,
          ⟨some 14, none, .mov (.t 58)⟩]
          [0, 4, 5, 7, 8, 9, 14])
        (.seq (.region [⟨some 60, none, .bin .eql (.t 43) (.c (.int .i64 1))⟩,
          ⟨some 59, none, .mov (.t 60)⟩]
          [0, 4, 5, 7, 8, 9, 10, 11, 12, 13, 43, 59])
        (.cond (.t 59)
          (.region [⟨some 61, none, .mov (.t 11)⟩,
            ⟨some 62, none, .un .not (.t 61)⟩,
            ⟨some 14, none, .mov (.t 62)⟩]
            [0, 4, 5, 7, 8, 9, 14])
          (.seq (.region [⟨some 64, none, .bin .eql (.t 43) (.c (.int .i64 2))⟩,
            ⟨some 63, none, .mov (.t 64)⟩]
            [0, 4, 5, 7, 8, 9, 10, 11, 12, 13, 43, 63])
          (.cond (.t 63)
            (.region [⟨some 65, none, .mov (.t 13)⟩,
              ⟨some 66, none, .un .not (.t 65)⟩,
              ⟨some 14, none, .mov (.t 66)⟩]
              [0, 4, 5, 7, 8, 9, 14])
            (.seq (.region [⟨some 68, none, .bin .eql (.t 43) (.c (.int .i64 3))⟩,
              ⟨some 67, none, .mov (.t 68)⟩]
              [0, 4, 5, 7, 8, 9, 10, 11, 12, 13, 67])
            (.cond (.t 67)
              (.region [⟨some 69, none, .mov (.t 11)⟩,
                ⟨some 70, none, .mov (.t 69)⟩,
                ⟨some 71, some (70, true), .mov (.t 13)⟩,
                ⟨some 72, none, .pick (.t 70) (.t 71) (.c (.bool false))⟩,
                ⟨some 73, none, .mov (.t 72)⟩,
                ⟨some 74, some (73, true), .fieldAddr 1 (.t 10)⟩,
                ⟨some 75, some (73, true), .load false 1 (.t 74)⟩,
                ⟨some 76, some (73, true), .fieldAddr 1 (.t 12)⟩,
                ⟨some 77, some (73, true), .load false 1 (.t 76)⟩,
                ⟨some 78, some (73, true), .bin .neq (.t 75) (.t 77)⟩,
                ⟨some 79, none, .pick (.t 73) (.t 78) (.c (.bool false))⟩,
                ⟨some 14, none, .mov (.t 79)⟩]
                [0, 4, 5, 7, 8, 9, 14])
              (.region [⟨some 44, none, .load true 4 (.t 10)⟩,
                ⟨some 45, none, .load true 4 (.t 12)⟩,
                ⟨some 46, none, .call F.ref16_SamePlace [.t 44, .t 45]⟩,
                ⟨some 47, none, .un .not (.t 46)⟩,
                ⟨some 14, none, .mov (.t 47)⟩]
                [0, 4, 5, 7, 8, 9, 14]))))))))) [0, 4, 5, 7, 8, 9, 14]))
    (.seq (.region [⟨some 80, none, .mov (.t 14)⟩]
      [0, 4, 5, 7, 8, 9, 80])
    (.cond (.t 80)
      (.region [⟨some 81, none, .mov (.t 7)⟩,
        ⟨some 82, none, .mov (.t 8)⟩,
        ⟨some 83, none, .mov (.t 9)⟩,
        ⟨some 84, none, .idxS 1 (.t 82) (.t 83)⟩,
        ⟨some 85, none, .load false 1 (.t 84)⟩,
        ⟨some 86, none, .bslice [(.int .i64 0)] [(0, 1, .t 85)] 1 1⟩,
        ⟨some 87, none, .app 1 8 (.t 81) (.t 86)⟩,
        ⟨some 7, none, .mov (.t 87)⟩]
        [0, 4, 5, 7, 8, 9])
      .skip)))))) [0, 4, 5, 7, 8, 9])
  (.region [⟨some 23, none, .mov (.t 9)⟩,
    ⟨some 24, none, .bin .add (.t 23) (.c (.int .i64 1))⟩,
    ⟨some 9, none, .mov (.t 24)⟩]
    [0, 4, 5, 7, 8, 9])))
def RC.ref22_List : RFn := ⟨3, [.slot 6],
  (.seq (.region [⟨some 4, none, .box (.t 1)⟩,
    ⟨some 5, none, .box (.t 2)⟩,
    ⟨some 6, none, .mov (.c (.slice none 0 0))⟩]
    [0, 4, 5])
  (.seq (.region [⟨some 15, none, .bslice [] [] 0 1⟩,
    ⟨some 7, none, .mov (.t 15)⟩]
    [0, 4, 5, 7])
  (.seq (.region [⟨some 16, none, .load true 3 (.t 4)⟩,
    ⟨some 17, none, .load true 3 (.t 5)⟩,
    ⟨some 18, none, .call F.ref22_Units [.t 16, .t 17]⟩,
    ⟨some 8, none, .mov (.t 18)⟩]
    [0, 4, 5, 7, 8])
  (.seq (.seq (.region [⟨some 9, none, .mov (.c (.int .i64 0))⟩]
    [0, 4, 5, 7, 8, 9])
  (.block 0
    (.loop [0, 4, 5, 7, 8, 9] RB.ref22_List_1) [7]))
  (.seq (.region [⟨some 88, none, .mov (.t 7)⟩,
    ⟨some 6, none, .mov (.t 88)⟩]
    [6])
  .ret)))))⟩

def RB.diff_Shift_1 : RCode :=
  (.seq (.region [⟨some 18, none, .bin .lss (.t 17) (.c (.int .i64 16))⟩]
    [5, 7, 11, 12, 13, 17, 18])
  (.seq (.cond (.t 18)
    .skip
    (.exit 2))
  (.seq (.block 3
    (.seq (.region [⟨some 19, none, .mov (.t 17)⟩,
      ⟨some 8, none, .mov (.t 19)⟩]
      [5, 7, 8, 11, 12, 13, 17])
    (.drawn [⟨some 20, none, .mov (.t 5)⟩,
      ⟨some 21, none, .fieldAddr 1 (.t 7)⟩,
      ⟨some 22, none, .load true 4 (.t 21)⟩,
      ⟨some 23, none, .mov (.t 8)⟩,
      ⟨some 24, none, .call F.diff_window [.t 22, .t 23]⟩,
      ⟨some 25, none, .fieldAddr 5 (.t 7)⟩,
      ⟨some 26, none, .load true 4 (.t 25)⟩,
      ⟨some 27, none, .mov (.t 8)⟩,
      ⟨some 28, none, .call F.diff_window [.t 26, .t 27]⟩,
      ⟨some 29, none, .bin .xor (.t 24) (.t 28)⟩,
      ⟨some 30, none, .call F.mask_Count [.t 29]⟩,
      ⟨some 31, none, .bin .add (.t 20) (.t 30)⟩,
      ⟨some 5, none, .mov (.t 31)⟩]
      [[], [], [1], [], [2, 3], [], [5], [], [6, 7, 4], [4, 8], [9, 8], [0, 10], [11, 10, 0, 1, 2, 3, 4, 5, 6, 7, 8, 9, 10, 11]]
      [(0, []), (1, []), (3, []), (5, []), (7, []), (2, []), (6, []), (4, [25]), (8, []), (9, []), (10, []), (11, []), (12, [])]
      [[], [], [1], [], [1, 2, 3], [], [5], [], [1, 2, 3, 4, 5, 6, 7], [1, 2, 3, 4, 5, 6, 7, 8], [1, 2, 3, 4, 5, 6, 7, 8, 9], [0, 1, 2, 3, 4, 5, 6, 7, 8, 9, 10], [0, 1, 2, 3, 4, 5, 6, 7, 8, 9, 10, 11]]
      [5, 7, 11, 12, 13, 17])) [5, 7, 11, 12, 13, 17])
  (.region [⟨some 32, none, .bin .add (.t 17) (.c (.int .i64 1))⟩,
    ⟨some 17, none, .mov (.t 32)⟩]
    [5, 7, 11, 12, 13, 17]))))
def RB.diff_Shift_2 : RCode :=
  (.seq (.region [⟨some 14, none, .bin .lss (.t 13) (.t 12)⟩]
    [5, 11, 12, 13, 14])
  (.seq (.cond (.t 14)
    .skip
    (.exit 0))
  (.seq (.block 1
    (.seq (.region [⟨some 15, none, .idxS 9 (.t 11) (.t 13)⟩,
      ⟨some 16, none, .load true 9 (.t 15)⟩,
      ⟨some 7, none, .alloc [(.int .i64 0), (.int .i64 0), (.int .i64 0), (.int .i64 0), (.slice none 0 0), (.int .i64 0), (.int .i64 0), (.int .i64 0), (.slice none 0 0)]⟩,
      ⟨none, none, .store 9 (.t 7) (.t 16)⟩]
      [5, 7, 11, 12, 13])
    (.seq (.region [⟨some 17, none, .mov (.c (.int .i64 0))⟩]
      [5, 7, 11, 12, 13, 17])
    (.block 2
      (.loop [5, 7, 11, 12, 13, 17] RB.diff_Shift_1) [5, 11, 12, 13]))) [5, 11, 12, 13])
  (.region [⟨some 33, none, .bin .add (.t 13) (.c (.int .i64 1))⟩,
    ⟨some 13, none, .mov (.t 33)⟩]
    [5, 11, 12, 13]))))
def RC.diff_Shift : RFn := ⟨2, [.slot 4],
  (.seq (.region [⟨some 2, none, .box (.t 0)⟩,
    ⟨some 3, none, .box (.t 1)⟩,
    ⟨some 4, none, .mov (.c (.int .i64 0))⟩]
    [2, 3])
  (.seq (.region [⟨some 5, none, .mov (.c (.int .i64 0))⟩]
    [2, 3, 5])
  (.seq (.seq (.region [⟨some 9, none, .load true 3 (.t 2)⟩,
    ⟨some 10, none, .load true 3 (.t 3)⟩,
    ⟨some 11, none, .call F.diff_Changes [.t 9, .t 10]⟩,
    ⟨some 12, none, .len (.t 11)⟩,
    ⟨some 13, none, .mov (.c (.int .i64 0))⟩]
    [5, 11, 12, 13])
  (.block 0
    (.loop [5, 11, 12, 13] RB.diff_Shift_2) [5]))
  (.seq (.region [⟨some 34, none, .mov (.t 5)⟩,
    ⟨some 4, none, .mov (.t 34)⟩]
    [4])
  .ret))))⟩

def RB.ref22_Shift_1 : RCode :=
  (.seq (.seq (.region [⟨some 45, none, .mov (.t 13)⟩,
    ⟨some 46, none, .bin .lss (.t 45) (.c (.int .i64 64))⟩]
    [2, 3, 5, 6, 7, 8, 10, 12, 13, 46])
  (.cond (.t 46)
    .skip
    (.exit 4)))
  (.seq (.block 5
    (.seq (.drawn [⟨some 49, none, .load true 4 (.t 8)⟩,
      ⟨some 50, none, .mov (.t 12)⟩,
      ⟨some 51, none, .mov (.t 13)⟩,
      ⟨some 52, none, .call F.ref16_At [.t 49, .t 50, .t 51]⟩,
      ⟨some 53, none, .load true 4 (.t 10)⟩,
      ⟨some 54, none, .mov (.t 12)⟩,
      ⟨some 55, none, .mov (.t 13)⟩,
      ⟨some 56, none, .call F.ref16_At [.t 53, .t 54, .t 55]⟩,
      ⟨some 57, none, .bin .neq (.t 52) (.t 56)⟩]
      [[], [], [], [0, 1, 2], [], [], [], [4, 5, 6, 3], [3, 7]]
      [(1, []), (2, []), (5, []), (6, []), (0, []), (4, []), (3, [10]), (7, []), (8, [])]
      [[], [], [], [0, 1, 2], [], [], [], [0, 1, 2, 3, 4, 5, 6], [0, 1, 2, 3, 4, 5, 6, 7]]
      [2, 3, 5, 6, 7, 8, 10, 12, 13, 57])
    (.cond (.t 57)
      (.region [⟨some 58, none, .mov (.t 5)⟩,
        ⟨some 59, none, .bin .add (.t 58) (.c (.int .i64 1))⟩,
        ⟨some 5, none, .mov (.t 59)⟩]
        [2, 3, 5, 6, 7, 8, 10, 12, 13])
      .skip)) [2, 3, 5, 6, 7, 8, 10, 12, 13])
  (.region [⟨some 47, none, .mov (.t 13)⟩,
    ⟨some 48, none, .bin .add (.t 47) (.c (.int .i64 1))⟩,
    ⟨some 13, none, .mov (.t 48)⟩]
    [2, 3, 5, 6, 7, 8, 10, 12, 13])))
def RB.ref22_Shift_2 : RCode :=
  (.seq (.seq (.region [⟨some 41, none, .mov (.t 12)⟩,
    ⟨some 42, none, .bin .lss (.t 41) (.c (.int .i64 16))⟩]
    [2, 3, 5, 6, 7, 8, 10, 12, 42])
  (.cond (.t 42)
    .skip
    (.exit 2)))
  (.seq (.block 3
    (.seq (.region [⟨some 13, none, .mov (.c (.int .i64 0))⟩]
      [2, 3, 5, 6, 7, 8, 10, 12, 13])
    (.block 4
      (.loop [2, 3, 5, 6, 7, 8, 10, 12, 13] RB.ref22_Shift_1) [2, 3, 5, 6, 7, 8, 10, 12])) [2, 3, 5, 6, 7, 8, 10, 12])
  (.region [⟨some 43, none, .mov (.t 12)⟩,
    ⟨some 44, none, .bin .add (.t 43) (.c (.int .i64 1))⟩,
    ⟨some 12, none, .mov (.t 44)⟩]
    [2, 3, 5, 6, 7, 8, 10, 12])))
def RB.ref22_Shift_3 : RCode :=
  (.seq (.seq (.region [⟨some 17, none, .mov (.t 7)⟩,
    ⟨some 18, none, .mov (.t 6)⟩,
    ⟨some 19, none, .len (.t 18)⟩,
    ⟨some 20, none, .bin .lss (.t 17) (.t 19)⟩]
    [2, 3, 5, 6, 7, 20])
  (.cond (.t 20)
    .skip
    (.exit 0)))
  (.seq (.block 1
    (.seq (.drawn [⟨some 24, none, .load true 3 (.t 2)⟩,
      ⟨some 25, none, .mov (.t 6)⟩,
      ⟨some 26, none, .mov (.t 7)⟩,
      ⟨some 27, none, .idxS 1 (.t 25) (.t 26)⟩,
      ⟨some 28, none, .load false 1 (.t 27)⟩,
      ⟨some 29, none, .call F.ref16_Find [.t 24, .t 28]⟩,
      ⟨some 23, none, .mov (.t 29)⟩,
      ⟨some 30, none, .ext 0 (.t 23)⟩,
      ⟨some 31, none, .ext 1 (.t 23)⟩,
      ⟨some 8, none, .alloc [(.int .i64 0), (.int .i64 0), (.int .i64 0), (.slice none 0 0)]⟩,
      ⟨none, none, .store 4 (.t 8) (.t 30)⟩,
      ⟨some 9, none, .mov (.t 31)⟩]
      [[], [], [], [1, 2], [3], [0, 4], [5], [6], [6], [], [9, 7, 5, 0, 1, 2, 3, 4, 5, 6, 7, 9], [8, 10, 0, 1, 2, 3, 4, 5, 6, 7, 8, 9, 10]]
      [(1, []), (2, []), (3, []), (0, []), (4, []), (5, []), (6, []), (7, []), (8, []), (9, []), (10, []), (11, [])]
      [[], [], [], [1, 2], [1, 2, 3], [0, 1, 2, 3, 4], [0, 1, 2, 3, 4, 5], [0, 1, 2, 3, 4, 5, 6], [0, 1, 2, 3, 4, 5, 6], [], [0, 1, 2, 3, 4, 5, 6, 7, 9], [0, 1, 2, 3, 4, 5, 6, 7, 8, 9, 10]]
      [2, 3, 5, 6, 7, 8])
    (.seq (.drawn [⟨some 33, none, .load true 3 (.t 3)⟩,
      ⟨some 34, none, .mov (.t 6)⟩,
      ⟨some 35, none, .mov (.t 7)⟩,
      ⟨some 36, none, .idxS 1 (.t 34) (.t 35)⟩,
      ⟨some 37, none, .load false 1 (.t 36)⟩,
      ⟨some 38, none, .call F.ref16_Find [.t 33, .t 37]⟩,
      ⟨some 32, none, .mov (.t 38)⟩,
      ⟨some 39, none, .ext 0 (.t 32)⟩,
      ⟨some 40, none, .ext 1 (.t 32)⟩,
      ⟨some 10, none, .alloc [(.int .i64 0), (.int .i64 0), (.int .i64 0), (.slice none 0 0)]⟩,
      ⟨none, none, .store 4 (.t 10) (.t 39)⟩,
      ⟨some 11, none, .mov (.t 40)⟩]
      [[], [], [], [1, 2], [3], [0, 4], [5], [6], [6], [], [9, 7, 5, 0, 1, 2, 3, 4, 5, 6, 7, 9], [8, 10, 0, 1, 2, 3, 4, 5, 6, 7, 8, 9, 10]]
      [(1, []), (2, []), (3, []), (0, []), (4, []), (5, []), (6, []), (7, []), (8, []), (9, []), (10, []), (11, [])]
      [[], [], [], [1, 2], [1, 2, 3], [0, 1, 2, 3, 4], [0, 1, 2, 3, 4, 5], [0, 1, 2, 3, 4, 5, 6], [0, 1, 2, 3, 4, 5, 6], [], [0, 1, 2, 3, 4, 5, 6, 7, 9], [0, 1, 2, 3, 4, 5, 6, 7, 8, 9, 10]]
      [2, 3, 5, 6, 7, 8, 10])
    (.seq (.region [⟨some 12, none, .mov (.c (.int .i64 0))⟩]
      [2, 3, 5, 6, 7, 8, 10, 12])
    (.block 2
      (.loop [2, 3, 5, 6, 7, 8, 10, 12] RB.ref22_Shift_2) [2, 3, 5, 6, 7])))) [2, 3, 5, 6, 7])
  (.region [⟨some 21, none, .mov (.t 7)⟩,
    ⟨some 22, none, .bin .add (.t 21) (.c (.int .i64 1))⟩,
    ⟨some 7, none, .mov (.t 22)⟩]
    [2, 3, 5, 6, 7])))
def RC.ref22_Shift : RFn := ⟨2, [.slot 4],
  (.seq (.region [⟨some 2, none, .box (.t 0)⟩,
    ⟨some 3, none, .box (.t 1)⟩,
    ⟨some 4, none, .mov (.c (.int .i64 0))⟩]
    [2, 3])
  (.seq (.region [⟨some 5, none, .mov (.c (.int .i64 0))⟩]
    [2, 3, 5])
  (.seq (.region [⟨some 14, none, .load true 3 (.t 2)⟩,
    ⟨some 15, none, .load true 3 (.t 3)⟩,
    ⟨some 16, none, .call F.ref22_Units [.t 14, .t 15]⟩,
    ⟨some 6, none, .mov (.t 16)⟩]
    [2, 3, 5, 6])
  (.seq (.seq (.region [⟨some 7, none, .mov (.c (.int .i64 0))⟩]
    [2, 3, 5, 6, 7])
  (.block 0
    (.loop [2, 3, 5, 6, 7] RB.ref22_Shift_3) [5]))
  (.seq (.region [⟨some 60, none, .mov (.t 5)⟩,
    ⟨some 4, none, .mov (.t 60)⟩]
    [4])
  .ret)))))⟩

def RB.ref16_Find_1 : RCode :=
  (.seq (.seq (.region [⟨some 7, none, .mov (.t 6)⟩,
    ⟨some 8, none, .fieldAddr 2 (.t 2)⟩,
    ⟨some 9, none, .load false 1 (.t 8)⟩,
    ⟨some 10, none, .len (.t 9)⟩,
    ⟨some 11, none, .bin .lss (.t 7) (.t 10)⟩]
    [1, 2, 4, 6, 11])
  (.cond (.t 11)
    .skip
    (.exit 0)))
  (.seq (.block 1
    (.seq (.region [⟨some 14, none, .fieldAddr 2 (.t 2)⟩,
      ⟨some 15, none, .load false 1 (.t 14)⟩,
      ⟨some 16, none, .mov (.t 6)⟩,
      ⟨some 17, none, .idxS 4 (.t 15) (.t 16)⟩,
      ⟨some 18, none, .fieldAddr 0 (.t 17)⟩,
      ⟨some 19, none, .load false 1 (.t 18)⟩,
      ⟨some 20, none, .mov (.t 1)⟩,
      ⟨some 21, none, .bin .eql (.t 19) (.t 20)⟩]
      [1, 2, 4, 6, 21])
    (.cond (.t 21)
      (.seq (.region [⟨some 22, none, .fieldAddr 2 (.t 2)⟩,
        ⟨some 23, none, .load false 1 (.t 22)⟩,
        ⟨some 24, none, .mov (.t 6)⟩,
        ⟨some 25, none, .idxS 4 (.t 23) (.t 24)⟩,
        ⟨some 26, none, .load true 4 (.t 25)⟩,
        ⟨none, none, .store 4 (.t 4) (.t 26)⟩,
        ⟨some 5, none, .mov (.c (.bool true))⟩]
        [4, 5])
      .ret)
      .skip)) [1, 2, 4, 6])
  (.region [⟨some 12, none, .mov (.t 6)⟩,
    ⟨some 13, none, .bin .add (.t 12) (.c (.int .i64 1))⟩,
    ⟨some 6, none, .mov (.t 13)⟩]
    [1, 2, 4, 6])))
def RC.ref16_Find : RFn := ⟨2, [.cell 4 true 4, .slot 5],
  (.seq (.region [⟨some 2, none, .box (.t 0)⟩,
    ⟨some 4, none, .alloc [(.int .i64 0), (.int .i64 0), (.int .i64 0), (.slice none 0 0)]⟩,
    ⟨some 5, none, .mov (.c (.bool false))⟩]
    [1, 2, 4])
  (.seq (.seq (.region [⟨some 6, none, .mov (.c (.int .i64 0))⟩]
    [1, 2, 4, 6])
  (.block 0
    (.loop [1, 2, 4, 6] RB.ref16_Find_1) [4]))
  (.seq (.region [⟨some 27, none, .build [(.int .i64 0), (.int .i64 0), (.int .i64 0), (.slice none 0 0)] []⟩,
    ⟨none, none, .store 4 (.t 4) (.t 27)⟩,
    ⟨some 5, none, .mov (.c (.bool false))⟩]
    [4, 5])
  .ret)))⟩

def RB.ref16_SamePlace_1 : RCode :=
  (.seq (.seq (.region [⟨some 34, none, .mov (.t 5)⟩,
    ⟨some 35, none, .fieldAddr 3 (.t 2)⟩,
    ⟨some 36, none, .load false 1 (.t 35)⟩,
    ⟨some 37, none, .len (.t 36)⟩,
    ⟨some 38, none, .bin .lss (.t 34) (.t 37)⟩]
    [2, 3, 5, 38])
  (.cond (.t 38)
    .skip
    (.exit 0)))
  (.seq (.block 1
    (.seq (.drawn [⟨some 41, none, .fieldAddr 3 (.t 2)⟩,
      ⟨some 42, none, .load false 1 (.t 41)⟩,
      ⟨some 43, none, .mov (.t 5)⟩,
      ⟨some 44, none, .idxS 2 (.t 42) (.t 43)⟩,
      ⟨some 45, none, .load true 2 (.t 44)⟩,
      ⟨some 46, none, .fieldAddr 3 (.t 3)⟩,
      ⟨some 47, none, .load false 1 (.t 46)⟩,
      ⟨some 48, none, .mov (.t 5)⟩,
      ⟨some 49, none, .idxS 2 (.t 47) (.t 48)⟩,
      ⟨some 50, none, .load true 2 (.t 49)⟩,
      ⟨some 51, none, .eq true (.flat [.int, .int]) (.t 45) (.t 50)⟩]
      [[], [0], [], [1, 2], [3], [], [5], [], [6, 7], [8], [4, 9]]
      [(0, []), (2, []), (5, []), (7, []), (1, []), (3, []), (4, []), (6, []), (8, []), (9, []), (10, [])]
      [[], [0], [], [0, 1, 2], [0, 1, 2, 3], [], [5], [], [5, 6, 7], [5, 6, 7, 8], [0, 1, 2, 3, 4, 5, 6, 7, 8, 9]]
      [2, 3, 5, 51])
    (.cond (.t 51)
      (.seq (.region [⟨some 4, none, .mov (.c (.bool false))⟩]
        [4])
      .ret)
      .skip)) [2, 3, 5])
  (.region [⟨some 39, none, .mov (.t 5)⟩,
    ⟨some 40, none, .bin .add (.t 39) (.c (.int .i64 1))⟩,
    ⟨some 5, none, .mov (.t 40)⟩]
    [2, 3, 5])))
def RC.ref16_SamePlace : RFn := ⟨2, [.slot 4],
  (.seq (.region [⟨some 2, none, .box (.t 0)⟩,
    ⟨some 3, none, .box (.t 1)⟩,
    ⟨some 4, none, .mov (.c (.bool false))⟩]
    [2, 3])
  (.seq (.seq (.region [⟨some 6, none, .fieldAddr 0 (.t 2)⟩,
    ⟨some 7, none, .load false 1 (.t 6)⟩,
    ⟨some 8, none, .fieldAddr 0 (.t 3)⟩,
    ⟨some 9, none, .load false 1 (.t 8)⟩,
    ⟨some 10, none, .bin .neq (.t 7) (.t 9)⟩,
    ⟨some 11, none, .mov (.t 10)⟩,
    ⟨some 12, some (11, false), .fieldAddr 1 (.t 2)⟩,
    ⟨some 13, some (11, false), .load false 1 (.t 12)⟩,
    ⟨some 14, some (11, false), .fieldAddr 1 (.t 3)⟩,
    ⟨some 15, some (11, false), .load false 1 (.t 14)⟩,
    ⟨some 16, some (11, false), .bin .neq (.t 13) (.t 15)⟩,
    ⟨some 17, none, .pick (.t 11) (.c (.bool true)) (.t 16)⟩,
    ⟨some 18, none, .mov (.t 17)⟩,
    ⟨some 19, some (18, false), .fieldAddr 2 (.t 2)⟩,
    ⟨some 20, some (18, false), .load false 1 (.t 19)⟩,
    ⟨some 21, some (18, false), .fieldAddr 2 (.t 3)⟩,
    ⟨some 22, some (18, false), .load false 1 (.t 21)⟩,
    ⟨some 23, some (18, false), .bin .neq (.t 20) (.t 22)⟩,
    ⟨some 24, none, .pick (.t 18) (.c (.bool true)) (.t 23)⟩,
    ⟨some 25, none, .mov (.t 24)⟩,
    ⟨some 26, some (25, false), .fieldAddr 3 (.t 2)⟩,
    ⟨some 27, some (25, false), .load false 1 (.t 26)⟩,
    ⟨some 28, some (25, false), .len (.t 27)⟩,
    ⟨some 29, some (25, false), .fieldAddr 3 (.t 3)⟩,
    ⟨some 30, some (25, false), .load false 1 (.t 29)⟩,
    ⟨some 31, some (25, false), .len (.t 30)⟩,
    ⟨some 32, some (25, false), .bin .neq (.t 28) (.t 31)⟩,
    ⟨some 33, none, .pick (.t 25) (.c (.bool true)) (.t 32)⟩]
    [2, 3, 33])
  (.cond (.t 33)
    (.seq (.region [⟨some 4, none, .mov (.c (.bool false))⟩]
      [4])
    .ret)
    .skip))
  (.seq (.seq (.region [⟨some 5, none, .mov (.c (.int .i64 0))⟩]
    [2, 3, 5])
  (.block 0
    (.loop [2, 3, 5] RB.ref16_SamePlace_1) []))
  (.seq (.region [⟨some 4, none, .mov (.c (.bool true))⟩]
    [4])
  .ret))))⟩

def RC.diff_Moved : RFn := ⟨2, [.slot 4],
  (.seq (.region [⟨some 2, none, .box (.t 0)⟩,
    ⟨some 3, none, .box (.t 1)⟩,
    ⟨some 4, none, .mov (.c (.slice none 0 0))⟩]
    [2, 3])
  (.seq (.region [⟨some 5, none, .load true 3 (.t 2)⟩,
    ⟨some 6, none, .load true 3 (.t 3)⟩,
    ⟨some 7, none, .call F.diff_some [.t 5, .t 6, .f F.diff_Moved_1]⟩,
    ⟨some 4, none, .mov (.t 7)⟩]
    [4])
  .ret))⟩

def RB.ref03_Same_1 : RCode :=
  (.seq (.seq (.region [⟨some 11, none, .mov (.t 5)⟩,
    ⟨some 12, none, .mov (.t 0)⟩,
    ⟨some 13, none, .len (.t 12)⟩,
    ⟨some 14, none, .bin .lss (.t 11) (.t 13)⟩]
    [0, 1, 5, 14])
  (.cond (.t 14)
    .skip
    (.exit 0)))
  (.seq (.block 1
    (.seq (.drawn [⟨some 17, none, .mov (.t 0)⟩,
      ⟨some 18, none, .mov (.t 5)⟩,
      ⟨some 19, none, .idxS 1 (.t 17) (.t 18)⟩,
      ⟨some 20, none, .load false 1 (.t 19)⟩,
      ⟨some 21, none, .mov (.t 1)⟩,
      ⟨some 22, none, .mov (.t 5)⟩,
      ⟨some 23, none, .idxS 1 (.t 21) (.t 22)⟩,
      ⟨some 24, none, .load false 1 (.t 23)⟩,
      ⟨some 25, none, .bin .neq (.t 20) (.t 24)⟩]
      [[], [], [0, 1], [2], [], [], [4, 5], [6], [3, 7]]
      [(0, []), (1, []), (2, []), (4, []), (5, []), (6, []), (3, []), (7, []), (8, [])]
      [[], [], [0, 1], [0, 1, 2], [], [], [4, 5], [4, 5, 6], [0, 1, 2, 3, 4, 5, 6, 7]]
      [0, 1, 5, 25])
    (.cond (.t 25)
      (.seq (.region [⟨some 4, none, .mov (.c (.bool false))⟩]
        [4])
      .ret)
      .skip)) [0, 1, 5])
  (.region [⟨some 15, none, .mov (.t 5)⟩,
    ⟨some 16, none, .bin .add (.t 15) (.c (.int .i64 1))⟩,
    ⟨some 5, none, .mov (.t 16)⟩]
    [0, 1, 5])))
def RC.ref03_Same : RFn := ⟨2, [.slot 4],
  (.seq (.region [⟨some 4, none, .mov (.c (.bool false))⟩]
    [0, 1])
  (.seq (.seq (.region [⟨some 6, none, .mov (.t 0)⟩,
    ⟨some 7, none, .len (.t 6)⟩,
    ⟨some 8, none, .mov (.t 1)⟩,
    ⟨some 9, none, .len (.t 8)⟩,
    ⟨some 10, none, .bin .neq (.t 7) (.t 9)⟩]
    [0, 1, 10])
  (.cond (.t 10)
    (.seq (.region [⟨some 4, none, .mov (.c (.bool false))⟩]
      [4])
    .ret)
    .skip))
  (.seq (.seq (.region [⟨some 5, none, .mov (.c (.int .i64 0))⟩]
    [0, 1, 5])
  (.block 0
    (.loop [0, 1, 5] RB.ref03_Same_1) []))
  (.seq (.region [⟨some 4, none, .mov (.c (.bool true))⟩]
    [4])
  .ret))))⟩

def RC.diff_Came : RFn := ⟨2, [.slot 4],
  (.seq (.region [⟨some 2, none, .box (.t 0)⟩,
    ⟨some 3, none, .box (.t 1)⟩,
    ⟨some 4, none, .mov (.c (.slice none 0 0))⟩]
    [2, 3])
  (.seq (.region [⟨some 5, none, .load true 3 (.t 2)⟩,
    ⟨some 6, none, .load true 3 (.t 3)⟩,
    ⟨some 7, none, .call F.diff_some [.t 5, .t 6, .f F.diff_Came_1]⟩,
    ⟨some 4, none, .mov (.t 7)⟩]
    [4])
  .ret))⟩

def RC.diff_Gone : RFn := ⟨2, [.slot 4],
  (.seq (.region [⟨some 2, none, .box (.t 0)⟩,
    ⟨some 3, none, .box (.t 1)⟩,
    ⟨some 4, none, .mov (.c (.slice none 0 0))⟩]
    [2, 3])
  (.seq (.region [⟨some 5, none, .load true 3 (.t 2)⟩,
    ⟨some 6, none, .load true 3 (.t 3)⟩,
    ⟨some 7, none, .call F.diff_some [.t 5, .t 6, .f F.diff_Gone_1]⟩,
    ⟨some 4, none, .mov (.t 7)⟩]
    [4])
  .ret))⟩

def RC.diff_Resized : RFn := ⟨2, [.slot 4],
  (.seq (.region [⟨some 2, none, .box (.t 0)⟩,
    ⟨some 3, none, .box (.t 1)⟩,
    ⟨some 4, none, .mov (.c (.slice none 0 0))⟩]
    [2, 3])
  (.seq (.region [⟨some 5, none, .load true 3 (.t 2)⟩,
    ⟨some 6, none, .load true 3 (.t 3)⟩,
    ⟨some 7, none, .call F.diff_some [.t 5, .t 6, .f F.diff_Resized_1]⟩,
    ⟨some 4, none, .mov (.t 7)⟩]
    [4])
  .ret))⟩

def RB.law16_Light_1 : RCode :=
  (.seq (.seq (.region [⟨some 4, none, .mov (.t 3)⟩,
    ⟨some 5, none, .fieldAddr 2 (.t 1)⟩,
    ⟨some 6, none, .load false 1 (.t 5)⟩,
    ⟨some 7, none, .len (.t 6)⟩,
    ⟨some 8, none, .bin .lss (.t 4) (.t 7)⟩,
    ⟨some 9, none, .mov (.t 8)⟩,
    ⟨some 10, some (9, true), .mov (.t 3)⟩,
    ⟨some 11, some (9, true), .bin .lss (.t 10) (.c (.int .i64 300))⟩,
    ⟨some 12, none, .pick (.t 9) (.t 11) (.c (.bool false))⟩]
    [1, 3, 12])
  (.cond (.t 12)
    .skip
    (.exit 0)))
  (.seq (.block 1
    (.seq (.region [⟨some 15, none, .fieldAddr 2 (.t 1)⟩,
      ⟨some 16, none, .load false 1 (.t 15)⟩,
      ⟨some 17, none, .mov (.t 3)⟩,
      ⟨some 18, none, .idxS 4 (.t 16) (.t 17)⟩,
      ⟨some 19, none, .fieldAddr 3 (.t 18)⟩,
      ⟨some 20, none, .load false 1 (.t 19)⟩,
      ⟨some 21, none, .len (.t 20)⟩,
      ⟨some 22, none, .bin .gtr (.t 21) (.c (.int .i64 20))⟩]
      [1, 3, 22])
    (.cond (.t 22)
      (.seq (.region [⟨some 2, none, .mov (.c (.bool false))⟩]
        [2])
      .ret)
      .skip)) [1, 3])
  (.region [⟨some 13, none, .mov (.t 3)⟩,
    ⟨some 14, none, .bin .add (.t 13) (.c (.int .i64 1))⟩,
    ⟨some 3, none, .mov (.t 14)⟩]
    [1, 3])))
def RC.law16_Light : RFn := ⟨1, [.slot 2],
  (.seq (.region [⟨some 1, none, .box (.t 0)⟩,
    ⟨some 2, none, .mov (.c (.bool false))⟩]
    [1])
  (.seq (.seq (.region [⟨some 3, none, .mov (.c (.int .i64 0))⟩]
    [1, 3])
  (.block 0
    (.loop [1, 3] RB.law16_Light_1) [1]))
  (.seq (.region [⟨some 23, none, .fieldAddr 2 (.t 1)⟩,
    ⟨some 24, none, .load false 1 (.t 23)⟩,
    ⟨some 25, none, .len (.t 24)⟩,
    ⟨some 26, none, .bin .leq (.t 25) (.c (.int .i64 60))⟩,
    ⟨some 2, none, .mov (.t 26)⟩]
    [2])
  .ret)))⟩

def RB.ref16_Right_1 : RCode :=
  (.seq (.seq (.region [⟨some 72, none, .mov (.t 5)⟩,
    ⟨some 73, none, .mov (.t 4)⟩,
    ⟨some 74, none, .len (.t 73)⟩,
    ⟨some 75, none, .bin .lss (.t 72) (.t 74)⟩]
    [1, 4, 5, 75])
  (.cond (.t 75)
    .skip
    (.exit 2)))
  (.seq (.block 3
    (.seq (.drawn [⟨some 78, none, .load true 3 (.t 1)⟩,
      ⟨some 79, none, .mov (.t 4)⟩,
      ⟨some 80, none, .mov (.t 5)⟩,
      ⟨some 81, none, .idxS 1 (.t 79) (.t 80)⟩,
      ⟨some 82, none, .load false 1 (.t 81)⟩,
      ⟨some 83, none, .call F.ref16_Load [.t 78, .t 82]⟩,
      ⟨some 84, none, .fieldAddr 0 (.t 1)⟩,
      ⟨some 85, none, .load false 1 (.t 84)⟩,
      ⟨some 86, none, .bin .gtr (.t 83) (.t 85)⟩]
      [[], [], [], [1, 2], [3], [0, 4], [], [6], [5, 7]]
      [(1, []), (2, []), (3, []), (6, []), (0, []), (4, []), (7, []), (5, [84]), (8, [])]
      [[], [], [], [1, 2], [1, 2, 3], [0, 1, 2, 3, 4], [], [6], [0, 1, 2, 3, 4, 5, 6, 7]]
      [1, 4, 5, 86])
    (.cond (.t 86)
      (.seq (.region [⟨some 2, none, .mov (.c (.bool false))⟩]
        [2])
      .ret)
      .skip)) [1, 4, 5])
  (.region [⟨some 76, none, .mov (.t 5)⟩,
    ⟨some 77, none, .bin .add (.t 76) (.c (.int .i64 1))⟩,
    ⟨some 5, none, .mov (.t 77)⟩]
    [1, 4, 5])))
def RB.ref16_Right_2 : RCode :=
  (.seq (.seq (.region [⟨some 24, none, .mov (.t 3)⟩,
    ⟨some 25, none, .fieldAddr 2 (.t 1)⟩,
    ⟨some 26, none, .load false 1 (.t 25)⟩,
    ⟨some 27, none, .len (.t 26)⟩,
    ⟨some 28, none, .bin .lss (.t 24) (.t 27)⟩]
    [1, 3, 28])
  (.cond (.t 28)
    .skip
    (.exit 0)))
  (.seq (.block 1
    (.seq (.drawn [⟨some 31, none, .load true 3 (.t 1)⟩,
      ⟨some 32, none, .fieldAddr 2 (.t 1)⟩,
      ⟨some 33, none, .load false 1 (.t 32)⟩,
      ⟨some 34, none, .mov (.t 3)⟩,
      ⟨some 35, none, .idxS 4 (.t 33) (.t 34)⟩,
      ⟨some 36, none, .load true 4 (.t 35)⟩,
      ⟨some 37, none, .call F.ref16_place [.t 31, .t 36]⟩,
      ⟨some 38, none, .un .not (.t 37)⟩,
      ⟨some 39, none, .mov (.t 38)⟩,
      ⟨some 40, some (39, false), .mov (.t 3)⟩,
      ⟨some 41, some (39, false), .bin .gtr (.t 40) (.c (.int .i64 0))⟩,
      ⟨some 42, some (39, false), .mov (.t 41)⟩,
      ⟨some 43, some (42, true), .fieldAddr 2 (.t 1)⟩,
      ⟨some 44, some (42, true), .load false 1 (.t 43)⟩,
      ⟨some 45, some (42, true), .mov (.t 3)⟩,
      ⟨some 46, some (42, true), .bin .sub (.t 45) (.c (.int .i64 1))⟩,
      ⟨some 47, some (42, true), .idxS 4 (.t 44) (.t 46)⟩,
      ⟨some 48, some (42, true), .fieldAddr 0 (.t 47)⟩,
      ⟨some 49, some (42, true), .load false 1 (.t 48)⟩,
      ⟨some 50, some (42, true), .fieldAddr 2 (.t 1)⟩,
      ⟨some 51, some (42, true), .load false 1 (.t 50)⟩,
      ⟨some 52, some (42, true), .mov (.t 3)⟩,
      ⟨some 53, some (42, true), .idxS 4 (.t 51) (.t 52)⟩,
      ⟨some 54, some (42, true), .fieldAddr 0 (.t 53)⟩,
      ⟨some 55, some (42, true), .load false 1 (.t 54)⟩,
      ⟨some 56, some (42, true), .bin .geq (.t 49) (.t 55)⟩,
      ⟨some 57, some (39, false), .pick (.t 42) (.t 56) (.c (.bool false))⟩,
      ⟨some 58, none, .pick (.t 39) (.c (.bool true)) (.t 57)⟩]
      [[], [], [1], [], [2, 3], [4], [0, 5], [6], [7, 6], [8], [9, 8], [10, 8, 8], [11], [12, 11], [11], [14, 11], [13, 15, 11], [16, 11], [17, 11], [11], [19, 11], [11], [20, 21, 11], [22, 11], [23, 11], [18, 24, 11], [11, 25, 8], [8, 26]]
      [(1, []), (3, []), (0, []), (2, []), (4, []), (5, []), (6, []), (7, []), (8, []), (9, []), (10, []), (11, []), (12, []), (14, []), (15, []), (19, []), (21, []), (13, []), (16, []), (17, []), (18, []), (20, []), (22, []), (23, []), (24, []), (25, []), (26, []), (27, [])]
      [[], [], [1], [], [1, 2, 3], [1, 2, 3, 4], [0, 1, 2, 3, 4, 5], [0, 1, 2, 3, 4, 5, 6], [0, 1, 2, 3, 4, 5, 6, 7], [0, 1, 2, 3, 4, 5, 6, 7, 8], [0, 1, 2, 3, 4, 5, 6, 7, 8, 9], [0, 1, 2, 3, 4, 5, 6, 7, 8, 9, 10], [0, 1, 2, 3, 4, 5, 6, 7, 8, 9, 10, 11], [0, 1, 2, 3, 4, 5, 6, 7, 8, 9, 10, 11, 12], [0, 1, 2, 3, 4, 5, 6, 7, 8, 9, 10, 11], [0, 1, 2, 3, 4, 5, 6, 7, 8, 9, 10, 11, 14], [0, 1, 2, 3, 4, 5, 6, 7, 8, 9, 10, 11, 12, 13, 14, 15], [0, 1, 2, 3, 4, 5, 6, 7, 8, 9, 10, 11, 12, 13, 14, 15, 16], [0, 1, 2, 3, 4, 5, 6, 7, 8, 9, 10, 11, 12, 13, 14, 15, 16, 17], [0, 1, 2, 3, 4, 5, 6, 7, 8, 9, 10, 11], [0, 1, 2, 3, 4, 5, 6, 7, 8, 9, 10, 11, 19], [0, 1, 2, 3, 4, 5, 6, 7, 8, 9, 10, 11], [0, 1, 2, 3, 4, 5, 6, 7, 8, 9, 10, 11, 19, 20, 21], [0, 1, 2, 3, 4, 5, 6, 7, 8, 9, 10, 11, 19, 20, 21, 22], [0, 1, 2, 3, 4, 5, 6, 7, 8, 9, 10, 11, 19, 20, 21, 22, 23], [0, 1, 2, 3, 4, 5, 6, 7, 8, 9, 10, 11, 12, 13, 14, 15, 16, 17, 18, 19, 20, 21, 22, 23, 24], [0, 1, 2, 3, 4, 5, 6, 7, 8, 9, 10, 11, 12, 13, 14, 15, 16, 17, 18, 19, 20, 21, 22, 23, 24, 25], [0, 1, 2, 3, 4, 5, 6, 7, 8, 9, 10, 11, 12, 13, 14, 15, 16, 17, 18, 19, 20, 21, 22, 23, 24, 25, 26]]
      [1, 3, 58])
    (.cond (.t 58)
      (.seq (.region [⟨some 2, none, .mov (.c (.bool false))⟩]
        [2])
      .ret)
      .skip)) [1, 3])
  (.region [⟨some 29, none, .mov (.t 3)⟩,
    ⟨some 30, none, .bin .add (.t 29) (.c (.int .i64 1))⟩,
    ⟨some 3, none, .mov (.t 30)⟩]
    [1, 3])))
def RC.ref16_Right : RFn := ⟨1, [.slot 2],
  (.seq (.region [⟨some 1, none, .box (.t 0)⟩,
    ⟨some 2, none, .mov (.c (.bool false))⟩]
    [1])
  (.seq (.seq (.region [⟨some 6, none, .fieldAddr 0 (.t 1)⟩,
    ⟨some 7, none, .load false 1 (.t 6)⟩,
    ⟨some 8, none, .bin .lss (.t 7) (.c (.int .i64 2))⟩,
    ⟨some 9, none, .mov (.t 8)⟩,
    ⟨some 10, some (9, false), .fieldAddr 0 (.t 1)⟩,
    ⟨some 11, some (9, false), .load false 1 (.t 10)⟩,
    ⟨some 12, some (9, false), .bin .gtr (.t 11) (.c (.int .i64 64))⟩,
    ⟨some 13, none, .pick (.t 9) (.c (.bool true)) (.t 12)⟩,
    ⟨some 14, none, .mov (.t 13)⟩,
    ⟨some 15, some (14, false), .fieldAddr 1 (.t 1)⟩,
    ⟨some 16, some (14, false), .load false 1 (.t 15)⟩,
    ⟨some 17, some (14, false), .bin .eql (.t 16) (.c (u32 0#32))⟩,
    ⟨some 18, none, .pick (.t 14) (.c (.bool true)) (.t 17)⟩,
    ⟨some 19, none, .mov (.t 18)⟩,
    ⟨some 20, some (19, false), .fieldAddr 1 (.t 1)⟩,
    ⟨some 21, some (19, false), .load false 1 (.t 20)⟩,
    ⟨some 22, some (19, false), .bin .gtr (.t 21) (.c (u32 65535#32))⟩,
    ⟨some 23, none, .pick (.t 19) (.c (.bool true)) (.t 22)⟩]
    [1, 23])
  (.cond (.t 23)
    (.seq (.region [⟨some 2, none, .mov (.c (.bool false))⟩]
      [2])
    .ret)
    .skip))
  (.seq (.seq (.region [⟨some 3, none, .mov (.c (.int .i64 0))⟩]
    [1, 3])
  (.block 0
    (.loop [1, 3] RB.ref16_Right_2) [1]))
  (.seq (.seq (.drawn [⟨some 59, none, .load true 3 (.t 1)⟩,
    ⟨some 60, none, .call F.ref16_apart [.t 59]⟩,
    ⟨some 61, none, .un .not (.t 60)⟩,
    ⟨some 62, none, .mov (.t 61)⟩,
    ⟨some 63, some (62, false), .load true 3 (.t 1)⟩,
    ⟨some 64, some (62, false), .call F.ref16_Splits [.t 63]⟩,
    ⟨some 65, some (62, false), .load true 3 (.t 1)⟩,
    ⟨some 66, some (62, false), .call F.ref16_Cores [.t 65]⟩,
    ⟨some 67, some (62, false), .len (.t 66)⟩,
    ⟨some 68, some (62, false), .bin .geq (.t 64) (.t 67)⟩,
    ⟨some 69, none, .pick (.t 62) (.c (.bool true)) (.t 68)⟩]
    [[], [0], [1], [2, 1], [3], [4, 3, 3], [3], [6, 5, 3], [7, 3], [5, 8, 3], [3, 9]]
    [(0, []), (1, []), (2, []), (3, []), (4, []), (6, []), (5, [1]), (7, []), (8, []), (9, []), (10, [])]
    [[], [0], [0, 1], [0, 1, 2], [0, 1, 2, 3], [0, 1, 2, 3, 4], [0, 1, 2, 3], [0, 1, 2, 3, 4, 5, 6], [0, 1, 2, 3, 4, 5, 6, 7], [0, 1, 2, 3, 4, 5, 6, 7, 8], [0, 1, 2, 3, 4, 5, 6, 7, 8, 9]]
    [1, 69])
  (.cond (.t 69)
    (.seq (.region [⟨some 2, none, .mov (.c (.bool false))⟩]
      [2])
    .ret)
    .skip))
  (.seq (.region [⟨some 70, none, .load true 3 (.t 1)⟩,
    ⟨some 71, none, .call F.ref16_Cores [.t 70]⟩,
    ⟨some 4, none, .mov (.t 71)⟩]
    [1, 4])
  (.seq (.seq (.region [⟨some 5, none, .mov (.c (.int .i64 0))⟩]
    [1, 4, 5])
  (.block 2
    (.loop [1, 4, 5] RB.ref16_Right_1) []))
  (.seq (.region [⟨some 2, none, .mov (.c (.bool true))⟩]
    [2])
  .ret)))))))⟩

def RB.diff_places_1 : RCode :=
  (.seq (.region [⟨some 11, none, .bin .lss (.t 10) (.t 9)⟩]
    [3, 8, 9, 10, 11])
  (.seq (.cond (.t 11)
    .skip
    (.exit 0))
  (.seq (.block 1
    (.seq (.region [⟨some 12, none, .idxS 4 (.t 8) (.t 10)⟩,
      ⟨some 13, none, .load true 4 (.t 12)⟩,
      ⟨some 5, none, .alloc [(.int .i64 0), (.int .i64 0), (.int .i64 0), (.slice none 0 0)]⟩,
      ⟨none, none, .store 4 (.t 5) (.t 13)⟩]
      [3, 5, 8, 9, 10])
    (.region [⟨some 14, none, .mov (.t 3)⟩,
      ⟨some 15, none, .fieldAddr 0 (.t 5)⟩,
      ⟨some 16, none, .load false 1 (.t 15)⟩,
      ⟨some 17, none, .load true 4 (.t 5)⟩,
      ⟨none, none, .upd .int (.t 14) (.t 16) (.t 17)⟩]
      [3, 8, 9, 10])) [3, 8, 9, 10])
  (.region [⟨some 18, none, .bin .add (.t 10) (.c (.int .i64 1))⟩,
    ⟨some 10, none, .mov (.t 18)⟩]
    [3, 8, 9, 10]))))
def RC.diff_places : RFn := ⟨1, [.slot 2],
  (.seq (.region [⟨some 1, none, .box (.t 0)⟩,
    ⟨some 2, none, .mov (.c (.map none))⟩]
    [1])
  (.seq (.region [⟨some 6, none, .mkmap⟩,
    ⟨some 3, none, .mov (.t 6)⟩]
    [1, 3])
  (.seq (.seq (.region [⟨some 7, none, .fieldAddr 2 (.t 1)⟩,
    ⟨some 8, none, .load false 1 (.t 7)⟩,
    ⟨some 9, none, .len (.t 8)⟩,
    ⟨some 10, none, .mov (.c (.int .i64 0))⟩]
    [3, 8, 9, 10])
  (.block 0
    (.loop [3, 8, 9, 10] RB.diff_places_1) [3]))
  (.seq (.region [⟨some 19, none, .mov (.t 3)⟩,
    ⟨some 2, none, .mov (.t 19)⟩]
    [2])
  .ret))))⟩

def RC.diff_some : RFn := ⟨3, [.slot 6],
  (.seq (.region [⟨some 3, none, .box (.t 0)⟩,
    ⟨some 4, none, .box (.t 1)⟩,
    ⟨some 5, none, .box (.t 2)⟩,
    ⟨some 6, none, .mov (.c (.slice none 0 0))⟩]
    [3, 4, 5])
  (.seq (.drawn [⟨some 10, none, .load true 3 (.t 3)⟩,
    ⟨some 11, none, .call F.diff_places [.t 10]⟩,
    ⟨some 12, none, .load true 3 (.t 4)⟩,
    ⟨some 13, none, .call F.diff_places [.t 12]⟩,
    ⟨some 7, none, .alloc [(.map none)]⟩,
    ⟨some 8, none, .alloc [(.map none)]⟩,
    ⟨none, none, .store 1 (.t 7) (.t 11)⟩,
    ⟨none, none, .store 1 (.t 8) (.t 13)⟩]
    [[], [0], [], [2, 1], [], [], [4, 1, 3, 0, 1, 4, 5], [5, 3, 6, 0, 1, 2, 3, 4, 5, 6]]
    [(0, []), (2, []), (1, [4]), (3, []), (4, []), (5, []), (6, []), (7, [])]
    [[], [0], [], [0, 1, 2], [], [], [0, 1, 2, 3, 4, 5], [0, 1, 2, 3, 4, 5, 6]]
    [5, 7, 8])
  (.seq (.region [⟨some 14, none, .load false 1 (.t 7)⟩,
    ⟨some 15, none, .call F.maps_Keys_map_int_api_Place_int_api_Place [.t 14]⟩,
    ⟨some 16, none, .call F.slices_Sorted_int [.t 15]⟩,
    ⟨some 9, none, .mov (.t 16)⟩]
    [5, 7, 8, 9])
  (.seq (.region [⟨some 17, none, .mov (.t 9)⟩,
    ⟨some 18, none, .load false 1 (.t 8)⟩,
    ⟨some 19, none, .call F.maps_Keys_map_int_api_Place_int_api_Place [.t 18]⟩,
    ⟨some 20, none, .call F.slices_Sorted_int [.t 19]⟩,
    ⟨some 21, none, .app 1 8 (.t 17) (.t 20)⟩,
    ⟨some 9, none, .mov (.t 21)⟩]
    [5, 7, 8, 9])
  (.seq (.region [⟨some 22, none, .mov (.t 9)⟩,
    ⟨some 23, none, .call F.slices_Sort_int_int [.t 22]⟩]
    [5, 7, 8, 9])
  (.seq (.region [⟨some 24, none, .mov (.t 9)⟩,
    ⟨some 25, none, .call F.slices_Compact_int_int [.t 24]⟩,
    ⟨some 26, none, .mkfn (.func F.diff_some_1) [] [.t 7, .t 8, .t 5]⟩,
    ⟨some 27, none, .call F.slices_DeleteFunc_int_int [.t 25, .t 26]⟩,
    ⟨some 6, none, .mov (.t 27)⟩]
    [6])
  .ret))))))⟩

def RC.diff_Changes_1 : RFn := ⟨4, [.slot 8],
  (.seq (.region [⟨some 4, none, .box (.t 0)⟩,
    ⟨some 5, none, .box (.t 1)⟩,
    ⟨some 8, none, .mov (.c (.bool false))⟩]
    [4, 5])
  (.seq (.region [⟨some 9, none, .load true 4 (.t 4)⟩,
    ⟨some 10, none, .load true 4 (.t 5)⟩,
    ⟨some 11, none, .call F.plan_SamePlace [.t 9, .t 10]⟩,
    ⟨some 12, none, .un .not (.t 11)⟩,
    ⟨some 8, none, .mov (.t 12)⟩]
    [8])
  .ret))⟩

def RC.plan_SamePlace : RFn := ⟨2, [.slot 4],
  (.seq (.region [⟨some 2, none, .box (.t 0)⟩,
    ⟨some 3, none, .box (.t 1)⟩,
    ⟨some 4, none, .mov (.c (.bool false))⟩]
    [2, 3])
  (.seq (.region [⟨some 5, none, .fieldAddr 0 (.t 2)⟩,
    ⟨some 6, none, .load false 1 (.t 5)⟩,
    ⟨some 7, none, .fieldAddr 0 (.t 3)⟩,
    ⟨some 8, none, .load false 1 (.t 7)⟩,
    ⟨some 9, none, .bin .eql (.t 6) (.t 8)⟩,
    ⟨some 10, none, .mov (.t 9)⟩,
    ⟨some 11, some (10, true), .fieldAddr 1 (.t 2)⟩,
    ⟨some 12, some (10, true), .load false 1 (.t 11)⟩,
    ⟨some 13, some (10, true), .fieldAddr 1 (.t 3)⟩,
    ⟨some 14, some (10, true), .load false 1 (.t 13)⟩,
    ⟨some 15, some (10, true), .bin .eql (.t 12) (.t 14)⟩,
    ⟨some 16, none, .pick (.t 10) (.t 15) (.c (.bool false))⟩,
    ⟨some 17, none, .mov (.t 16)⟩,
    ⟨some 18, some (17, true), .fieldAddr 2 (.t 2)⟩,
    ⟨some 19, some (17, true), .load false 1 (.t 18)⟩,
    ⟨some 20, some (17, true), .fieldAddr 2 (.t 3)⟩,
    ⟨some 21, some (17, true), .load false 1 (.t 20)⟩,
    ⟨some 22, some (17, true), .bin .eql (.t 19) (.t 21)⟩,
    ⟨some 23, none, .pick (.t 17) (.t 22) (.c (.bool false))⟩,
    ⟨some 24, none, .mov (.t 23)⟩,
    ⟨some 25, some (24, true), .fieldAddr 3 (.t 2)⟩,
    ⟨some 26, some (24, true), .load false 1 (.t 25)⟩,
    ⟨some 27, some (24, true), .fieldAddr 3 (.t 3)⟩,
    ⟨some 28, some (24, true), .load false 1 (.t 27)⟩,
    ⟨some 29, some (24, true), .call F.slices_Equal_api_Piece_api_Piece [.t 26, .t 28]⟩,
    ⟨some 30, none, .pick (.t 24) (.t 29) (.c (.bool false))⟩,
    ⟨some 4, none, .mov (.t 30)⟩]
    [4])
  .ret))⟩

def RC.diff_clone : RFn := ⟨1, [.cell 2 true 4],
  (.seq (.region [⟨some 1, none, .box (.t 0)⟩,
    ⟨some 2, none, .alloc [(.int .i64 0), (.int .i64 0), (.int .i64 0), (.slice none 0 0)]⟩]
    [1, 2])
  (.seq (.region [⟨some 3, none, .fieldAddr 3 (.t 1)⟩,
    ⟨some 4, none, .load false 1 (.t 3)⟩,
    ⟨some 5, none, .call F.slices_Clone_api_Piece_api_Piece [.t 4]⟩,
    ⟨some 6, none, .fieldAddr 3 (.t 1)⟩,
    ⟨none, none, .store 1 (.t 6) (.t 5)⟩]
    [1, 2])
  (.seq (.region [⟨some 7, none, .load true 4 (.t 1)⟩,
    ⟨none, none, .store 4 (.t 2) (.t 7)⟩]
    [2])
  .ret)))⟩

def RB.ref22_Units_1 : RCode :=
  (.seq (.seq (.region [⟨some 12, none, .mov (.t 6)⟩,
    ⟨some 13, none, .bin .leq (.t 12) (.c (.int .i64 1040))⟩]
    [2, 3, 5, 6, 13])
  (.cond (.t 13)
    .skip
    (.exit 0)))
  (.seq (.block 1
    (.seq (.region [⟨some 17, none, .load true 3 (.t 2)⟩,
      ⟨some 18, none, .mov (.t 6)⟩,
      ⟨some 19, none, .call F.ref16_Find [.t 17, .t 18]⟩,
      ⟨some 16, none, .mov (.t 19)⟩,
      ⟨some 20, none, .ext 0 (.t 16)⟩,
      ⟨some 21, none, .ext 1 (.t 16)⟩,
      ⟨some 7, none, .alloc [(.int .i64 0), (.int .i64 0), (.int .i64 0), (.slice none 0 0)]⟩,
      ⟨none, none, .store 4 (.t 7) (.t 20)⟩,
      ⟨some 8, none, .mov (.t 21)⟩]
      [2, 3, 5, 6, 8])
    (.seq (.region [⟨some 23, none, .load true 3 (.t 3)⟩,
      ⟨some 24, none, .mov (.t 6)⟩,
      ⟨some 25, none, .call F.ref16_Find [.t 23, .t 24]⟩,
      ⟨some 22, none, .mov (.t 25)⟩,
      ⟨some 26, none, .ext 0 (.t 22)⟩,
      ⟨some 27, none, .ext 1 (.t 22)⟩,
      ⟨some 9, none, .alloc [(.int .i64 0), (.int .i64 0), (.int .i64 0), (.slice none 0 0)]⟩,
      ⟨none, none, .store 4 (.t 9) (.t 26)⟩,
      ⟨some 10, none, .mov (.t 27)⟩]
      [2, 3, 5, 6, 8, 10])
    (.seq (.region [⟨some 28, none, .mov (.t 8)⟩,
      ⟨some 29, none, .mov (.t 28)⟩,
      ⟨some 30, some (29, false), .mov (.t 10)⟩,
      ⟨some 31, none, .pick (.t 29) (.c (.bool true)) (.t 30)⟩]
      [2, 3, 5, 6, 31])
    (.cond (.t 31)
      (.region [⟨some 32, none, .mov (.t 5)⟩,
        ⟨some 33, none, .mov (.t 6)⟩,
        ⟨some 34, none, .bslice [(.int .i64 0)] [(0, 1, .t 33)] 1 1⟩,
        ⟨some 35, none, .app 1 8 (.t 32) (.t 34)⟩,
        ⟨some 5, none, .mov (.t 35)⟩]
        [2, 3, 5, 6])
      .skip)))) [2, 3, 5, 6])
  (.region [⟨some 14, none, .mov (.t 6)⟩,
    ⟨some 15, none, .bin .add (.t 14) (.c (.int .i64 1))⟩,
    ⟨some 6, none, .mov (.t 15)⟩]
    [2, 3, 5, 6])))
def RC.ref22_Units : RFn := ⟨2, [.slot 4],
  (.seq (.region [⟨some 2, none, .box (.t 0)⟩,
    ⟨some 3, none, .box (.t 1)⟩,
    ⟨some 4, none, .mov (.c (.slice none 0 0))⟩]
    [2, 3])
  (.seq (.region [⟨some 11, none, .bslice [] [] 0 1⟩,
    ⟨some 5, none, .mov (.t 11)⟩]
    [2, 3, 5])
  (.seq (.seq (.region [⟨some 6, none, .mov (.c (.int .i64 1))⟩]
    [2, 3, 5, 6])
  (.block 0
    (.loop [2, 3, 5, 6] RB.ref22_Units_1) [5]))
  (.seq (.region [⟨some 36, none, .mov (.t 5)⟩,
    ⟨some 4, none, .mov (.t 36)⟩]
    [4])
  .ret))))⟩

def RB.ref22_Moved_1 : RCode :=
  (.seq (.seq (.region [⟨some 18, none, .mov (.t 6)⟩,
    ⟨some 19, none, .bin .lss (.t 18) (.c (.int .i64 64))⟩]
    [2, 3, 5, 6, 19])
  (.cond (.t 19)
    .skip
    (.exit 2)))
  (.seq (.block 3
    (.seq (.drawn [⟨some 22, none, .load true 4 (.t 2)⟩,
      ⟨some 23, none, .mov (.t 5)⟩,
      ⟨some 24, none, .mov (.t 6)⟩,
      ⟨some 25, none, .call F.ref16_At [.t 22, .t 23, .t 24]⟩,
      ⟨some 26, none, .load true 4 (.t 3)⟩,
      ⟨some 27, none, .mov (.t 5)⟩,
      ⟨some 28, none, .mov (.t 6)⟩,
      ⟨some 29, none, .call F.ref16_At [.t 26, .t 27, .t 28]⟩,
      ⟨some 30, none, .bin .neq (.t 25) (.t 29)⟩]
      [[], [], [], [0, 1, 2], [], [], [], [4, 5, 6, 3], [3, 7]]
      [(1, []), (2, []), (5, []), (6, []), (0, []), (4, []), (3, [3]), (7, []), (8, [])]
      [[], [], [], [0, 1, 2], [], [], [], [0, 1, 2, 3, 4, 5, 6], [0, 1, 2, 3, 4, 5, 6, 7]]
      [2, 3, 5, 6, 30])
    (.cond (.t 30)
      (.seq (.region [⟨some 4, none, .mov (.c (.bool true))⟩]
        [4])
      .ret)
      .skip)) [2, 3, 5, 6])
  (.region [⟨some 20, none, .mov (.t 6)⟩,
    ⟨some 21, none, .bin .add (.t 20) (.c (.int .i64 1))⟩,
    ⟨some 6, none, .mov (.t 21)⟩]
    [2, 3, 5, 6])))
def RB.ref22_Moved_2 : RCode :=
  (.seq (.seq (.region [⟨some 7, none, .mov (.t 5)⟩,
    ⟨some 8, none, .bin .lss (.t 7) (.c (.int .i64 16))⟩]
    [2, 3, 5, 8])
  (.cond (.t 8)
    .skip
    (.exit 0)))
  (.seq (.block 1
    (.seq (.seq (.drawn [⟨some 11, none, .load true 4 (.t 2)⟩,
      ⟨some 12, none, .mov (.t 5)⟩,
      ⟨some 13, none, .call F.ref22_On [.t 11, .t 12]⟩,
      ⟨some 14, none, .load true 4 (.t 3)⟩,
      ⟨some 15, none, .mov (.t 5)⟩,
      ⟨some 16, none, .call F.ref22_On [.t 14, .t 15]⟩,
      ⟨some 17, none, .eq true .bool (.t 13) (.t 16)⟩]
      [[], [], [0, 1], [], [], [3, 4, 2], [2, 5]]
      [(1, []), (4, []), (0, []), (3, []), (2, [3]), (5, []), (6, [])]
      [[], [], [0, 1], [], [], [0, 1, 2, 3, 4], [0, 1, 2, 3, 4, 5]]
      [2, 3, 5, 17])
    (.cond (.t 17)
      (.seq (.region [⟨some 4, none, .mov (.c (.bool true))⟩]
        [4])
      .ret)
      .skip))
    (.seq (.region [⟨some 6, none, .mov (.c (.int .i64 0))⟩]
      [2, 3, 5, 6])
    (.block 2
      (.loop [2, 3, 5, 6] RB.ref22_Moved_1) [2, 3, 5]))) [2, 3, 5])
  (.region [⟨some 9, none, .mov (.t 5)⟩,
    ⟨some 10, none, .bin .add (.t 9) (.c (.int .i64 1))⟩,
    ⟨some 5, none, .mov (.t 10)⟩]
    [2, 3, 5])))
def RC.ref22_Moved : RFn := ⟨2, [.slot 4],
  (.seq (.region [⟨some 2, none, .box (.t 0)⟩,
    ⟨some 3, none, .box (.t 1)⟩,
    ⟨some 4, none, .mov (.c (.bool false))⟩]
    [2, 3])
  (.seq (.seq (.region [⟨some 5, none, .mov (.c (.int .i64 0))⟩]
    [2, 3, 5])
  (.block 0
    (.loop [2, 3, 5] RB.ref22_Moved_2) []))
  (.seq (.region [⟨some 4, none, .mov (.c (.bool false))⟩]
    [4])
  .ret)))⟩

def RC.mask_Count : RFn := ⟨1, [.slot 2],
  (.seq (.region [⟨some 2, none, .mov (.c (.int .i64 0))⟩]
    [0])
  (.seq (.region [⟨some 3, none, .mov (.t 0)⟩,
    ⟨some 4, none, .call F.math_bits_OnesCount64 [.t 3]⟩,
    ⟨some 2, none, .mov (.t 4)⟩]
    [2])
  .ret))⟩

def RB.diff_window_1 : RCode :=
  (.seq (.region [⟨some 11, none, .bin .lss (.t 10) (.t 9)⟩]
    [1, 8, 9, 10, 11])
  (.seq (.cond (.t 11)
    .skip
    (.exit 0))
  (.seq (.block 1
    (.seq (.region [⟨some 12, none, .idxS 2 (.t 8) (.t 10)⟩,
      ⟨some 13, none, .load true 2 (.t 12)⟩,
      ⟨some 6, none, .alloc [(.int .i64 0), (u64 0#64)]⟩,
      ⟨none, none, .store 2 (.t 6) (.t 13)⟩]
      [1, 6, 8, 9, 10])
    (.seq (.region [⟨some 14, none, .fieldAddr 0 (.t 6)⟩,
      ⟨some 15, none, .load false 1 (.t 14)⟩,
      ⟨some 16, none, .mov (.t 1)⟩,
      ⟨some 17, none, .bin .eql (.t 15) (.t 16)⟩]
      [1, 6, 8, 9, 10, 17])
    (.cond (.t 17)
      (.seq (.region [⟨some 18, none, .fieldAddr 1 (.t 6)⟩,
        ⟨some 19, none, .load false 1 (.t 18)⟩,
        ⟨some 4, none, .mov (.t 19)⟩]
        [4])
      .ret)
      .skip))) [1, 8, 9, 10])
  (.region [⟨some 20, none, .bin .add (.t 10) (.c (.int .i64 1))⟩,
    ⟨some 10, none, .mov (.t 20)⟩]
    [1, 8, 9, 10]))))
def RC.diff_window : RFn := ⟨2, [.slot 4],
  (.seq (.region [⟨some 2, none, .box (.t 0)⟩,
    ⟨some 4, none, .mov (.c (u64 0#64))⟩]
    [1, 2])
  (.seq (.seq (.region [⟨some 7, none, .fieldAddr 3 (.t 2)⟩,
    ⟨some 8, none, .load false 1 (.t 7)⟩,
    ⟨some 9, none, .len (.t 8)⟩,
    ⟨some 10, none, .mov (.c (.int .i64 0))⟩]
    [1, 8, 9, 10])
  (.block 0
    (.loop [1, 8, 9, 10] RB.diff_window_1) []))
  (.seq (.region [⟨some 4, none, .mov (.c (u64 0#64))⟩]
    [4])
  .ret)))⟩

def RB.ref16_At_1 : RCode :=
  (.seq (.seq (.region [⟨some 9, none, .mov (.t 8)⟩,
    ⟨some 10, none, .fieldAddr 3 (.t 3)⟩,
    ⟨some 11, none, .load false 1 (.t 10)⟩,
    ⟨some 12, none, .len (.t 11)⟩,
    ⟨some 13, none, .bin .lss (.t 9) (.t 12)⟩]
    [1, 2, 3, 7, 8, 13])
  (.cond (.t 13)
    .skip
    (.exit 0)))
  (.seq (.block 1
    (.seq (.region [⟨some 16, none, .mov (.t 1)⟩,
      ⟨some 17, none, .bin .lss (.t 16) (.c (.int .i64 0))⟩,
      ⟨some 18, none, .mov (.t 17)⟩,
      ⟨some 19, some (18, false), .fieldAddr 3 (.t 3)⟩,
      ⟨some 20, some (18, false), .load false 1 (.t 19)⟩,
      ⟨some 21, some (18, false), .mov (.t 8)⟩,
      ⟨some 22, some (18, false), .idxS 2 (.t 20) (.t 21)⟩,
      ⟨some 23, some (18, false), .fieldAddr 0 (.t 22)⟩,
      ⟨some 24, some (18, false), .load false 1 (.t 23)⟩,
      ⟨some 25, some (18, false), .mov (.t 1)⟩,
      ⟨some 26, some (18, false), .bin .eql (.t 24) (.t 25)⟩,
      ⟨some 27, none, .pick (.t 18) (.c (.bool true)) (.t 26)⟩,
      ⟨some 28, none, .mov (.t 27)⟩,
      ⟨some 29, some (28, true), .fieldAddr 3 (.t 3)⟩,
      ⟨some 30, some (28, true), .load false 1 (.t 29)⟩,
      ⟨some 31, some (28, true), .mov (.t 8)⟩,
      ⟨some 32, some (28, true), .idxS 2 (.t 30) (.t 31)⟩,
      ⟨some 33, some (28, true), .fieldAddr 1 (.t 32)⟩,
      ⟨some 34, some (28, true), .load false 1 (.t 33)⟩,
      ⟨some 35, some (28, true), .mov (.t 2)⟩,
      ⟨some 36, some (28, true), .call F.ref04_Has [.t 34, .t 35]⟩,
      ⟨some 37, none, .pick (.t 28) (.t 36) (.c (.bool false))⟩]
      [1, 2, 3, 7, 8, 37])
    (.cond (.t 37)
      (.region [⟨some 38, none, .mov (.t 7)⟩,
        ⟨some 39, none, .bin .add (.t 38) (.c (.int .i64 1))⟩,
        ⟨some 7, none, .mov (.t 39)⟩]
        [1, 2, 3, 7, 8])
      .skip)) [1, 2, 3, 7, 8])
  (.region [⟨some 14, none, .mov (.t 8)⟩,
    ⟨some 15, none, .bin .add (.t 14) (.c (.int .i64 1))⟩,
    ⟨some 8, none, .mov (.t 15)⟩]
    [1, 2, 3, 7, 8])))
def RC.ref16_At : RFn := ⟨3, [.slot 6],
  (.seq (.region [⟨some 3, none, .box (.t 0)⟩,
    ⟨some 6, none, .mov (.c (.int .i64 0))⟩]
    [1, 2, 3])
  (.seq (.region [⟨some 7, none, .mov (.c (.int .i64 0))⟩]
    [1, 2, 3, 7])
  (.seq (.seq (.region [⟨some 8, none, .mov (.c (.int .i64 0))⟩]
    [1, 2, 3, 7, 8])
  (.block 0
    (.loop [1, 2, 3, 7, 8] RB.ref16_At_1) [7]))
  (.seq (.region [⟨some 40, none, .mov (.t 7)⟩,
    ⟨some 6, none, .mov (.t 40)⟩]
    [6])
  .ret))))⟩

def RC.diff_Moved_1 : RFn := ⟨4, [.slot 8],
  (.seq (.region [⟨some 4, none, .box (.t 0)⟩,
    ⟨some 5, none, .box (.t 1)⟩,
    ⟨some 8, none, .mov (.c (.bool false))⟩]
    [2, 3, 4, 5])
  (.seq (.region [⟨some 9, none, .mov (.t 2)⟩,
    ⟨some 10, none, .mov (.t 9)⟩,
    ⟨some 11, some (10, true), .mov (.t 3)⟩,
    ⟨some 12, none, .pick (.t 10) (.t 11) (.c (.bool false))⟩,
    ⟨some 13, none, .mov (.t 12)⟩,
    ⟨some 14, some (13, true), .load true 4 (.t 4)⟩,
    ⟨some 15, some (13, true), .load true 4 (.t 5)⟩,
    ⟨some 16, some (13, true), .call F.diff_moved [.t 14, .t 15]⟩,
    ⟨some 17, none, .pick (.t 13) (.t 16) (.c (.bool false))⟩,
    ⟨some 8, none, .mov (.t 17)⟩]
    [8])
  .ret))⟩

def RC.diff_moved : RFn := ⟨2, [.slot 4],
  (.seq (.region [⟨some 2, none, .box (.t 0)⟩,
    ⟨some 3, none, .box (.t 1)⟩,
    ⟨some 4, none, .mov (.c (.bool false))⟩]
    [2, 3])
  (.seq (.region [⟨some 5, none, .fieldAddr 3 (.t 2)⟩,
    ⟨some 6, none, .load false 1 (.t 5)⟩,
    ⟨some 7, none, .fieldAddr 3 (.t 3)⟩,
    ⟨some 8, none, .load false 1 (.t 7)⟩,
    ⟨some 9, none, .call F.slices_Equal_api_Piece_api_Piece [.t 6, .t 8]⟩,
    ⟨some 10, none, .un .not (.t 9)⟩,
    ⟨some 11, none, .mov (.t 10)⟩,
    ⟨some 12, some (11, false), .fieldAddr 3 (.t 2)⟩,
    ⟨some 13, some (11, false), .load false 1 (.t 12)⟩,
    ⟨some 14, some (11, false), .len (.t 13)⟩,
    ⟨some 15, some (11, false), .bin .eql (.t 14) (.c (.int .i64 0))⟩,
    ⟨some 16, some (11, false), .mov (.t 15)⟩,
    ⟨some 17, some (16, true), .fieldAddr 2 (.t 2)⟩,
    ⟨some 18, some (16, true), .load false 1 (.t 17)⟩,
    ⟨some 19, some (16, true), .fieldAddr 2 (.t 3)⟩,
    ⟨some 20, some (16, true), .load false 1 (.t 19)⟩,
    ⟨some 21, some (16, true), .bin .neq (.t 18) (.t 20)⟩,
    ⟨some 22, some (11, false), .pick (.t 16) (.t 21) (.c (.bool false))⟩,
    ⟨some 23, none, .pick (.t 11) (.c (.bool true)) (.t 22)⟩,
    ⟨some 4, none, .mov (.t 23)⟩]
    [4])
  .ret))⟩

def RC.diff_Came_1 : RFn := ⟨4, [.slot 8],
  (.seq (.region [⟨some 4, none, .box (.t 0)⟩,
    ⟨some 5, none, .box (.t 1)⟩,
    ⟨some 8, none, .mov (.c (.bool false))⟩]
    [2, 3])
  (.seq (.region [⟨some 9, none, .mov (.t 2)⟩,
    ⟨some 10, none, .un .not (.t 9)⟩,
    ⟨some 11, none, .mov (.t 10)⟩,
    ⟨some 12, some (11, true), .mov (.t 3)⟩,
    ⟨some 13, none, .pick (.t 11) (.t 12) (.c (.bool false))⟩,
    ⟨some 8, none, .mov (.t 13)⟩]
    [8])
  .ret))⟩

def RC.diff_Gone_1 : RFn := ⟨4, [.slot 8],
  (.seq (.region [⟨some 4, none, .box (.t 0)⟩,
    ⟨some 5, none, .box (.t 1)⟩,
    ⟨some 8, none, .mov (.c (.bool false))⟩]
    [2, 3])
  (.seq (.region [⟨some 9, none, .mov (.t 2)⟩,
    ⟨some 10, none, .mov (.t 9)⟩,
    ⟨some 11, some (10, true), .mov (.t 3)⟩,
    ⟨some 12, some (10, true), .un .not (.t 11)⟩,
    ⟨some 13, none, .pick (.t 10) (.t 12) (.c (.bool false))⟩,
    ⟨some 8, none, .mov (.t 13)⟩]
    [8])
  .ret))⟩

def RC.diff_Resized_1 : RFn := ⟨4, [.slot 8],
  (.seq (.region [⟨some 4, none, .box (.t 0)⟩,
    ⟨some 5, none, .box (.t 1)⟩,
    ⟨some 8, none, .mov (.c (.bool false))⟩]
    [2, 3, 4, 5])
  (.seq (.region [⟨some 9, none, .mov (.t 2)⟩,
    ⟨some 10, none, .mov (.t 9)⟩,
    ⟨some 11, some (10, true), .mov (.t 3)⟩,
    ⟨some 12, none, .pick (.t 10) (.t 11) (.c (.bool false))⟩,
    ⟨some 13, none, .mov (.t 12)⟩,
    ⟨some 14, some (13, true), .fieldAddr 1 (.t 4)⟩,
    ⟨some 15, some (13, true), .load false 1 (.t 14)⟩,
    ⟨some 16, some (13, true), .fieldAddr 1 (.t 5)⟩,
    ⟨some 17, some (13, true), .load false 1 (.t 16)⟩,
    ⟨some 18, some (13, true), .bin .neq (.t 15) (.t 17)⟩,
    ⟨some 19, none, .pick (.t 13) (.t 18) (.c (.bool false))⟩,
    ⟨some 8, none, .mov (.t 19)⟩]
    [8])
  .ret))⟩

def RB.ref16_place_1 : RCode :=
  (.seq (.seq (.region [⟨some 72, none, .mov (.t 8)⟩,
    ⟨some 73, none, .bin .lss (.t 72) (.c (.int .i64 64))⟩]
    [2, 3, 7, 8, 73])
  (.cond (.t 73)
    .skip
    (.exit 2)))
  (.seq (.block 3
    (.seq (.region [⟨some 76, none, .load true 4 (.t 3)⟩,
      ⟨some 77, none, .mov (.t 8)⟩,
      ⟨some 78, none, .call F.ref16_At [.t 76, .c (.int .i64 (-1)), .t 77]⟩,
      ⟨some 9, none, .mov (.t 78)⟩]
      [2, 3, 7, 8, 9])
    (.seq (.seq (.region [⟨some 79, none, .mov (.t 9)⟩,
      ⟨some 80, none, .bin .gtr (.t 79) (.c (.int .i64 1))⟩,
      ⟨some 81, none, .mov (.t 80)⟩,
      ⟨some 82, some (81, false), .mov (.t 9)⟩,
      ⟨some 83, some (81, false), .bin .gtr (.t 82) (.c (.int .i64 0))⟩,
      ⟨some 84, some (81, false), .mov (.t 83)⟩,
      ⟨some 85, some (84, true), .mov (.t 8)⟩,
      ⟨some 86, some (84, true), .fieldAddr 0 (.t 2)⟩,
      ⟨some 87, some (84, true), .load false 1 (.t 86)⟩,
      ⟨some 88, some (84, true), .bin .geq (.t 85) (.t 87)⟩,
      ⟨some 89, some (81, false), .pick (.t 84) (.t 88) (.c (.bool false))⟩,
      ⟨some 90, none, .pick (.t 81) (.c (.bool true)) (.t 89)⟩]
      [2, 3, 7, 8, 9, 90])
    (.cond (.t 90)
      (.seq (.region [⟨some 4, none, .mov (.c (.bool false))⟩]
        [4])
      .ret)
      .skip))
    (.region [⟨some 91, none, .mov (.t 7)⟩,
      ⟨some 92, none, .mov (.t 9)⟩,
      ⟨some 93, none, .bin .add (.t 91) (.t 92)⟩,
      ⟨some 7, none, .mov (.t 93)⟩]
      [2, 3, 7, 8]))) [2, 3, 7, 8])
  (.region [⟨some 74, none, .mov (.t 8)⟩,
    ⟨some 75, none, .bin .add (.t 74) (.c (.int .i64 1))⟩,
    ⟨some 8, none, .mov (.t 75)⟩]
    [2, 3, 7, 8])))
def RB.ref16_place_2 : RCode :=
  (.seq (.seq (.region [⟨some 34, none, .mov (.t 5)⟩,
    ⟨some 35, none, .fieldAddr 3 (.t 3)⟩,
    ⟨some 36, none, .load false 1 (.t 35)⟩,
    ⟨some 37, none, .len (.t 36)⟩,
    ⟨some 38, none, .bin .lss (.t 34) (.t 37)⟩]
    [2, 3, 5, 38])
  (.cond (.t 38)
    .skip
    (.exit 0)))
  (.seq (.block 1
    (.seq (.region [⟨some 41, none, .fieldAddr 3 (.t 3)⟩,
      ⟨some 42, none, .load false 1 (.t 41)⟩,
      ⟨some 43, none, .mov (.t 5)⟩,
      ⟨some 44, none, .idxS 2 (.t 42) (.t 43)⟩,
      ⟨some 45, none, .load true 2 (.t 44)⟩,
      ⟨some 6, none, .alloc [(.int .i64 0), (u64 0#64)]⟩,
      ⟨none, none, .store 2 (.t 6) (.t 45)⟩]
      [2, 3, 5, 6])
    (.seq (.drawn [⟨some 46, none, .load true 3 (.t 2)⟩,
      ⟨some 47, none, .fieldAddr 0 (.t 6)⟩,
      ⟨some 48, none, .load false 1 (.t 47)⟩,
      ⟨some 49, none, .call F.ref16_Has [.t 46, .t 48]⟩,
      ⟨some 50, none, .un .not (.t 49)⟩,
      ⟨some 51, none, .mov (.t 50)⟩,
      ⟨some 52, some (51, false), .mov (.t 5)⟩,
      ⟨some 53, some (51, false), .bin .gtr (.t 52) (.c (.int .i64 0))⟩,
      ⟨some 54, some (51, false), .mov (.t 53)⟩,
      ⟨some 55, some (54, true), .fieldAddr 0 (.t 6)⟩,
      ⟨some 56, some (54, true), .load false 1 (.t 55)⟩,
      ⟨some 57, some (54, true), .fieldAddr 3 (.t 3)⟩,
      ⟨some 58, some (54, true), .load false 1 (.t 57)⟩,
      ⟨some 59, some (54, true), .mov (.t 5)⟩,
      ⟨some 60, some (54, true), .bin .sub (.t 59) (.c (.int .i64 1))⟩,
      ⟨some 61, some (54, true), .idxS 2 (.t 58) (.t 60)⟩,
      ⟨some 62, some (54, true), .fieldAddr 0 (.t 61)⟩,
      ⟨some 63, some (54, true), .load false 1 (.t 62)⟩,
      ⟨some 64, some (54, true), .bin .leq (.t 56) (.t 63)⟩,
      ⟨some 65, some (51, false), .pick (.t 54) (.t 64) (.c (.bool false))⟩,
      ⟨some 66, none, .pick (.t 51) (.c (.bool true)) (.t 65)⟩,
      ⟨some 67, none, .mov (.t 66)⟩,
      ⟨some 68, some (67, false), .fieldAddr 1 (.t 6)⟩,
      ⟨some 69, some (67, false), .load false 1 (.t 68)⟩,
      ⟨some 70, some (67, false), .bin .eql (.t 69) (.c (u64 0#64))⟩,
      ⟨some 71, none, .pick (.t 67) (.c (.bool true)) (.t 70)⟩]
      [[], [], [1], [0, 2], [3], [4, 3], [5], [6, 5], [7, 5, 5], [8], [9, 8], [8], [11, 8], [8], [13, 8], [12, 14, 8], [15, 8], [16, 8], [10, 17, 8], [8, 18, 5], [5, 19], [20, 8], [21], [22, 21], [23, 21], [21, 24]]
      [(1, []), (0, []), (2, []), (3, []), (4, []), (5, []), (6, []), (7, []), (8, []), (9, []), (11, []), (13, []), (14, []), (10, []), (12, []), (15, []), (16, []), (17, []), (18, []), (19, []), (20, []), (21, []), (22, []), (23, []), (24, []), (25, [])]
      [[], [], [1], [0, 1, 2], [0, 1, 2, 3], [0, 1, 2, 3, 4], [0, 1, 2, 3, 4, 5], [0, 1, 2, 3, 4, 5, 6], [0, 1, 2, 3, 4, 5, 6, 7], [0, 1, 2, 3, 4, 5, 6, 7, 8], [0, 1, 2, 3, 4, 5, 6, 7, 8, 9], [0, 1, 2, 3, 4, 5, 6, 7, 8], [0, 1, 2, 3, 4, 5, 6, 7, 8, 11], [0, 1, 2, 3, 4, 5, 6, 7, 8], [0, 1, 2, 3, 4, 5, 6, 7, 8, 13], [0, 1, 2, 3, 4, 5, 6, 7, 8, 11, 12, 13, 14], [0, 1, 2, 3, 4, 5, 6, 7, 8, 11, 12, 13, 14, 15], [0, 1, 2, 3, 4, 5, 6, 7, 8, 11, 12, 13, 14, 15, 16], [0, 1, 2, 3, 4, 5, 6, 7, 8, 9, 10, 11, 12, 13, 14, 15, 16, 17], [0, 1, 2, 3, 4, 5, 6, 7, 8, 9, 10, 11, 12, 13, 14, 15, 16, 17, 18], [0, 1, 2, 3, 4, 5, 6, 7, 8, 9, 10, 11, 12, 13, 14, 15, 16, 17, 18, 19], [0, 1, 2, 3, 4, 5, 6, 7, 8, 9, 10, 11, 12, 13, 14, 15, 16, 17, 18, 19, 20], [0, 1, 2, 3, 4, 5, 6, 7, 8, 9, 10, 11, 12, 13, 14, 15, 16, 17, 18, 19, 20, 21], [0, 1, 2, 3, 4, 5, 6, 7, 8, 9, 10, 11, 12, 13, 14, 15, 16, 17, 18, 19, 20, 21, 22], [0, 1, 2, 3, 4, 5, 6, 7, 8, 9, 10, 11, 12, 13, 14, 15, 16, 17, 18, 19, 20, 21, 22, 23], [0, 1, 2, 3, 4, 5, 6, 7, 8, 9, 10, 11, 12, 13, 14, 15, 16, 17, 18, 19, 20, 21, 22, 23, 24]]
      [2, 3, 5, 71])
    (.cond (.t 71)
      (.seq (.region [⟨some 4, none, .mov (.c (.bool false))⟩]
        [4])
      .ret)
      .skip))) [2, 3, 5])
  (.region [⟨some 39, none, .mov (.t 5)⟩,
    ⟨some 40, none, .bin .add (.t 39) (.c (.int .i64 1))⟩,
    ⟨some 5, none, .mov (.t 40)⟩]
    [2, 3, 5])))
def RC.ref16_place : RFn := ⟨2, [.slot 4],
  (.seq (.region [⟨some 2, none, .box (.t 0)⟩,
    ⟨some 3, none, .box (.t 1)⟩,
    ⟨some 4, none, .mov (.c (.bool false))⟩]
    [2, 3])
  (.seq (.seq (.region [⟨some 10, none, .fieldAddr 0 (.t 3)⟩,
    ⟨some 11, none, .load false 1 (.t 10)⟩,
    ⟨some 12, none, .call F.ref08_Is [.t 11]⟩,
    ⟨some 13, none, .un .not (.t 12)⟩,
    ⟨some 14, none, .mov (.t 13)⟩,
    ⟨some 15, some (14, false), .fieldAddr 1 (.t 3)⟩,
    ⟨some 16, some (14, false), .load false 1 (.t 15)⟩,
    ⟨some 17, some (14, false), .bin .lss (.t 16) (.c (.int .i64 1))⟩,
    ⟨some 18, none, .pick (.t 14) (.c (.bool true)) (.t 17)⟩,
    ⟨some 19, none, .mov (.t 18)⟩,
    ⟨some 20, some (19, false), .fieldAddr 1 (.t 3)⟩,
    ⟨some 21, some (19, false), .load false 1 (.t 20)⟩,
    ⟨some 22, some (19, false), .fieldAddr 0 (.t 2)⟩,
    ⟨some 23, some (19, false), .load false 1 (.t 22)⟩,
    ⟨some 24, some (19, false), .bin .gtr (.t 21) (.t 23)⟩,
    ⟨some 25, none, .pick (.t 19) (.c (.bool true)) (.t 24)⟩]
    [2, 3, 25])
  (.cond (.t 25)
    (.seq (.region [⟨some 4, none, .mov (.c (.bool false))⟩]
      [4])
    .ret)
    .skip))
  (.seq (.seq (.region [⟨some 26, none, .fieldAddr 3 (.t 3)⟩,
    ⟨some 27, none, .load false 1 (.t 26)⟩,
    ⟨some 28, none, .len (.t 27)⟩,
    ⟨some 29, none, .bin .eql (.t 28) (.c (.int .i64 0))⟩]
    [2, 3, 29])
  (.cond (.t 29)
    (.seq (.region [⟨some 30, none, .load true 3 (.t 2)⟩,
      ⟨some 31, none, .fieldAddr 2 (.t 3)⟩,
      ⟨some 32, none, .load false 1 (.t 31)⟩,
      ⟨some 33, none, .call F.ref16_Has [.t 30, .t 32]⟩,
      ⟨some 4, none, .mov (.t 33)⟩]
      [4])
    .ret)
    .skip))
  (.seq (.seq (.region [⟨some 5, none, .mov (.c (.int .i64 0))⟩]
    [2, 3, 5])
  (.block 0
    (.loop [2, 3, 5] RB.ref16_place_2) [2, 3]))
  (.seq (.region [⟨some 7, none, .mov (.c (.int .i64 0))⟩]
    [2, 3, 7])
  (.seq (.seq (.region [⟨some 8, none, .mov (.c (.int .i64 0))⟩]
    [2, 3, 7, 8])
  (.block 2
    (.loop [2, 3, 7, 8] RB.ref16_place_1) [3, 7]))
  (.seq (.region [⟨some 94, none, .fieldAddr 3 (.t 3)⟩,
    ⟨some 95, none, .load false 1 (.t 94)⟩,
    ⟨some 96, none, .len (.t 95)⟩,
    ⟨some 97, none, .bin .geq (.t 96) (.c (.int .i64 2))⟩,
    ⟨some 98, none, .mov (.t 97)⟩,
    ⟨some 99, some (98, true), .fieldAddr 2 (.t 3)⟩,
    ⟨some 100, some (98, true), .load false 1 (.t 99)⟩,
    ⟨some 101, some (98, true), .bin .eql (.t 100) (.c (.int .i64 0))⟩,
    ⟨some 102, none, .pick (.t 98) (.t 101) (.c (.bool false))⟩,
    ⟨some 103, none, .mov (.t 102)⟩,
    ⟨some 104, some (103, true), .mov (.t 7)⟩,
    ⟨some 105, some (103, true), .fieldAddr 1 (.t 3)⟩,
    ⟨some 106, some (103, true), .load false 1 (.t 105)⟩,
    ⟨some 107, some (103, true), .bin .eql (.t 104) (.t 106)⟩,
    ⟨some 108, none, .pick (.t 103) (.t 107) (.c (.bool false))⟩,
    ⟨some 4, none, .mov (.t 108)⟩]
    [4])
  .ret)))))))⟩

def RB.ref16_apart_1 : RCode :=
  (.seq (.seq (.region [⟨some 15, none, .mov (.t 6)⟩,
    ⟨some 16, none, .fieldAddr 2 (.t 1)⟩,
    ⟨some 17, none, .load false 1 (.t 16)⟩,
    ⟨some 18, none, .len (.t 17)⟩,
    ⟨some 19, none, .bin .lss (.t 15) (.t 18)⟩]
    [1, 3, 4, 5, 6, 19])
  (.cond (.t 19)
    .skip
    (.exit 4)))
  (.seq (.block 5
    (.region [⟨some 22, none, .mov (.t 5)⟩,
      ⟨some 23, none, .fieldAddr 2 (.t 1)⟩,
      ⟨some 24, none, .load false 1 (.t 23)⟩,
      ⟨some 25, none, .mov (.t 6)⟩,
      ⟨some 26, none, .idxS 4 (.t 24) (.t 25)⟩,
      ⟨some 27, none, .load true 4 (.t 26)⟩,
      ⟨some 28, none, .mov (.t 3)⟩,
      ⟨some 29, none, .mov (.t 4)⟩,
      ⟨some 30, none, .call F.ref16_At [.t 27, .t 28, .t 29]⟩,
      ⟨some 31, none, .bin .add (.t 22) (.t 30)⟩,
      ⟨some 5, none, .mov (.t 31)⟩]
      [1, 3, 4, 5, 6]) [1, 3, 4, 5, 6])
  (.region [⟨some 20, none, .mov (.t 6)⟩,
    ⟨some 21, none, .bin .add (.t 20) (.c (.int .i64 1))⟩,
    ⟨some 6, none, .mov (.t 21)⟩]
    [1, 3, 4, 5, 6])))
def RB.ref16_apart_2 : RCode :=
  (.seq (.seq (.region [⟨some 11, none, .mov (.t 4)⟩,
    ⟨some 12, none, .bin .lss (.t 11) (.c (.int .i64 64))⟩]
    [1, 3, 4, 12])
  (.cond (.t 12)
    .skip
    (.exit 2)))
  (.seq (.block 3
    (.seq (.region [⟨some 5, none, .mov (.c (.int .i64 0))⟩]
      [1, 3, 4, 5])
    (.seq (.seq (.region [⟨some 6, none, .mov (.c (.int .i64 0))⟩]
      [1, 3, 4, 5, 6])
    (.block 4
      (.loop [1, 3, 4, 5, 6] RB.ref16_apart_1) [1, 3, 4, 5]))
    (.seq (.region [⟨some 32, none, .mov (.t 5)⟩,
      ⟨some 33, none, .bin .gtr (.t 32) (.c (.int .i64 1))⟩]
      [1, 3, 4, 33])
    (.cond (.t 33)
      (.seq (.region [⟨some 2, none, .mov (.c (.bool false))⟩]
        [2])
      .ret)
      .skip)))) [1, 3, 4])
  (.region [⟨some 13, none, .mov (.t 4)⟩,
    ⟨some 14, none, .bin .add (.t 13) (.c (.int .i64 1))⟩,
    ⟨some 4, none, .mov (.t 14)⟩]
    [1, 3, 4])))
def RB.ref16_apart_3 : RCode :=
  (.seq (.seq (.region [⟨some 7, none, .mov (.t 3)⟩,
    ⟨some 8, none, .bin .lss (.t 7) (.c (.int .i64 16))⟩]
    [1, 3, 8])
  (.cond (.t 8)
    .skip
    (.exit 0)))
  (.seq (.block 1
    (.seq (.region [⟨some 4, none, .mov (.c (.int .i64 0))⟩]
      [1, 3, 4])
    (.block 2
      (.loop [1, 3, 4] RB.ref16_apart_2) [1, 3])) [1, 3])
  (.region [⟨some 9, none, .mov (.t 3)⟩,
    ⟨some 10, none, .bin .add (.t 9) (.c (.int .i64 1))⟩,
    ⟨some 3, none, .mov (.t 10)⟩]
    [1, 3])))
def RC.ref16_apart : RFn := ⟨1, [.slot 2],
  (.seq (.region [⟨some 1, none, .box (.t 0)⟩,
    ⟨some 2, none, .mov (.c (.bool false))⟩]
    [1])
  (.seq (.seq (.region [⟨some 3, none, .mov (.c (.int .i64 0))⟩]
    [1, 3])
  (.block 0
    (.loop [1, 3] RB.ref16_apart_3) []))
  (.seq (.region [⟨some 2, none, .mov (.c (.bool true))⟩]
    [2])
  .ret)))⟩

def RB.ref16_Splits_1 : RCode :=
  (.seq (.seq (.region [⟨some 5, none, .mov (.t 4)⟩,
    ⟨some 6, none, .fieldAddr 2 (.t 1)⟩,
    ⟨some 7, none, .load false 1 (.t 6)⟩,
    ⟨some 8, none, .len (.t 7)⟩,
    ⟨some 9, none, .bin .lss (.t 5) (.t 8)⟩]
    [1, 3, 4, 9])
  (.cond (.t 9)
    .skip
    (.exit 0)))
  (.seq (.block 1
    (.seq (.region [⟨some 12, none, .fieldAddr 2 (.t 1)⟩,
      ⟨some 13, none, .load false 1 (.t 12)⟩,
      ⟨some 14, none, .mov (.t 4)⟩,
      ⟨some 15, none, .idxS 4 (.t 13) (.t 14)⟩,
      ⟨some 16, none, .fieldAddr 3 (.t 15)⟩,
      ⟨some 17, none, .load false 1 (.t 16)⟩,
      ⟨some 18, none, .len (.t 17)⟩,
      ⟨some 19, none, .bin .gtr (.t 18) (.c (.int .i64 0))⟩]
      [1, 3, 4, 19])
    (.cond (.t 19)
      (.region [⟨some 20, none, .mov (.t 3)⟩,
        ⟨some 21, none, .bin .add (.t 20) (.c (.int .i64 1))⟩,
        ⟨some 3, none, .mov (.t 21)⟩]
        [1, 3, 4])
      .skip)) [1, 3, 4])
  (.region [⟨some 10, none, .mov (.t 4)⟩,
    ⟨some 11, none, .bin .add (.t 10) (.c (.int .i64 1))⟩,
    ⟨some 4, none, .mov (.t 11)⟩]
    [1, 3, 4])))
def RC.ref16_Splits : RFn := ⟨1, [.slot 2],
  (.seq (.region [⟨some 1, none, .box (.t 0)⟩,
    ⟨some 2, none, .mov (.c (.int .i64 0))⟩]
    [1])
  (.seq (.region [⟨some 3, none, .mov (.c (.int .i64 0))⟩]
    [1, 3])
  (.seq (.seq (.region [⟨some 4, none, .mov (.c (.int .i64 0))⟩]
    [1, 3, 4])
  (.block 0
    (.loop [1, 3, 4] RB.ref16_Splits_1) [3]))
  (.seq (.region [⟨some 22, none, .mov (.t 3)⟩,
    ⟨some 2, none, .mov (.t 22)⟩]
    [2])
  .ret))))⟩

def RB.ref16_Cores_1 : RCode :=
  (.seq (.seq (.region [⟨some 6, none, .mov (.t 4)⟩,
    ⟨some 7, none, .bin .lss (.t 6) (.c (.int .i64 16))⟩]
    [1, 3, 4, 7])
  (.cond (.t 7)
    .skip
    (.exit 0)))
  (.seq (.block 1
    (.seq (.region [⟨some 10, none, .load true 3 (.t 1)⟩,
      ⟨some 11, none, .mov (.t 4)⟩,
      ⟨some 12, none, .call F.ref16_Has [.t 10, .t 11]⟩]
      [1, 3, 4, 12])
    (.cond (.t 12)
      (.region [⟨some 13, none, .mov (.t 3)⟩,
        ⟨some 14, none, .mov (.t 4)⟩,
        ⟨some 15, none, .bslice [(.int .i64 0)] [(0, 1, .t 14)] 1 1⟩,
        ⟨some 16, none, .app 1 8 (.t 13) (.t 15)⟩,
        ⟨some 3, none, .mov (.t 16)⟩]
        [1, 3, 4])
      .skip)) [1, 3, 4])
  (.region [⟨some 8, none, .mov (.t 4)⟩,
    ⟨some 9, none, .bin .add (.t 8) (.c (.int .i64 1))⟩,
    ⟨some 4, none, .mov (.t 9)⟩]
    [1, 3, 4])))
def RC.ref16_Cores : RFn := ⟨1, [.slot 2],
  (.seq (.region [⟨some 1, none, .box (.t 0)⟩,
    ⟨some 2, none, .mov (.c (.slice none 0 0))⟩]
    [1])
  (.seq (.region [⟨some 5, none, .bslice [] [] 0 1⟩,
    ⟨some 3, none, .mov (.t 5)⟩]
    [1, 3])
  (.seq (.seq (.region [⟨some 4, none, .mov (.c (.int .i64 0))⟩]
    [1, 3, 4])
  (.block 0
    (.loop [1, 3, 4] RB.ref16_Cores_1) [3]))
  (.seq (.region [⟨some 17, none, .mov (.t 3)⟩,
    ⟨some 2, none, .mov (.t 17)⟩]
    [2])
  .ret))))⟩

def RB.ref16_Load_1 : RCode :=
  (.seq (.seq (.region [⟨some 15, none, .mov (.t 7)⟩,
    ⟨some 16, none, .mov (.t 6)⟩,
    ⟨some 17, none, .len (.t 16)⟩,
    ⟨some 18, none, .bin .lss (.t 15) (.t 17)⟩]
    [5, 6, 7, 18])
  (.cond (.t 18)
    .skip
    (.exit 0)))
  (.seq (.block 1
    (.region [⟨some 21, none, .mov (.t 5)⟩,
      ⟨some 22, none, .mov (.t 6)⟩,
      ⟨some 23, none, .mov (.t 7)⟩,
      ⟨some 24, none, .idxS 2 (.t 22) (.t 23)⟩,
      ⟨some 25, none, .fieldAddr 1 (.t 24)⟩,
      ⟨some 26, none, .load false 1 (.t 25)⟩,
      ⟨some 27, none, .bin .add (.t 21) (.t 26)⟩,
      ⟨some 5, none, .mov (.t 27)⟩]
      [5, 6, 7]) [5, 6, 7])
  (.region [⟨some 19, none, .mov (.t 7)⟩,
    ⟨some 20, none, .bin .add (.t 19) (.c (.int .i64 1))⟩,
    ⟨some 7, none, .mov (.t 20)⟩]
    [5, 6, 7])))
def RC.ref16_Load : RFn := ⟨2, [.slot 4],
  (.seq (.region [⟨some 2, none, .box (.t 0)⟩,
    ⟨some 4, none, .mov (.c (.int .i64 0))⟩]
    [1, 2])
  (.seq (.region [⟨some 8, none, .load true 3 (.t 2)⟩,
    ⟨some 9, none, .mov (.t 1)⟩,
    ⟨some 10, none, .call F.ref16_Windows [.t 8, .t 9]⟩,
    ⟨some 11, none, .call F.ref04_Count [.t 10]⟩,
    ⟨some 5, none, .mov (.t 11)⟩]
    [1, 2, 5])
  (.seq (.region [⟨some 12, none, .load true 3 (.t 2)⟩,
    ⟨some 13, none, .mov (.t 1)⟩,
    ⟨some 14, none, .call F.ref16_Wholes [.t 12, .t 13]⟩,
    ⟨some 6, none, .mov (.t 14)⟩]
    [5, 6])
  (.seq (.seq (.region [⟨some 7, none, .mov (.c (.int .i64 0))⟩]
    [5, 6, 7])
  (.block 0
    (.loop [5, 6, 7] RB.ref16_Load_1) [5]))
  (.seq (.region [⟨some 28, none, .mov (.t 5)⟩,
    ⟨some 4, none, .mov (.t 28)⟩]
    [4])
  .ret)))))⟩

def RC.maps_Keys_map_int_api_Place_int_api_Place : RFn := ⟨1, [.slot 2],
  (.seq (.region [⟨some 1, none, .box (.t 0)⟩,
    ⟨some 2, none, .mov (.c .nilFunc)⟩]
    [1])
  (.seq (.region [⟨some 3, none, .mkfn (.func F.maps_Keys_map_int_api_Place_int_api_Place_1) [] [.t 1]⟩,
    ⟨some 2, none, .mov (.t 3)⟩]
    [2])
  .ret))⟩

def RB.slices_DeleteFunc_int_int_1 : RCode :=
  (.seq (.seq (.region [⟨some 16, none, .mov (.t 6)⟩,
    ⟨some 17, none, .mov (.t 0)⟩,
    ⟨some 18, none, .len (.t 17)⟩,
    ⟨some 19, none, .bin .lss (.t 16) (.t 18)⟩]
    [0, 1, 5, 6, 19])
  (.cond (.t 19)
    .skip
    (.exit 0)))
  (.seq (.block 1
    (.seq (.region [⟨some 22, none, .mov (.t 0)⟩,
      ⟨some 23, none, .mov (.t 6)⟩,
      ⟨some 24, none, .idxS 1 (.t 22) (.t 23)⟩,
      ⟨some 25, none, .load false 1 (.t 24)⟩,
      ⟨some 7, none, .mov (.t 25)⟩]
      [0, 1, 5, 6, 7])
    (.seq (.region [⟨some 26, none, .mov (.t 1)⟩,
      ⟨some 27, none, .mov (.t 7)⟩,
      ⟨some 28, none, .callv (.t 26) [.t 27]⟩,
      ⟨some 29, none, .un .not (.t 28)⟩]
      [0, 1, 5, 6, 7, 29])
    (.cond (.t 29)
      (.seq (.region [⟨some 30, none, .mov (.t 0)⟩,
        ⟨some 31, none, .mov (.t 5)⟩,
        ⟨some 32, none, .mov (.t 7)⟩,
        ⟨some 33, none, .idxS 1 (.t 30) (.t 31)⟩,
        ⟨none, none, .store 1 (.t 33) (.t 32)⟩]
        [0, 1, 5, 6])
      (.region [⟨some 34, none, .mov (.t 5)⟩,
        ⟨some 35, none, .bin .add (.t 34) (.c (.int .i64 1))⟩,
        ⟨some 5, none, .mov (.t 35)⟩]
        [0, 1, 5, 6]))
      .skip))) [0, 1, 5, 6])
  (.region [⟨some 20, none, .mov (.t 6)⟩,
    ⟨some 21, none, .bin .add (.t 20) (.c (.int .i64 1))⟩,
    ⟨some 6, none, .mov (.t 21)⟩]
    [0, 1, 5, 6])))
def RC.slices_DeleteFunc_int_int : RFn := ⟨2, [.slot 4],
  (.seq (.region [⟨some 4, none, .mov (.c (.slice none 0 0))⟩]
    [0, 1])
  (.seq (.region [⟨some 8, none, .mov (.t 0)⟩,
    ⟨some 9, none, .mov (.t 1)⟩,
    ⟨some 10, none, .call F.slices_IndexFunc_int_int [.t 8, .t 9]⟩,
    ⟨some 5, none, .mov (.t 10)⟩]
    [0, 1, 5])
  (.seq (.seq (.region [⟨some 11, none, .mov (.t 5)⟩,
    ⟨some 12, none, .bin .eql (.t 11) (.c (.int .i64 (-1)))⟩]
    [0, 1, 5, 12])
  (.cond (.t 12)
    (.seq (.region [⟨some 13, none, .mov (.t 0)⟩,
      ⟨some 4, none, .mov (.t 13)⟩]
      [4])
    .ret)
    .skip))
  (.seq (.seq (.region [⟨some 14, none, .mov (.t 5)⟩,
    ⟨some 15, none, .bin .add (.t 14) (.c (.int .i64 1))⟩,
    ⟨some 6, none, .mov (.t 15)⟩]
    [0, 1, 5, 6])
  (.block 0
    (.loop [0, 1, 5, 6] RB.slices_DeleteFunc_int_int_1) [0, 5]))
  (.seq (.region [⟨some 36, none, .mov (.t 0)⟩,
    ⟨some 37, none, .mov (.t 5)⟩,
    ⟨some 38, none, .sub 1 (.t 36) (some (.t 37)) none none⟩,
    ⟨none, none, .clr 1 [(.int .i64 0)] (.t 38)⟩]
    [0, 5])
  (.seq (.region [⟨some 39, none, .mov (.t 0)⟩,
    ⟨some 40, none, .mov (.t 5)⟩,
    ⟨some 41, none, .sub 1 (.t 39) none (some (.t 40)) none⟩,
    ⟨some 4, none, .mov (.t 41)⟩]
    [4])
  .ret))))))⟩

def RB.slices_Compact_int_int_1 : RCode :=
  (.seq (.seq (.region [⟨some 29, none, .mov (.t 5)⟩,
    ⟨some 30, none, .mov (.t 4)⟩,
    ⟨some 31, none, .len (.t 30)⟩,
    ⟨some 32, none, .bin .lss (.t 29) (.t 31)⟩]
    [0, 3, 4, 5, 32])
  (.cond (.t 32)
    .skip
    (.exit 2)))
  (.seq (.block 3
    (.seq (.drawn [⟨some 35, none, .mov (.t 4)⟩,
      ⟨some 36, none, .mov (.t 5)⟩,
      ⟨some 37, none, .idxS 1 (.t 35) (.t 36)⟩,
      ⟨some 38, none, .load false 1 (.t 37)⟩,
      ⟨some 39, none, .mov (.t 4)⟩,
      ⟨some 40, none, .mov (.t 5)⟩,
      ⟨some 41, none, .bin .sub (.t 40) (.c (.int .i64 1))⟩,
      ⟨some 42, none, .idxS 1 (.t 39) (.t 41)⟩,
      ⟨some 43, none, .load false 1 (.t 42)⟩,
      ⟨some 44, none, .bin .neq (.t 38) (.t 43)⟩]
      [[], [], [0, 1], [2], [], [], [5], [4, 6], [7], [3, 8]]
      [(0, []), (1, []), (2, []), (4, []), (5, []), (6, []), (7, []), (3, []), (8, []), (9, [])]
      [[], [], [0, 1], [0, 1, 2], [], [], [5], [4, 5, 6], [4, 5, 6, 7], [0, 1, 2, 3, 4, 5, 6, 7, 8]]
      [0, 3, 4, 5, 44])
    (.cond (.t 44)
      (.seq (.region [⟨some 45, none, .mov (.t 0)⟩,
        ⟨some 46, none, .mov (.t 3)⟩,
        ⟨some 47, none, .mov (.t 4)⟩,
        ⟨some 48, none, .mov (.t 5)⟩,
        ⟨some 49, none, .idxS 1 (.t 47) (.t 48)⟩,
        ⟨some 50, none, .load false 1 (.t 49)⟩,
        ⟨some 51, none, .idxS 1 (.t 45) (.t 46)⟩,
        ⟨none, none, .store 1 (.t 51) (.t 50)⟩]
        [0, 3, 4, 5])
      (.region [⟨some 52, none, .mov (.t 3)⟩,
        ⟨some 53, none, .bin .add (.t 52) (.c (.int .i64 1))⟩,
        ⟨some 3, none, .mov (.t 53)⟩]
        [0, 3, 4, 5]))
      .skip)) [0, 3, 4, 5])
  (.region [⟨some 33, none, .mov (.t 5)⟩,
    ⟨some 34, none, .bin .add (.t 33) (.c (.int .i64 1))⟩,
    ⟨some 5, none, .mov (.t 34)⟩]
    [0, 3, 4, 5])))
def RB.slices_Compact_int_int_2 : RCode :=
  (.seq (.seq (.region [⟨some 10, none, .mov (.t 3)⟩,
    ⟨some 11, none, .mov (.t 0)⟩,
    ⟨some 12, none, .len (.t 11)⟩,
    ⟨some 13, none, .bin .lss (.t 10) (.t 12)⟩]
    [0, 3, 13])
  (.cond (.t 13)
    .skip
    (.exit 0)))
  (.seq (.block 1
    (.seq (.drawn [⟨some 16, none, .mov (.t 0)⟩,
      ⟨some 17, none, .mov (.t 3)⟩,
      ⟨some 18, none, .idxS 1 (.t 16) (.t 17)⟩,
      ⟨some 19, none, .load false 1 (.t 18)⟩,
      ⟨some 20, none, .mov (.t 0)⟩,
      ⟨some 21, none, .mov (.t 3)⟩,
      ⟨some 22, none, .bin .sub (.t 21) (.c (.int .i64 1))⟩,
      ⟨some 23, none, .idxS 1 (.t 20) (.t 22)⟩,
      ⟨some 24, none, .load false 1 (.t 23)⟩,
      ⟨some 25, none, .bin .eql (.t 19) (.t 24)⟩]
      [[], [], [0, 1], [2], [], [], [5], [4, 6], [7], [3, 8]]
      [(0, []), (1, []), (2, []), (4, []), (5, []), (6, []), (7, []), (3, []), (8, []), (9, [])]
      [[], [], [0, 1], [0, 1, 2], [], [], [5], [4, 5, 6], [4, 5, 6, 7], [0, 1, 2, 3, 4, 5, 6, 7, 8]]
      [0, 3, 25])
    (.cond (.t 25)
      (.seq (.region [⟨some 26, none, .mov (.t 0)⟩,
        ⟨some 27, none, .mov (.t 3)⟩,
        ⟨some 28, none, .sub 1 (.t 26) (some (.t 27)) none none⟩,
        ⟨some 4, none, .mov (.t 28)⟩]
        [0, 3, 4])
      (.seq (.seq (.region [⟨some 5, none, .mov (.c (.int .i64 1))⟩]
        [0, 3, 4, 5])
      (.block 2
        (.loop [0, 3, 4, 5] RB.slices_Compact_int_int_1) [0, 3]))
      (.seq (.region [⟨some 54, none, .mov (.t 0)⟩,
        ⟨some 55, none, .mov (.t 3)⟩,
        ⟨some 56, none, .sub 1 (.t 54) (some (.t 55)) none none⟩,
        ⟨none, none, .clr 1 [(.int .i64 0)] (.t 56)⟩]
        [0, 3])
      (.seq (.region [⟨some 57, none, .mov (.t 0)⟩,
        ⟨some 58, none, .mov (.t 3)⟩,
        ⟨some 59, none, .sub 1 (.t 57) none (some (.t 58)) none⟩,
        ⟨some 2, none, .mov (.t 59)⟩]
        [2])
      .ret))))
      .skip)) [0, 3])
  (.region [⟨some 14, none, .mov (.t 3)⟩,
    ⟨some 15, none, .bin .add (.t 14) (.c (.int .i64 1))⟩,
    ⟨some 3, none, .mov (.t 15)⟩]
    [0, 3])))
def RC.slices_Compact_int_int : RFn := ⟨1, [.slot 2],
  (.seq (.region [⟨some 2, none, .mov (.c (.slice none 0 0))⟩]
    [0])
  (.seq (.seq (.region [⟨some 6, none, .mov (.t 0)⟩,
    ⟨some 7, none, .len (.t 6)⟩,
    ⟨some 8, none, .bin .lss (.t 7) (.c (.int .i64 2))⟩]
    [0, 8])
  (.cond (.t 8)
    (.seq (.region [⟨some 9, none, .mov (.t 0)⟩,
      ⟨some 2, none, .mov (.t 9)⟩]
      [2])
    .ret)
    .skip))
  (.seq (.seq (.region [⟨some 3, none, .mov (.c (.int .i64 1))⟩]
    [0, 3])
  (.block 0
    (.loop [0, 3] RB.slices_Compact_int_int_2) [0]))
  (.seq (.region [⟨some 60, none, .mov (.t 0)⟩,
    ⟨some 2, none, .mov (.t 60)⟩]
    [2])
  .ret))))⟩

def RC.diff_some_1 : RFn := ⟨4, [.slot 5],
  (.seq (.region [⟨some 5, none, .mov (.c (.bool false))⟩]
    [0, 1, 2, 3])
  (.seq (.region [⟨some 11, none, .load false 1 (.t 1)⟩,
    ⟨some 12, none, .mov (.t 0)⟩,
    ⟨some 13, none, .look .int (.agg #[(.int .i64 0), (.int .i64 0), (.int .i64 0), (.slice none 0 0)]) true (.t 11) (.t 12)⟩,
    ⟨some 10, none, .mov (.t 13)⟩,
    ⟨some 14, none, .ext 0 (.t 10)⟩,
    ⟨some 15, none, .ext 1 (.t 10)⟩,
    ⟨some 6, none, .alloc [(.int .i64 0), (.int .i64 0), (.int .i64 0), (.slice none 0 0)]⟩,
    ⟨none, none, .store 4 (.t 6) (.t 14)⟩,
    ⟨some 7, none, .mov (.t 15)⟩]
    [0, 2, 3, 6, 7])
  (.seq (.region [⟨some 17, none, .load false 1 (.t 2)⟩,
    ⟨some 18, none, .mov (.t 0)⟩,
    ⟨some 19, none, .look .int (.agg #[(.int .i64 0), (.int .i64 0), (.int .i64 0), (.slice none 0 0)]) true (.t 17) (.t 18)⟩,
    ⟨some 16, none, .mov (.t 19)⟩,
    ⟨some 20, none, .ext 0 (.t 16)⟩,
    ⟨some 21, none, .ext 1 (.t 16)⟩,
    ⟨some 8, none, .alloc [(.int .i64 0), (.int .i64 0), (.int .i64 0), (.slice none 0 0)]⟩,
    ⟨none, none, .store 4 (.t 8) (.t 20)⟩,
    ⟨some 9, none, .mov (.t 21)⟩]
    [3, 6, 7, 8, 9])
  (.seq (.region [⟨some 22, none, .load false 1 (.t 3)⟩,
    ⟨some 23, none, .load true 4 (.t 6)⟩,
    ⟨some 24, none, .load true 4 (.t 8)⟩,
    ⟨some 25, none, .mov (.t 7)⟩,
    ⟨some 26, none, .mov (.t 9)⟩,
    ⟨some 27, none, .callv (.t 22) [.t 23, .t 24, .t 25, .t 26]⟩,
    ⟨some 28, none, .un .not (.t 27)⟩,
    ⟨some 5, none, .mov (.t 28)⟩]
    [5])
  .ret))))⟩

def RB.slices_Equal_api_Piece_api_Piece_1 : RCode :=
  (.seq (.region [⟨some 14, none, .bin .lss (.t 13) (.t 12)⟩]
    [0, 1, 12, 13, 14])
  (.seq (.cond (.t 14)
    .skip
    (.exit 0))
  (.seq (.block 1
    (.seq (.region [⟨some 15, none, .mov (.t 13)⟩,
      ⟨some 5, none, .mov (.t 15)⟩]
      [0, 1, 5, 12, 13])
    (.seq (.drawn [⟨some 16, none, .mov (.t 0)⟩,
      ⟨some 17, none, .mov (.t 5)⟩,
      ⟨some 18, none, .idxS 2 (.t 16) (.t 17)⟩,
      ⟨some 19, none, .load true 2 (.t 18)⟩,
      ⟨some 20, none, .mov (.t 1)⟩,
      ⟨some 21, none, .mov (.t 5)⟩,
      ⟨some 22, none, .idxS 2 (.t 20) (.t 21)⟩,
      ⟨some 23, none, .load true 2 (.t 22)⟩,
      ⟨some 24, none, .eq true (.flat [.int, .int]) (.t 19) (.t 23)⟩]
      [[], [], [0, 1], [2], [], [], [4, 5], [6], [3, 7]]
      [(0, []), (1, []), (2, []), (4, []), (5, []), (6, []), (3, []), (7, []), (8, [])]
      [[], [], [0, 1], [0, 1, 2], [], [], [4, 5], [4, 5, 6], [0, 1, 2, 3, 4, 5, 6, 7]]
      [0, 1, 12, 13, 24])
    (.cond (.t 24)
      (.seq (.region [⟨some 4, none, .mov (.c (.bool false))⟩]
        [4])
      .ret)
      .skip))) [0, 1, 12, 13])
  (.region [⟨some 25, none, .bin .add (.t 13) (.c (.int .i64 1))⟩,
    ⟨some 13, none, .mov (.t 25)⟩]
    [0, 1, 12, 13]))))
def RC.slices_Equal_api_Piece_api_Piece : RFn := ⟨2, [.slot 4],
  (.seq (.region [⟨some 4, none, .mov (.c (.bool false))⟩]
    [0, 1])
  (.seq (.seq (.region [⟨some 6, none, .mov (.t 0)⟩,
    ⟨some 7, none, .len (.t 6)⟩,
    ⟨some 8, none, .mov (.t 1)⟩,
    ⟨some 9, none, .len (.t 8)⟩,
    ⟨some 10, none, .bin .neq (.t 7) (.t 9)⟩]
    [0, 1, 10])
  (.cond (.t 10)
    (.seq (.region [⟨some 4, none, .mov (.c (.bool false))⟩]
      [4])
    .ret)
    .skip))
  (.seq (.seq (.region [⟨some 11, none, .mov (.t 0)⟩,
    ⟨some 12, none, .len (.t 11)⟩,
    ⟨some 13, none, .mov (.c (.int .i64 0))⟩]
    [0, 1, 12, 13])
  (.block 0
    (.loop [0, 1, 12, 13] RB.slices_Equal_api_Piece_api_Piece_1) []))
  (.seq (.region [⟨some 4, none, .mov (.c (.bool true))⟩]
    [4])
  .ret))))⟩

def RC.slices_Clone_api_Piece_api_Piece : RFn := ⟨1, [.slot 2],
  (.seq (.region [⟨some 2, none, .mov (.c (.slice none 0 0))⟩]
    [0])
  (.seq (.seq (.region [⟨some 3, none, .mov (.t 0)⟩,
    ⟨some 4, none, .eq false .slice (.t 3) (.c (.slice none 0 0))⟩]
    [0, 4])
  (.cond (.t 4)
    (.seq (.region [⟨some 2, none, .mov (.c (.slice none 0 0))⟩]
      [2])
    .ret)
    .skip))
  (.seq (.region [⟨some 5, none, .bslice [] [] 0 2⟩,
    ⟨some 6, none, .mov (.t 0)⟩,
    ⟨some 7, none, .app 2 16 (.t 5) (.t 6)⟩,
    ⟨some 2, none, .mov (.t 7)⟩]
    [2])
  .ret)))⟩

def RB.ref22_On_1 : RCode :=
  (.seq (.seq (.region [⟨some 14, none, .mov (.t 5)⟩,
    ⟨some 15, none, .fieldAddr 3 (.t 2)⟩,
    ⟨some 16, none, .load false 1 (.t 15)⟩,
    ⟨some 17, none, .len (.t 16)⟩,
    ⟨some 18, none, .bin .lss (.t 14) (.t 17)⟩]
    [1, 2, 5, 18])
  (.cond (.t 18)
    .skip
    (.exit 0)))
  (.seq (.block 1
    (.seq (.region [⟨some 21, none, .fieldAddr 3 (.t 2)⟩,
      ⟨some 22, none, .load false 1 (.t 21)⟩,
      ⟨some 23, none, .mov (.t 5)⟩,
      ⟨some 24, none, .idxS 2 (.t 22) (.t 23)⟩,
      ⟨some 25, none, .fieldAddr 0 (.t 24)⟩,
      ⟨some 26, none, .load false 1 (.t 25)⟩,
      ⟨some 27, none, .mov (.t 1)⟩,
      ⟨some 28, none, .bin .eql (.t 26) (.t 27)⟩]
      [1, 2, 5, 28])
    (.cond (.t 28)
      (.seq (.region [⟨some 4, none, .mov (.c (.bool true))⟩]
        [4])
      .ret)
      .skip)) [1, 2, 5])
  (.region [⟨some 19, none, .mov (.t 5)⟩,
    ⟨some 20, none, .bin .add (.t 19) (.c (.int .i64 1))⟩,
    ⟨some 5, none, .mov (.t 20)⟩]
    [1, 2, 5])))
def RC.ref22_On : RFn := ⟨2, [.slot 4],
  (.seq (.region [⟨some 2, none, .box (.t 0)⟩,
    ⟨some 4, none, .mov (.c (.bool false))⟩]
    [1, 2])
  (.seq (.seq (.region [⟨some 6, none, .fieldAddr 3 (.t 2)⟩,
    ⟨some 7, none, .load false 1 (.t 6)⟩,
    ⟨some 8, none, .len (.t 7)⟩,
    ⟨some 9, none, .bin .eql (.t 8) (.c (.int .i64 0))⟩]
    [1, 2, 9])
  (.cond (.t 9)
    (.seq (.region [⟨some 10, none, .fieldAddr 2 (.t 2)⟩,
      ⟨some 11, none, .load false 1 (.t 10)⟩,
      ⟨some 12, none, .mov (.t 1)⟩,
      ⟨some 13, none, .bin .eql (.t 11) (.t 12)⟩,
      ⟨some 4, none, .mov (.t 13)⟩]
      [4])
    .ret)
    .skip))
  (.seq (.seq (.region [⟨some 5, none, .mov (.c (.int .i64 0))⟩]
    [1, 2, 5])
  (.block 0
    (.loop [1, 2, 5] RB.ref22_On_1) []))
  (.seq (.region [⟨some 4, none, .mov (.c (.bool false))⟩]
    [4])
  .ret))))⟩

def RC.math_bits_OnesCount64 : RFn := ⟨1, [.slot 2],
  (.seq (.region [⟨some 2, none, .mov (.c (.int .i64 0))⟩]
    [0])
  (.seq (.region [⟨some 3, none, .mov (.t 0)⟩,
    ⟨some 4, none, .bin .shr (.t 3) (.c (u64 1#64))⟩,
    ⟨some 5, none, .bin .and (.t 4) (.c (u64 6148914691236517205#64))⟩,
    ⟨some 6, none, .mov (.t 0)⟩,
    ⟨some 7, none, .bin .and (.t 6) (.c (u64 6148914691236517205#64))⟩,
    ⟨some 8, none, .bin .add (.t 5) (.t 7)⟩,
    ⟨some 0, none, .mov (.t 8)⟩]
    [0])
  (.seq (.region [⟨some 9, none, .mov (.t 0)⟩,
    ⟨some 10, none, .bin .shr (.t 9) (.c (u64 2#64))⟩,
    ⟨some 11, none, .bin .and (.t 10) (.c (u64 3689348814741910323#64))⟩,
    ⟨some 12, none, .mov (.t 0)⟩,
    ⟨some 13, none, .bin .and (.t 12) (.c (u64 3689348814741910323#64))⟩,
    ⟨some 14, none, .bin .add (.t 11) (.t 13)⟩,
    ⟨some 0, none, .mov (.t 14)⟩]
    [0])
  (.seq (.region [⟨some 15, none, .mov (.t 0)⟩,
    ⟨some 16, none, .bin .shr (.t 15) (.c (u64 4#64))⟩,
    ⟨some 17, none, .mov (.t 0)⟩,
    ⟨some 18, none, .bin .add (.t 16) (.t 17)⟩,
    ⟨some 19, none, .bin .and (.t 18) (.c (u64 1085102592571150095#64))⟩,
    ⟨some 0, none, .mov (.t 19)⟩]
    [0])
  (.seq (.region [⟨some 20, none, .mov (.t 0)⟩,
    ⟨some 21, none, .mov (.t 0)⟩,
    ⟨some 22, none, .bin .shr (.t 21) (.c (u64 8#64))⟩,
    ⟨some 23, none, .bin .add (.t 20) (.t 22)⟩,
    ⟨some 0, none, .mov (.t 23)⟩]
    [0])
  (.seq (.region [⟨some 24, none, .mov (.t 0)⟩,
    ⟨some 25, none, .mov (.t 0)⟩,
    ⟨some 26, none, .bin .shr (.t 25) (.c (u64 16#64))⟩,
    ⟨some 27, none, .bin .add (.t 24) (.t 26)⟩,
    ⟨some 0, none, .mov (.t 27)⟩]
    [0])
  (.seq (.region [⟨some 28, none, .mov (.t 0)⟩,
    ⟨some 29, none, .mov (.t 0)⟩,
    ⟨some 30, none, .bin .shr (.t 29) (.c (u64 32#64))⟩,
    ⟨some 31, none, .bin .add (.t 28) (.t 30)⟩,
    ⟨some 0, none, .mov (.t 31)⟩]
    [0])
  (.seq (.region [⟨some 32, none, .mov (.t 0)⟩,
    ⟨some 33, none, .conv .i64 (.t 32)⟩,
    ⟨some 34, none, .bin .and (.t 33) (.c (.int .i64 127))⟩,
    ⟨some 2, none, .mov (.t 34)⟩]
    [2])
  .ret))))))))⟩

def RC.ref04_Has : RFn := ⟨2, [.slot 4],
  (.seq (.region [⟨some 4, none, .mov (.c (.bool false))⟩]
    [0, 1])
  (.seq (.seq (.region [⟨some 5, none, .mov (.t 1)⟩,
    ⟨some 6, none, .bin .lss (.t 5) (.c (.int .i64 0))⟩,
    ⟨some 7, none, .mov (.t 6)⟩,
    ⟨some 8, some (7, false), .mov (.t 1)⟩,
    ⟨some 9, some (7, false), .bin .gtr (.t 8) (.c (.int .i64 63))⟩,
    ⟨some 10, none, .pick (.t 7) (.c (.bool true)) (.t 9)⟩]
    [0, 1, 10])
  (.cond (.t 10)
    (.seq (.region [⟨some 4, none, .mov (.c (.bool false))⟩]
      [4])
    .ret)
    .skip))
  (.seq (.region [⟨some 11, none, .mov (.t 0)⟩,
    ⟨some 12, none, .mov (.t 1)⟩,
    ⟨some 13, none, .conv .u64 (.t 12)⟩,
    ⟨some 14, none, .bin .shr (.t 11) (.t 13)⟩,
    ⟨some 15, none, .bin .rem (.t 14) (.c (u64 2#64))⟩,
    ⟨some 16, none, .bin .eql (.t 15) (.c (u64 1#64))⟩,
    ⟨some 4, none, .mov (.t 16)⟩]
    [4])
  .ret)))⟩

def RC.ref08_Is : RFn := ⟨1, [.slot 2],
  (.seq (.region [⟨some 2, none, .mov (.c (.bool false))⟩]
    [0])
  (.seq (.region [⟨some 3, none, .mov (.t 0)⟩,
    ⟨some 4, none, .bin .geq (.t 3) (.c (.int .i64 1))⟩,
    ⟨some 5, none, .mov (.t 4)⟩,
    ⟨some 6, some (5, true), .mov (.t 0)⟩,
    ⟨some 7, some (5, true), .bin .leq (.t 6) (.c (.int .i64 200))⟩,
    ⟨some 8, none, .pick (.t 5) (.t 7) (.c (.bool false))⟩,
    ⟨some 9, none, .mov (.t 8)⟩,
    ⟨some 10, some (9, false), .mov (.t 0)⟩,
    ⟨some 11, some (9, false), .bin .geq (.t 10) (.c (.int .i64 1001))⟩,
    ⟨some 12, some (9, false), .mov (.t 11)⟩,
    ⟨some 13, some (12, true), .mov (.t 0)⟩,
    ⟨some 14, some (12, true), .bin .leq (.t 13) (.c (.int .i64 1040))⟩,
    ⟨some 15, some (9, false), .pick (.t 12) (.t 14) (.c (.bool false))⟩,
    ⟨some 16, none, .pick (.t 9) (.c (.bool true)) (.t 15)⟩,
    ⟨some 2, none, .mov (.t 16)⟩]
    [2])
  .ret))⟩

def RC.ref16_Has : RFn := ⟨2, [.slot 4],
  (.seq (.region [⟨some 2, none, .box (.t 0)⟩,
    ⟨some 4, none, .mov (.c (.bool false))⟩]
    [1, 2])
  (.seq (.region [⟨some 5, none, .mov (.t 1)⟩,
    ⟨some 6, none, .bin .geq (.t 5) (.c (.int .i64 0))⟩,
    ⟨some 7, none, .mov (.t 6)⟩,
    ⟨some 8, some (7, true), .mov (.t 1)⟩,
    ⟨some 9, some (7, true), .bin .leq (.t 8) (.c (.int .i64 15))⟩,
    ⟨some 10, none, .pick (.t 7) (.t 9) (.c (.bool false))⟩,
    ⟨some 11, none, .mov (.t 10)⟩,
    ⟨some 12, some (11, true), .fieldAddr 1 (.t 2)⟩,
    ⟨some 13, some (11, true), .load false 1 (.t 12)⟩,
    ⟨some 14, some (11, true), .conv .u64 (.t 13)⟩,
    ⟨some 15, some (11, true), .mov (.t 1)⟩,
    ⟨some 16, some (11, true), .call F.ref04_Has [.t 14, .t 15]⟩,
    ⟨some 17, none, .pick (.t 11) (.t 16) (.c (.bool false))⟩,
    ⟨some 4, none, .mov (.t 17)⟩]
    [4])
  .ret))⟩

def RC.ref04_Count : RFn := ⟨1, [.slot 2],
  (.seq (.region [⟨some 2, none, .mov (.c (.int .i64 0))⟩]
    [0])
  (.seq (.region [⟨some 3, none, .mov (.t 0)⟩,
    ⟨some 4, none, .call F.ref04_Ticks [.t 3]⟩,
    ⟨some 5, none, .len (.t 4)⟩,
    ⟨some 2, none, .mov (.t 5)⟩]
    [2])
  .ret))⟩

def RB.ref16_Windows_1 : RCode :=
  (.seq (.seq (.region [⟨some 12, none, .mov (.t 7)⟩,
    ⟨some 13, none, .fieldAddr 2 (.t 2)⟩,
    ⟨some 14, none, .load false 1 (.t 13)⟩,
    ⟨some 15, none, .len (.t 14)⟩,
    ⟨some 16, none, .bin .lss (.t 12) (.t 15)⟩]
    [1, 2, 5, 6, 7, 16])
  (.cond (.t 16)
    .skip
    (.exit 2)))
  (.seq (.block 3
    (.seq (.region [⟨some 19, none, .fieldAddr 2 (.t 2)⟩,
      ⟨some 20, none, .load false 1 (.t 19)⟩,
      ⟨some 21, none, .mov (.t 7)⟩,
      ⟨some 22, none, .idxS 4 (.t 20) (.t 21)⟩,
      ⟨some 23, none, .load true 4 (.t 22)⟩,
      ⟨some 24, none, .mov (.t 1)⟩,
      ⟨some 25, none, .mov (.t 6)⟩,
      ⟨some 26, none, .call F.ref16_At [.t 23, .t 24, .t 25]⟩,
      ⟨some 27, none, .bin .gtr (.t 26) (.c (.int .i64 0))⟩]
      [1, 2, 5, 6, 7, 27])
    (.cond (.t 27)
      (.region [⟨some 28, none, .mov (.t 5)⟩,
        ⟨some 29, none, .mov (.t 6)⟩,
        ⟨some 30, none, .call F.ref04_With [.t 28, .t 29]⟩,
        ⟨some 5, none, .mov (.t 30)⟩]
        [1, 2, 5, 6, 7])
      .skip)) [1, 2, 5, 6, 7])
  (.region [⟨some 17, none, .mov (.t 7)⟩,
    ⟨some 18, none, .bin .add (.t 17) (.c (.int .i64 1))⟩,
    ⟨some 7, none, .mov (.t 18)⟩]
    [1, 2, 5, 6, 7])))
def RB.ref16_Windows_2 : RCode :=
  (.seq (.seq (.region [⟨some 8, none, .mov (.t 6)⟩,
    ⟨some 9, none, .bin .lss (.t 8) (.c (.int .i64 64))⟩]
    [1, 2, 5, 6, 9])
  (.cond (.t 9)
    .skip
    (.exit 0)))
  (.seq (.block 1
    (.seq (.region [⟨some 7, none, .mov (.c (.int .i64 0))⟩]
      [1, 2, 5, 6, 7])
    (.block 2
      (.loop [1, 2, 5, 6, 7] RB.ref16_Windows_1) [1, 2, 5, 6])) [1, 2, 5, 6])
  (.region [⟨some 10, none, .mov (.t 6)⟩,
    ⟨some 11, none, .bin .add (.t 10) (.c (.int .i64 1))⟩,
    ⟨some 6, none, .mov (.t 11)⟩]
    [1, 2, 5, 6])))
def RC.ref16_Windows : RFn := ⟨2, [.slot 4],
  (.seq (.region [⟨some 2, none, .box (.t 0)⟩,
    ⟨some 4, none, .mov (.c (u64 0#64))⟩]
    [1, 2])
  (.seq (.region [⟨some 5, none, .mov (.c (u64 0#64))⟩]
    [1, 2, 5])
  (.seq (.seq (.region [⟨some 6, none, .mov (.c (.int .i64 0))⟩]
    [1, 2, 5, 6])
  (.block 0
    (.loop [1, 2, 5, 6] RB.ref16_Windows_2) [5]))
  (.seq (.region [⟨some 31, none, .mov (.t 5)⟩,
    ⟨some 4, none, .mov (.t 31)⟩]
    [4])
  .ret))))⟩

def RB.ref16_Wholes_1 : RCode :=
  (.seq (.seq (.region [⟨some 9, none, .mov (.t 6)⟩,
    ⟨some 10, none, .fieldAddr 2 (.t 2)⟩,
    ⟨some 11, none, .load false 1 (.t 10)⟩,
    ⟨some 12, none, .len (.t 11)⟩,
    ⟨some 13, none, .bin .lss (.t 9) (.t 12)⟩]
    [1, 2, 5, 6, 13])
  (.cond (.t 13)
    .skip
    (.exit 0)))
  (.seq (.block 1
    (.seq (.region [⟨some 16, none, .fieldAddr 2 (.t 2)⟩,
      ⟨some 17, none, .load false 1 (.t 16)⟩,
      ⟨some 18, none, .mov (.t 6)⟩,
      ⟨some 19, none, .idxS 4 (.t 17) (.t 18)⟩,
      ⟨some 20, none, .load true 4 (.t 19)⟩,
      ⟨some 7, none, .alloc [(.int .i64 0), (.int .i64 0), (.int .i64 0), (.slice none 0 0)]⟩,
      ⟨none, none, .store 4 (.t 7) (.t 20)⟩]
      [1, 2, 5, 6, 7])
    (.seq (.region [⟨some 21, none, .fieldAddr 3 (.t 7)⟩,
      ⟨some 22, none, .load false 1 (.t 21)⟩,
      ⟨some 23, none, .len (.t 22)⟩,
      ⟨some 24, none, .bin .eql (.t 23) (.c (.int .i64 0))⟩,
      ⟨some 25, none, .mov (.t 24)⟩,
      ⟨some 26, some (25, true), .fieldAddr 2 (.t 7)⟩,
      ⟨some 27, some (25, true), .load false 1 (.t 26)⟩,
      ⟨some 28, some (25, true), .mov (.t 1)⟩,
      ⟨some 29, some (25, true), .bin .eql (.t 27) (.t 28)⟩,
      ⟨some 30, none, .pick (.t 25) (.t 29) (.c (.bool false))⟩]
      [1, 2, 5, 6, 7, 30])
    (.cond (.t 30)
      (.region [⟨some 31, none, .mov (.t 5)⟩,
        ⟨some 32, none, .fieldAddr 0 (.t 7)⟩,
        ⟨some 33, none, .load false 1 (.t 32)⟩,
        ⟨some 34, none, .fieldAddr 1 (.t 7)⟩,
        ⟨some 35, none, .load false 1 (.t 34)⟩,
        ⟨some 36, none, .build [(.int .i64 0), (.int .i64 0)] [(0, 1, .t 33), (1, 1, .t 35)]⟩,
        ⟨some 37, none, .bslice [(.int .i64 0), (.int .i64 0)] [(0, 2, .t 36)] 1 2⟩,
        ⟨some 38, none, .app 2 16 (.t 31) (.t 37)⟩,
        ⟨some 5, none, .mov (.t 38)⟩]
        [1, 2, 5, 6])
      .skip))) [1, 2, 5, 6])
  (.region [⟨some 14, none, .mov (.t 6)⟩,
    ⟨some 15, none, .bin .add (.t 14) (.c (.int .i64 1))⟩,
    ⟨some 6, none, .mov (.t 15)⟩]
    [1, 2, 5, 6])))
def RC.ref16_Wholes : RFn := ⟨2, [.slot 4],
  (.seq (.region [⟨some 2, none, .box (.t 0)⟩,
    ⟨some 4, none, .mov (.c (.slice none 0 0))⟩]
    [1, 2])
  (.seq (.region [⟨some 8, none, .bslice [] [] 0 2⟩,
    ⟨some 5, none, .mov (.t 8)⟩]
    [1, 2, 5])
  (.seq (.seq (.region [⟨some 6, none, .mov (.c (.int .i64 0))⟩]
    [1, 2, 5, 6])
  (.block 0
    (.loop [1, 2, 5, 6] RB.ref16_Wholes_1) [5]))
  (.seq (.region [⟨some 39, none, .mov (.t 5)⟩,
    ⟨some 4, none, .mov (.t 39)⟩]
    [4])
  .ret))))⟩

def RB.maps_Keys_map_int_api_Place_int_api_Place_1_1 : RCode :=
  (.seq (.region [⟨some 6, none, .stop⟩,
    ⟨some 7, none, .ext 0 (.t 6)⟩]
    [0, 7])
  (.seq (.cond (.t 7)
    .skip
    (.exit 0))
  (.block 1
    (.seq (.region [⟨some 8, none, .stop⟩,
      ⟨some 9, none, .ext 0 (.t 8)⟩,
      ⟨some 3, none, .mov (.t 9)⟩]
      [0, 3])
    (.seq (.region [⟨some 10, none, .mov (.t 0)⟩,
      ⟨some 11, none, .mov (.t 3)⟩,
      ⟨some 12, none, .callv (.t 10) [.t 11]⟩,
      ⟨some 13, none, .un .not (.t 12)⟩]
      [0, 13])
    (.cond (.t 13)
      .ret
      .skip))) [0])))
def RC.maps_Keys_map_int_api_Place_int_api_Place_1 : RFn := ⟨2, [],
  (.seq (.region [⟨some 4, none, .load false 1 (.t 1)⟩,
    ⟨some 5, none, .stop⟩]
    [0])
  (.block 0
    (.loop [0] RB.maps_Keys_map_int_api_Place_int_api_Place_1_1) []))⟩

def RB.slices_IndexFunc_int_int_1 : RCode :=
  (.seq (.region [⟨some 9, none, .bin .lss (.t 8) (.t 7)⟩]
    [0, 1, 7, 8, 9])
  (.seq (.cond (.t 9)
    .skip
    (.exit 0))
  (.seq (.block 1
    (.seq (.region [⟨some 10, none, .mov (.t 8)⟩,
      ⟨some 5, none, .mov (.t 10)⟩]
      [0, 1, 5, 7, 8])
    (.seq (.region [⟨some 11, none, .mov (.t 1)⟩,
      ⟨some 12, none, .mov (.t 0)⟩,
      ⟨some 13, none, .mov (.t 5)⟩,
      ⟨some 14, none, .idxS 1 (.t 12) (.t 13)⟩,
      ⟨some 15, none, .load false 1 (.t 14)⟩,
      ⟨some 16, none, .callv (.t 11) [.t 15]⟩]
      [0, 1, 5, 7, 8, 16])
    (.cond (.t 16)
      (.seq (.region [⟨some 17, none, .mov (.t 5)⟩,
        ⟨some 4, none, .mov (.t 17)⟩]
        [4])
      .ret)
      .skip))) [0, 1, 7, 8])
  (.region [⟨some 18, none, .bin .add (.t 8) (.c (.int .i64 1))⟩,
    ⟨some 8, none, .mov (.t 18)⟩]
    [0, 1, 7, 8]))))
def RC.slices_IndexFunc_int_int : RFn := ⟨2, [.slot 4],
  (.seq (.region [⟨some 4, none, .mov (.c (.int .i64 0))⟩]
    [0, 1])
  (.seq (.seq (.region [⟨some 6, none, .mov (.t 0)⟩,
    ⟨some 7, none, .len (.t 6)⟩,
    ⟨some 8, none, .mov (.c (.int .i64 0))⟩]
    [0, 1, 7, 8])
  (.block 0
    (.loop [0, 1, 7, 8] RB.slices_IndexFunc_int_int_1) []))
  (.seq (.region [⟨some 4, none, .mov (.c (.int .i64 (-1)))⟩]
    [4])
  .ret)))⟩

def RB.ref04_Ticks_1 : RCode :=
  (.seq (.seq (.region [⟨some 6, none, .mov (.t 4)⟩,
    ⟨some 7, none, .bin .lss (.t 6) (.c (.int .i64 64))⟩]
    [0, 3, 4, 7])
  (.cond (.t 7)
    .skip
    (.exit 0)))
  (.seq (.block 1
    (.seq (.region [⟨some 10, none, .mov (.t 0)⟩,
      ⟨some 11, none, .mov (.t 4)⟩,
      ⟨some 12, none, .call F.ref04_Has [.t 10, .t 11]⟩]
      [0, 3, 4, 12])
    (.cond (.t 12)
      (.region [⟨some 13, none, .mov (.t 3)⟩,
        ⟨some 14, none, .mov (.t 4)⟩,
        ⟨some 15, none, .bslice [(.int .i64 0)] [(0, 1, .t 14)] 1 1⟩,
        ⟨some 16, none, .app 1 8 (.t 13) (.t 15)⟩,
        ⟨some 3, none, .mov (.t 16)⟩]
        [0, 3, 4])
      .skip)) [0, 3, 4])
  (.region [⟨some 8, none, .mov (.t 4)⟩,
    ⟨some 9, none, .bin .add (.t 8) (.c (.int .i64 1))⟩,
    ⟨some 4, none, .mov (.t 9)⟩]
    [0, 3, 4])))
def RC.ref04_Ticks : RFn := ⟨1, [.slot 2],
  (.seq (.region [⟨some 2, none, .mov (.c (.slice none 0 0))⟩]
    [0])
  (.seq (.region [⟨some 5, none, .bslice [] [] 0 1⟩,
    ⟨some 3, none, .mov (.t 5)⟩]
    [0, 3])
  (.seq (.seq (.region [⟨some 4, none, .mov (.c (.int .i64 0))⟩]
    [0, 3, 4])
  (.block 0
    (.loop [0, 3, 4] RB.ref04_Ticks_1) [3]))
  (.seq (.region [⟨some 17, none, .mov (.t 3)⟩,
    ⟨some 2, none, .mov (.t 17)⟩]
    [2])
  .ret))))⟩

def RC.ref04_With : RFn := ⟨2, [.slot 4],
  (.seq (.region [⟨some 4, none, .mov (.c (u64 0#64))⟩]
    [0, 1])
  (.seq (.seq (.region [⟨some 5, none, .mov (.t 0)⟩,
    ⟨some 6, none, .mov (.t 1)⟩,
    ⟨some 7, none, .call F.ref04_Has [.t 5, .t 6]⟩,
    ⟨some 8, none, .mov (.t 7)⟩,
    ⟨some 9, some (8, false), .mov (.t 1)⟩,
    ⟨some 10, some (8, false), .bin .lss (.t 9) (.c (.int .i64 0))⟩,
    ⟨some 11, none, .pick (.t 8) (.c (.bool true)) (.t 10)⟩,
    ⟨some 12, none, .mov (.t 11)⟩,
    ⟨some 13, some (12, false), .mov (.t 1)⟩,
    ⟨some 14, some (12, false), .bin .gtr (.t 13) (.c (.int .i64 63))⟩,
    ⟨some 15, none, .pick (.t 12) (.c (.bool true)) (.t 14)⟩]
    [0, 1, 15])
  (.cond (.t 15)
    (.seq (.region [⟨some 16, none, .mov (.t 0)⟩,
      ⟨some 4, none, .mov (.t 16)⟩]
      [4])
    .ret)
    .skip))
  (.seq (.region [⟨some 17, none, .mov (.t 0)⟩,
    ⟨some 18, none, .mov (.t 1)⟩,
    ⟨some 19, none, .conv .u64 (.t 18)⟩,
    ⟨some 20, none, .bin .shl (.c (u64 1#64)) (.t 19)⟩,
    ⟨some 21, none, .bin .add (.t 17) (.t 20)⟩,
    ⟨some 4, none, .mov (.t 21)⟩]
    [4])
  .ret)))⟩

def tab0 : List (Nat × FEnt) := [(F.law22_DiffChanges, .rc RC.law22_DiffChanges),
  (F.law22_DiffSelf, .rc RC.law22_DiffSelf),
  (F.law22_DiffLists, .rc RC.law22_DiffLists),
  (F.law22_right, .rc RC.law22_right),
  (F.law22_awake, .rc RC.law22_awake),
  (F.diff_Changes, .rc RC.diff_Changes),
  (F.ref22_List, .rc RC.ref22_List),
  (F.diff_Shift, .rc RC.diff_Shift),
  (F.ref22_Shift, .rc RC.ref22_Shift),
  (F.ref16_Find, .rc RC.ref16_Find),
  (F.ref16_SamePlace, .rc RC.ref16_SamePlace),
  (F.diff_Moved, .rc RC.diff_Moved),
  (F.ref03_Same, .rc RC.ref03_Same),
  (F.diff_Came, .rc RC.diff_Came),
  (F.diff_Gone, .rc RC.diff_Gone),
  (F.diff_Resized, .rc RC.diff_Resized),
  (F.law16_Light, .rc RC.law16_Light),
  (F.ref16_Right, .rc RC.ref16_Right),
  (F.diff_places, .rc RC.diff_places),
  (F.diff_some, .rc RC.diff_some),
  (F.diff_Changes_1, .rc RC.diff_Changes_1),
  (F.plan_SamePlace, .rc RC.plan_SamePlace),
  (F.diff_clone, .rc RC.diff_clone),
  (F.ref22_Units, .rc RC.ref22_Units),
  (F.ref22_Moved, .rc RC.ref22_Moved),
  (F.mask_Count, .rc RC.mask_Count),
  (F.diff_window, .rc RC.diff_window),
  (F.ref16_At, .rc RC.ref16_At),
  (F.diff_Moved_1, .rc RC.diff_Moved_1),
  (F.diff_moved, .rc RC.diff_moved),
  (F.diff_Came_1, .rc RC.diff_Came_1),
  (F.diff_Gone_1, .rc RC.diff_Gone_1),
  (F.diff_Resized_1, .rc RC.diff_Resized_1),
  (F.ref16_place, .rc RC.ref16_place),
  (F.ref16_apart, .rc RC.ref16_apart),
  (F.ref16_Splits, .rc RC.ref16_Splits),
  (F.ref16_Cores, .rc RC.ref16_Cores),
  (F.ref16_Load, .rc RC.ref16_Load),
  (F.maps_Keys_map_int_api_Place_int_api_Place, .rc RC.maps_Keys_map_int_api_Place_int_api_Place),
  (F.slices_DeleteFunc_int_int, .rc RC.slices_DeleteFunc_int_int),
  (F.slices_Compact_int_int, .rc RC.slices_Compact_int_int),
  (F.diff_some_1, .rc RC.diff_some_1),
  (F.slices_Equal_api_Piece_api_Piece, .rc RC.slices_Equal_api_Piece_api_Piece),
  (F.slices_Clone_api_Piece_api_Piece, .rc RC.slices_Clone_api_Piece_api_Piece),
  (F.ref22_On, .rc RC.ref22_On),
  (F.math_bits_OnesCount64, .rc RC.math_bits_OnesCount64),
  (F.ref04_Has, .rc RC.ref04_Has),
  (F.ref08_Is, .rc RC.ref08_Is),
  (F.ref16_Has, .rc RC.ref16_Has),
  (F.ref04_Count, .rc RC.ref04_Count),
  (F.ref16_Windows, .rc RC.ref16_Windows),
  (F.ref16_Wholes, .rc RC.ref16_Wholes),
  (F.maps_Keys_map_int_api_Place_int_api_Place_1, .rc RC.maps_Keys_map_int_api_Place_int_api_Place_1),
  (F.slices_IndexFunc_int_int, .rc RC.slices_IndexFunc_int_int),
  (F.ref04_Ticks, .rc RC.ref04_Ticks),
  (F.ref04_With, .rc RC.ref04_With),
  (F.slices_Sorted_int, .ext X.sk),
  (F.slices_Sort_int_int, .ext X.so)]
/-- What each number stands for. -/
def R0 : Nat → Option FEnt := lookF tab0
/-- The same, with the examples as known. -/
def tab : List (Nat × FEnt) := (F.law22_awake, .ext X.ok) :: tab0
def R : Nat → Option FEnt := lookF tab
theorem R.law22_awake : R F.law22_awake = some (.ext X.ok) := by with_unfolding_all rfl
theorem R.law22_DiffChanges : R F.law22_DiffChanges = some (.rc RC.law22_DiffChanges) := by with_unfolding_all rfl
theorem R.law22_DiffSelf : R F.law22_DiffSelf = some (.rc RC.law22_DiffSelf) := by with_unfolding_all rfl
theorem R.law22_DiffLists : R F.law22_DiffLists = some (.rc RC.law22_DiffLists) := by with_unfolding_all rfl
theorem R.law22_right : R F.law22_right = some (.rc RC.law22_right) := by with_unfolding_all rfl
theorem R.diff_Changes : R F.diff_Changes = some (.rc RC.diff_Changes) := by with_unfolding_all rfl
theorem R.ref22_List : R F.ref22_List = some (.rc RC.ref22_List) := by with_unfolding_all rfl
theorem R.diff_Shift : R F.diff_Shift = some (.rc RC.diff_Shift) := by with_unfolding_all rfl
theorem R.ref22_Shift : R F.ref22_Shift = some (.rc RC.ref22_Shift) := by with_unfolding_all rfl
theorem R.ref16_Find : R F.ref16_Find = some (.rc RC.ref16_Find) := by with_unfolding_all rfl
theorem R.ref16_SamePlace : R F.ref16_SamePlace = some (.rc RC.ref16_SamePlace) := by with_unfolding_all rfl
theorem R.diff_Moved : R F.diff_Moved = some (.rc RC.diff_Moved) := by with_unfolding_all rfl
theorem R.ref03_Same : R F.ref03_Same = some (.rc RC.ref03_Same) := by with_unfolding_all rfl
theorem R.diff_Came : R F.diff_Came = some (.rc RC.diff_Came) := by with_unfolding_all rfl
theorem R.diff_Gone : R F.diff_Gone = some (.rc RC.diff_Gone) := by with_unfolding_all rfl
theorem R.diff_Resized : R F.diff_Resized = some (.rc RC.diff_Resized) := by with_unfolding_all rfl
theorem R.law16_Light : R F.law16_Light = some (.rc RC.law16_Light) := by with_unfolding_all rfl
theorem R.ref16_Right : R F.ref16_Right = some (.rc RC.ref16_Right) := by with_unfolding_all rfl
theorem R.diff_places : R F.diff_places = some (.rc RC.diff_places) := by with_unfolding_all rfl
theorem R.diff_some : R F.diff_some = some (.rc RC.diff_some) := by with_unfolding_all rfl
theorem R.diff_Changes_1 : R F.diff_Changes_1 = some (.rc RC.diff_Changes_1) := by with_unfolding_all rfl
theorem R.plan_SamePlace : R F.plan_SamePlace = some (.rc RC.plan_SamePlace) := by with_unfolding_all rfl
theorem R.diff_clone : R F.diff_clone = some (.rc RC.diff_clone) := by with_unfolding_all rfl
theorem R.ref22_Units : R F.ref22_Units = some (.rc RC.ref22_Units) := by with_unfolding_all rfl
theorem R.ref22_Moved : R F.ref22_Moved = some (.rc RC.ref22_Moved) := by with_unfolding_all rfl
theorem R.mask_Count : R F.mask_Count = some (.rc RC.mask_Count) := by with_unfolding_all rfl
theorem R.diff_window : R F.diff_window = some (.rc RC.diff_window) := by with_unfolding_all rfl
theorem R.ref16_At : R F.ref16_At = some (.rc RC.ref16_At) := by with_unfolding_all rfl
theorem R.diff_Moved_1 : R F.diff_Moved_1 = some (.rc RC.diff_Moved_1) := by with_unfolding_all rfl
theorem R.diff_moved : R F.diff_moved = some (.rc RC.diff_moved) := by with_unfolding_all rfl
theorem R.diff_Came_1 : R F.diff_Came_1 = some (.rc RC.diff_Came_1) := by with_unfolding_all rfl
theorem R.diff_Gone_1 : R F.diff_Gone_1 = some (.rc RC.diff_Gone_1) := by with_unfolding_all rfl
theorem R.diff_Resized_1 : R F.diff_Resized_1 = some (.rc RC.diff_Resized_1) := by with_unfolding_all rfl
theorem R.ref16_place : R F.ref16_place = some (.rc RC.ref16_place) := by with_unfolding_all rfl
theorem R.ref16_apart : R F.ref16_apart = some (.rc RC.ref16_apart) := by with_unfolding_all rfl
theorem R.ref16_Splits : R F.ref16_Splits = some (.rc RC.ref16_Splits) := by with_unfolding_all rfl
theorem R.ref16_Cores : R F.ref16_Cores = some (.rc RC.ref16_Cores) := by with_unfolding_all rfl
theorem R.ref16_Load : R F.ref16_Load = some (.rc RC.ref16_Load) := by with_unfolding_all rfl
theorem R.maps_Keys_map_int_api_Place_int_api_Place : R F.maps_Keys_map_int_api_Place_int_api_Place = some (.rc RC.maps_Keys_map_int_api_Place_int_api_Place) := by with_unfolding_all rfl
theorem R.slices_DeleteFunc_int_int : R F.slices_DeleteFunc_int_int = some (.rc RC.slices_DeleteFunc_int_int) := by with_unfolding_all rfl
theorem R.slices_Compact_int_int : R F.slices_Compact_int_int = some (.rc RC.slices_Compact_int_int) := by with_unfolding_all rfl
theorem R.diff_some_1 : R F.diff_some_1 = some (.rc RC.diff_some_1) := by with_unfolding_all rfl
theorem R.slices_Equal_api_Piece_api_Piece : R F.slices_Equal_api_Piece_api_Piece = some (.rc RC.slices_Equal_api_Piece_api_Piece) := by with_unfolding_all rfl
theorem R.slices_Clone_api_Piece_api_Piece : R F.slices_Clone_api_Piece_api_Piece = some (.rc RC.slices_Clone_api_Piece_api_Piece) := by with_unfolding_all rfl
theorem R.ref22_On : R F.ref22_On = some (.rc RC.ref22_On) := by with_unfolding_all rfl
theorem R.math_bits_OnesCount64 : R F.math_bits_OnesCount64 = some (.rc RC.math_bits_OnesCount64) := by with_unfolding_all rfl
theorem R.ref04_Has : R F.ref04_Has = some (.rc RC.ref04_Has) := by with_unfolding_all rfl
theorem R.ref08_Is : R F.ref08_Is = some (.rc RC.ref08_Is) := by with_unfolding_all rfl
theorem R.ref16_Has : R F.ref16_Has = some (.rc RC.ref16_Has) := by with_unfolding_all rfl
theorem R.ref04_Count : R F.ref04_Count = some (.rc RC.ref04_Count) := by with_unfolding_all rfl
theorem R.ref16_Windows : R F.ref16_Windows = some (.rc RC.ref16_Windows) := by with_unfolding_all rfl
theorem R.ref16_Wholes : R F.ref16_Wholes = some (.rc RC.ref16_Wholes) := by with_unfolding_all rfl
theorem R.maps_Keys_map_int_api_Place_int_api_Place_1 : R F.maps_Keys_map_int_api_Place_int_api_Place_1 = some (.rc RC.maps_Keys_map_int_api_Place_int_api_Place_1) := by with_unfolding_all rfl
theorem R.slices_IndexFunc_int_int : R F.slices_IndexFunc_int_int = some (.rc RC.slices_IndexFunc_int_int) := by with_unfolding_all rfl
theorem R.ref04_Ticks : R F.ref04_Ticks = some (.rc RC.ref04_Ticks) := by with_unfolding_all rfl
theorem R.ref04_With : R F.ref04_With = some (.rc RC.ref04_With) := by with_unfolding_all rfl
theorem R.slices_Sorted_int : R F.slices_Sorted_int = some (.ext X.sk) := by with_unfolding_all rfl
theorem R.slices_Sort_int_int : R F.slices_Sort_int_int = some (.ext X.so) := by with_unfolding_all rfl
end Go.Am


/- slices.Sorted of a map's keys, at this program: the kit's contracts laid in plain words (laykeys.py); what stands for the call. -/
namespace Go.Proofs
open Go.Shelf
def Try.keys58_ren : Go.Shelf.Ren := ⟨fun | 10 => 58 | n => n, fun | 33 => 66 | 23 => 44 | 0 => 0 | 4 => 4 | 26 => 3 | 3 => 35 | n => n, fun | n => n⟩
theorem Try.keys58 : Go.Proofs.SlLaysZI.n10 Try.prog Try.keys58_ren := {
  mixed := by kernel_rfl,
  f10 := ⟨Try.f58.name, by decide, Try.func58.trans (congrArg some (by kernel_rfl))⟩,
  t0 := Try.underlying0,
  a0 := Try.isAgg0,
  z0 := Try.sizeOf0,
  v0 := Try.zeroValue0,
  t4 := Try.underlying4,
  a4 := Try.isAgg4,
  z4 := Try.sizeOf4,
  v4 := Try.zeroValue4,
  t23 := Try.underlying44,
  a23 := Try.isAgg44,
  z23 := Try.sizeOf44,
  v23 := Try.zeroValue44,
  t26 := Try.underlying3,
  a26 := Try.isAgg3,
  z26 := Try.sizeOf3,
  v26 := Try.zeroValue3,
  t33 := Try.underlying66,
  a33 := Try.isAgg66,
  z33 := Try.sizeOf66,
  v33 := Try.zeroValue66 }
def Try.sorted_ren : Go.Shelf.Ren := ⟨fun | 6 => 41 | 8 => 57 | 9 => 43 | 11 => 64 | 13 => 60 | 12 => 59 | 23 => 74 | 24 => 75 | 14 => 65 | 15 => 66 | 16 => 67 | 17 => 68 | 18 => 69 | 19 => 70 | 20 => 71 | 21 => 72 | 22 => 73 | 25 => 76 | 26 => 77 | 27 => 78 | 28 => 79 | 29 => 80 | 30 => 81 | 31 => 82 | n => n, fun | 26 => 3 | 28 => 61 | 24 => 30 | 0 => 0 | 3 => 3 | 37 => 79 | 48 => 22 | 50 => 50 | 4 => 4 | 40 => 86 | 39 => 85 | 45 => 91 | 5 => 5 | 9 => 9 | 51 => 94 | 55 => 98 | 57 => 100 | 58 => 101 | 33 => 66 | n => n, fun | n => n⟩
theorem Try.sorted : Go.Proofs.SlLaysZI.n6 Try.prog Try.sorted_ren := {
  mixed := by kernel_rfl,
  f6 := ⟨Try.f41.name, by decide, Try.func41.trans (congrArg some (by kernel_rfl))⟩,
  f8 := ⟨Try.f57.name, by decide, Try.func57.trans (congrArg some (by kernel_rfl))⟩,
  f11 := ⟨Try.f64.name, by decide, Try.func64.trans (congrArg some (by kernel_rfl))⟩,
  t0 := Try.underlying0,
  a0 := Try.isAgg0,
  z0 := Try.sizeOf0,
  v0 := Try.zeroValue0,
  t24 := Try.underlying30,
  a24 := Try.isAgg30,
  z24 := Try.sizeOf30,
  v24 := Try.zeroValue30,
  t26 := Try.underlying3,
  a26 := Try.isAgg3,
  z26 := Try.sizeOf3,
  v26 := Try.zeroValue3,
  t28 := Try.underlying61,
  a28 := Try.isAgg61,
  z28 := Try.sizeOf61,
  v28 := Try.zeroValue61,
  i26 := by kernel_rfl }
def Try.sort_ren : Go.Shelf.Ren := ⟨fun | 5 => 43 | 8 => 60 | 7 => 59 | 19 => 74 | 20 => 75 | 10 => 65 | 11 => 66 | 12 => 67 | 13 => 68 | 14 => 69 | 15 => 70 | 16 => 71 | 17 => 72 | 18 => 73 | 30 => 76 | 31 => 77 | 32 => 78 | 33 => 79 | 34 => 80 | 35 => 81 | 40 => 82 | n => n, fun | 23 => 30 | 25 => 3 | 3 => 3 | 32 => 79 | 22 => 30 | 0 => 0 | 44 => 22 | 46 => 50 | 4 => 4 | 36 => 86 | 35 => 85 | 41 => 91 | 5 => 5 | 9 => 9 | 53 => 94 | 57 => 98 | 63 => 100 | 64 => 101 | n => n, fun | n => n⟩
theorem Try.sort : Go.Proofs.SlLaysM.n5 Try.prog Try.sort_ren := {
  mixed := by kernel_rfl,
  f5 := ⟨Try.f43.name, by decide, Try.func43.trans (congrArg some (by kernel_rfl))⟩,
  f7 := ⟨Try.f59.name, by decide, Try.func59.trans (congrArg some (by kernel_rfl))⟩,
  f8 := Try.func60.trans (congrArg some (by kernel_rfl)),
  f10 := ⟨Try.f65.name, by decide, Try.func65.trans (congrArg some (by kernel_rfl))⟩,
  f11 := ⟨Try.f66.name, by decide, Try.func66.trans (congrArg some (by kernel_rfl))⟩,
  f12 := ⟨Try.f67.name, by decide, Try.func67.trans (congrArg some (by kernel_rfl))⟩,
  f13 := ⟨Try.f68.name, by decide, Try.func68.trans (congrArg some (by kernel_rfl))⟩,
  f14 := ⟨Try.f69.name, by decide, Try.func69.trans (congrArg some (by kernel_rfl))⟩,
  f15 := ⟨Try.f70.name, by decide, Try.func70.trans (congrArg some (by kernel_rfl))⟩,
  f16 := ⟨Try.f71.name, by decide, Try.func71.trans (congrArg some (by kernel_rfl))⟩,
  f17 := ⟨Try.f72.name, by decide, Try.func72.trans (congrArg some (by kernel_rfl))⟩,
  f18 := ⟨Try.f73.name, by decide, Try.func73.trans (congrArg some (by kernel_rfl))⟩,
  f19 := Try.func74.trans (congrArg some (by kernel_rfl)),
  f20 := Try.func75.trans (congrArg some (by kernel_rfl)),
  f30 := ⟨Try.f76.name, by decide, Try.func76.trans (congrArg some (by kernel_rfl))⟩,
  f31 := Try.func77.trans (congrArg some (by kernel_rfl)),
  f32 := Try.func78.trans (congrArg some (by kernel_rfl)),
  f33 := ⟨Try.f79.name, by decide, Try.func79.trans (congrArg some (by kernel_rfl))⟩,
  f34 := ⟨Try.f80.name, by decide, Try.func80.trans (congrArg some (by kernel_rfl))⟩,
  f35 := ⟨Try.f81.name, by decide, Try.func81.trans (congrArg some (by kernel_rfl))⟩,
  f40 := ⟨Try.f82.name, by decide, Try.func82.trans (congrArg some (by kernel_rfl))⟩,
  t0 := Try.underlying0,
  a0 := Try.isAgg0,
  z0 := Try.sizeOf0,
  v0 := Try.zeroValue0,
  t3 := Try.underlying3,
  a3 := Try.isAgg3,
  z3 := Try.sizeOf3,
  v3 := Try.zeroValue3,
  t4 := Try.underlying4,
  a4 := Try.isAgg4,
  z4 := Try.sizeOf4,
  v4 := Try.zeroValue4,
  t5 := Try.underlying5,
  a5 := Try.isAgg5,
  z5 := Try.sizeOf5,
  v5 := Try.zeroValue5,
  t9 := Try.underlying9,
  a9 := Try.isAgg9,
  z9 := Try.sizeOf9,
  v9 := Try.zeroValue9,
  t22 := Try.underlying30,
  a22 := Try.isAgg30,
  z22 := Try.sizeOf30,
  v22 := Try.zeroValue30,
  t23 := Try.underlying30,
  a23 := Try.isAgg30,
  z23 := Try.sizeOf30,
  v23 := Try.zeroValue30,
  t25 := Try.underlying3,
  a25 := Try.isAgg3,
  z25 := Try.sizeOf3,
  v25 := Try.zeroValue3,
  t32 := Try.underlying79,
  a32 := Try.isAgg79,
  z32 := Try.sizeOf79,
  v32 := Try.zeroValue79,
  t35 := Try.underlying85,
  a35 := Try.isAgg85,
  z35 := Try.sizeOf85,
  v35 := Try.zeroValue85,
  t36 := Try.underlying86,
  a36 := Try.isAgg86,
  z36 := Try.sizeOf86,
  v36 := Try.zeroValue86,
  t41 := Try.underlying91,
  a41 := Try.isAgg91,
  z41 := Try.sizeOf91,
  v41 := Try.zeroValue91,
  t44 := Try.underlying22,
  a44 := Try.isAgg22,
  z44 := Try.sizeOf22,
  v44 := Try.zeroValue22,
  t46 := Try.underlying50,
  a46 := Try.isAgg50,
  z46 := Try.sizeOf50,
  v46 := Try.zeroValue50,
  t53 := Try.underlying94,
  a53 := Try.isAgg94,
  z53 := Try.sizeOf94,
  v53 := Try.zeroValue94,
  t57 := Try.underlying98,
  a57 := Try.isAgg98,
  z57 := Try.sizeOf98,
  v57 := Try.zeroValue98,
  t63 := Try.underlying100,
  a63 := Try.isAgg100,
  z63 := Try.sizeOf100,
  v63 := Try.zeroValue100,
  t64 := Try.underlying101,
  a64 := Try.isAgg101,
  z64 := Try.sizeOf101,
  v64 := Try.zeroValue101 }
end Go.Proofs
namespace Go.Am
open Go.Proofs
theorem X.sk_sim {G : Nat → World → Prop} (args : List Value) (m : Mem) (v : Value) (m' : Mem) (h : X.sk args m = some (v, m')) : SimCall Try.prog G 41 args m v m' := by
  refine X.skeys_sim (ρs := Try.sorted_ren) (ρq := Try.sort_ren) Try.sorted Try.sort rfl (enters_of Try.func43 (by kernel_rfl) rfl) ?_ args m v m' h
  intro g hg
  simp only [List.mem_cons, List.not_mem_nil, or_false] at hg
  rcases hg with rfl
  · exact ⟨Try.keys58_ren, rfl, Try.keys58, rfl, enters_of Try.func58 (by kernel_rfl) rfl⟩
theorem X.so_sim {G : Nat → World → Prop} (args : List Value) (m : Mem) (v : Value) (m' : Mem) (h : X.so args m = some (v, m')) : SimCall Try.prog G 43 args m v m' := X.isort_sim (ρq := Try.sort_ren) Try.sort args m v m' h
end Go.Am


/- The table of the layer diff is as the program has it. Printed by lawgen.py. -/
namespace Go.Am
open Go.Proofs
set_option maxRecDepth 100000

/-- Nothing is asked of the world. -/
def G : Nat → World → Prop := fun _ _ => True
instance : Keeps G := ⟨fun _ _ _ _ h => h⟩
instance : Rises G := ⟨fun _ _ _ _ h => h⟩
theorem hmix : Try.prog.follows .mixedOrders = true := by kernel_rfl
theorem E.law22_DiffChanges : EntOk Try.prog G F.law22_DiffChanges (.rc RC.law22_DiffChanges) := ⟨Try.f3, by unfold F.law22_DiffChanges; exact Try.func3, by kernel_rfl, by kernel_rfl⟩
theorem E.law22_DiffSelf : EntOk Try.prog G F.law22_DiffSelf (.rc RC.law22_DiffSelf) := ⟨Try.f4, by unfold F.law22_DiffSelf; exact Try.func4, by kernel_rfl, by kernel_rfl⟩
theorem E.law22_DiffLists : EntOk Try.prog G F.law22_DiffLists (.rc RC.law22_DiffLists) := ⟨Try.f5, by unfold F.law22_DiffLists; exact Try.func5, by kernel_rfl, by kernel_rfl⟩
theorem E.law22_right : EntOk Try.prog G F.law22_right (.rc RC.law22_right) := ⟨Try.f6, by unfold F.law22_right; exact Try.func6, by kernel_rfl, by kernel_rfl⟩
theorem E.law22_awake : EntOk Try.prog G F.law22_awake (.rc RC.law22_awake) := ⟨Try.f7, by unfold F.law22_awake; exact Try.func7, by kernel_rfl, by kernel_rfl⟩
theorem E.diff_Changes : EntOk Try.prog G F.diff_Changes (.rc RC.diff_Changes) := ⟨Try.f8, by unfold F.diff_Changes; exact Try.func8, by kernel_rfl, by kernel_rfl⟩
theorem E.ref22_List : EntOk Try.prog G F.ref22_List (.rc RC.ref22_List) := ⟨Try.f9, by unfold F.ref22_List; exact Try.func9, by kernel_rfl, by kernel_rfl⟩
theorem E.diff_Shift : EntOk Try.prog G F.diff_Shift (.rc RC.diff_Shift) := ⟨Try.f10, by unfold F.diff_Shift; exact Try.func10, by kernel_rfl, by kernel_rfl⟩
theorem E.ref22_Shift : EntOk Try.prog G F.ref22_Shift (.rc RC.ref22_Shift) := ⟨Try.f11, by unfold F.ref22_Shift; exact Try.func11, by kernel_rfl, by kernel_rfl⟩
theorem E.ref16_Find : EntOk Try.prog G F.ref16_Find (.rc RC.ref16_Find) := ⟨Try.f12, by unfold F.ref16_Find; exact Try.func12, by kernel_rfl, by kernel_rfl⟩
theorem E.ref16_SamePlace : EntOk Try.prog G F.ref16_SamePlace (.rc RC.ref16_SamePlace) := ⟨Try.f13, by unfold F.ref16_SamePlace; exact Try.func13, by kernel_rfl, by kernel_rfl⟩
theorem E.diff_Moved : EntOk Try.prog G F.diff_Moved (.rc RC.diff_Moved) := ⟨Try.f14, by unfold F.diff_Moved; exact Try.func14, by kernel_rfl, by kernel_rfl⟩
theorem E.ref03_Same : EntOk Try.prog G F.ref03_Same (.rc RC.ref03_Same) := ⟨Try.f15, by unfold F.ref03_Same; exact Try.func15, by kernel_rfl, by kernel_rfl⟩
theorem E.diff_Came : EntOk Try.prog G F.diff_Came (.rc RC.diff_Came) := ⟨Try.f16, by unfold F.diff_Came; exact Try.func16, by kernel_rfl, by kernel_rfl⟩
theorem E.diff_Gone : EntOk Try.prog G F.diff_Gone (.rc RC.diff_Gone) := ⟨Try.f17, by unfold F.diff_Gone; exact Try.func17, by kernel_rfl, by kernel_rfl⟩
theorem E.diff_Resized : EntOk Try.prog G F.diff_Resized (.rc RC.diff_Resized) := ⟨Try.f18, by unfold F.diff_Resized; exact Try.func18, by kernel_rfl, by kernel_rfl⟩
theorem E.law16_Light : EntOk Try.prog G F.law16_Light (.rc RC.law16_Light) := ⟨Try.f19, by unfold F.law16_Light; exact Try.func19, by kernel_rfl, by kernel_rfl⟩
theorem E.ref16_Right : EntOk Try.prog G F.ref16_Right (.rc RC.ref16_Right) := ⟨Try.f20, by unfold F.ref16_Right; exact Try.func20, by kernel_rfl, by kernel_rfl⟩
theorem E.diff_places : EntOk Try.prog G F.diff_places (.rc RC.diff_places) := ⟨Try.f21, by unfold F.diff_places; exact Try.func21, by kernel_rfl, by kernel_rfl⟩
theorem E.diff_some : EntOk Try.prog G F.diff_some (.rc RC.diff_some) := ⟨Try.f22, by unfold F.diff_some; exact Try.func22, by kernel_rfl, by kernel_rfl⟩
theorem E.diff_Changes_1 : EntOk Try.prog G F.diff_Changes_1 (.rc RC.diff_Changes_1) := ⟨Try.f23, by unfold F.diff_Changes_1; exact Try.func23, by kernel_rfl, by kernel_rfl⟩
theorem E.plan_SamePlace : EntOk Try.prog G F.plan_SamePlace (.rc RC.plan_SamePlace) := ⟨Try.f24, by unfold F.plan_SamePlace; exact Try.func24, by kernel_rfl, by kernel_rfl⟩
theorem E.diff_clone : EntOk Try.prog G F.diff_clone (.rc RC.diff_clone) := ⟨Try.f25, by unfold F.diff_clone; exact Try.func25, by kernel_rfl, by kernel_rfl⟩
theorem E.ref22_Units : EntOk Try.prog G F.ref22_Units (.rc RC.ref22_Units) := ⟨Try.f26, by unfold F.ref22_Units; exact Try.func26, by kernel_rfl, by kernel_rfl⟩
theorem E.ref22_Moved : EntOk Try.prog G F.ref22_Moved (.rc RC.ref22_Moved) := ⟨Try.f27, by unfold F.ref22_Moved; exact Try.func27, by kernel_rfl, by kernel_rfl⟩
theorem E.mask_Count : EntOk Try.prog G F.mask_Count (.rc RC.mask_Count) := ⟨Try.f28, by unfold F.mask_Count; exact Try.func28, by kernel_rfl, by kernel_rfl⟩
theorem E.diff_window : EntOk Try.prog G F.diff_window (.rc RC.diff_window) := ⟨Try.f29, by unfold F.diff_window; exact Try.func29, by kernel_rfl, by kernel_rfl⟩
theorem E.ref16_At : EntOk Try.prog G F.ref16_At (.rc RC.ref16_At) := ⟨Try.f30, by unfold F.ref16_At; exact Try.func30, by kernel_rfl, by kernel_rfl⟩
theorem E.diff_Moved_1 : EntOk Try.prog G F.diff_Moved_1 (.rc RC.diff_Moved_1) := ⟨Try.f31, by unfold F.diff_Moved_1; exact Try.func31, by kernel_rfl, by kernel_rfl⟩
theorem E.diff_moved : EntOk Try.prog G F.diff_moved (.rc RC.diff_moved) := ⟨Try.f32, by unfold F.diff_moved; exact Try.func32, by kernel_rfl, by kernel_rfl⟩
theorem E.diff_Came_1 : EntOk Try.prog G F.diff_Came_1 (.rc RC.diff_Came_1) := ⟨Try.f33, by unfold F.diff_Came_1; exact Try.func33, by kernel_rfl, by kernel_rfl⟩
theorem E.diff_Gone_1 : EntOk Try.prog G F.diff_Gone_1 (.rc RC.diff_Gone_1) := ⟨Try.f34, by unfold F.diff_Gone_1; exact Try.func34, by kernel_rfl, by kernel_rfl⟩
theorem E.diff_Resized_1 : EntOk Try.prog G F.diff_Resized_1 (.rc RC.diff_Resized_1) := ⟨Try.f35, by unfold F.diff_Resized_1; exact Try.func35, by kernel_rfl, by kernel_rfl⟩
theorem E.ref16_place : EntOk Try.prog G F.ref16_place (.rc RC.ref16_place) := ⟨Try.f36, by unfold F.ref16_place; exact Try.func36, by kernel_rfl, by kernel_rfl⟩
theorem E.ref16_apart : EntOk Try.prog G F.ref16_apart (.rc RC.ref16_apart) := ⟨Try.f37, by unfold F.ref16_apart; exact Try.func37, by kernel_rfl, by kernel_rfl⟩
theorem E.ref16_Splits : EntOk Try.prog G F.ref16_Splits (.rc RC.ref16_Splits) := ⟨Try.f38, by unfold F.ref16_Splits; exact Try.func38, by kernel_rfl, by kernel_rfl⟩
theorem E.ref16_Cores : EntOk Try.prog G F.ref16_Cores (.rc RC.ref16_Cores) := ⟨Try.f39, by unfold F.ref16_Cores; exact Try.func39, by kernel_rfl, by kernel_rfl⟩
theorem E.ref16_Load : EntOk Try.prog G F.ref16_Load (.rc RC.ref16_Load) := ⟨Try.f40, by unfold F.ref16_Load; exact Try.func40, by kernel_rfl, by kernel_rfl⟩
theorem E.maps_Keys_map_int_api_Place_int_api_Place : EntOk Try.prog G F.maps_Keys_map_int_api_Place_int_api_Place (.rc RC.maps_Keys_map_int_api_Place_int_api_Place) := ⟨Try.f42, by unfold F.maps_Keys_map_int_api_Place_int_api_Place; exact Try.func42, by kernel_rfl, by kernel_rfl⟩
theorem E.slices_DeleteFunc_int_int : EntOk Try.prog G F.slices_DeleteFunc_int_int (.rc RC.slices_DeleteFunc_int_int) := ⟨Try.f44, by unfold F.slices_DeleteFunc_int_int; exact Try.func44, by kernel_rfl, by kernel_rfl⟩
theorem E.slices_Compact_int_int : EntOk Try.prog G F.slices_Compact_int_int (.rc RC.slices_Compact_int_int) := ⟨Try.f45, by unfold F.slices_Compact_int_int; exact Try.func45, by kernel_rfl, by kernel_rfl⟩
theorem E.diff_some_1 : EntOk Try.prog G F.diff_some_1 (.rc RC.diff_some_1) := ⟨Try.f46, by unfold F.diff_some_1; exact Try.func46, by kernel_rfl, by kernel_rfl⟩
theorem E.slices_Equal_api_Piece_api_Piece : EntOk Try.prog G F.slices_Equal_api_Piece_api_Piece (.rc RC.slices_Equal_api_Piece_api_Piece) := ⟨Try.f47, by unfold F.slices_Equal_api_Piece_api_Piece; exact Try.func47, by kernel_rfl, by kernel_rfl⟩
theorem E.slices_Clone_api_Piece_api_Piece : EntOk Try.prog G F.slices_Clone_api_Piece_api_Piece (.rc RC.slices_Clone_api_Piece_api_Piece) := ⟨Try.f48, by unfold F.slices_Clone_api_Piece_api_Piece; exact Try.func48, by kernel_rfl, by kernel_rfl⟩
theorem E.ref22_On : EntOk Try.prog G F.ref22_On (.rc RC.ref22_On) := ⟨Try.f49, by unfold F.ref22_On; exact Try.func49, by kernel_rfl, by kernel_rfl⟩
theorem E.math_bits_OnesCount64 : EntOk Try.prog G F.math_bits_OnesCount64 (.rc RC.math_bits_OnesCount64) := ⟨Try.f50, by unfold F.math_bits_OnesCount64; exact Try.func50, by kernel_rfl, by kernel_rfl⟩
theorem E.ref04_Has : EntOk Try.prog G F.ref04_Has (.rc RC.ref04_Has) := ⟨Try.f51, by unfold F.ref04_Has; exact Try.func51, by kernel_rfl, by kernel_rfl⟩
theorem E.ref08_Is : EntOk Try.prog G F.ref08_Is (.rc RC.ref08_Is) := ⟨Try.f52, by unfold F.ref08_Is; exact Try.func52, by kernel_rfl, by kernel_rfl⟩
theorem E.ref16_Has : EntOk Try.prog G F.ref16_Has (.rc RC.ref16_Has) := ⟨Try.f53, by unfold F.ref16_Has; exact Try.func53, by kernel_rfl, by kernel_rfl⟩
theorem E.ref04_Count : EntOk Try.prog G F.ref04_Count (.rc RC.ref04_Count) := ⟨Try.f54, by unfold F.ref04_Count; exact Try.func54, by kernel_rfl, by kernel_rfl⟩
theorem E.ref16_Windows : EntOk Try.prog G F.ref16_Windows (.rc RC.ref16_Windows) := ⟨Try.f55, by unfold F.ref16_Windows; exact Try.func55, by kernel_rfl, by kernel_rfl⟩
theorem E.ref16_Wholes : EntOk Try.prog G F.ref16_Wholes (.rc RC.ref16_Wholes) := ⟨Try.f56, by unfold F.ref16_Wholes; exact Try.func56, by kernel_rfl, by kernel_rfl⟩
theorem E.maps_Keys_map_int_api_Place_int_api_Place_1 : EntOk Try.prog G F.maps_Keys_map_int_api_Place_int_api_Place_1 (.rc RC.maps_Keys_map_int_api_Place_int_api_Place_1) := ⟨Try.f58, by unfold F.maps_Keys_map_int_api_Place_int_api_Place_1; exact Try.func58, by kernel_rfl, by kernel_rfl⟩
theorem E.slices_IndexFunc_int_int : EntOk Try.prog G F.slices_IndexFunc_int_int (.rc RC.slices_IndexFunc_int_int) := ⟨Try.f61, by unfold F.slices_IndexFunc_int_int; exact Try.func61, by kernel_rfl, by kernel_rfl⟩
theorem E.ref04_Ticks : EntOk Try.prog G F.ref04_Ticks (.rc RC.ref04_Ticks) := ⟨Try.f62, by unfold F.ref04_Ticks; exact Try.func62, by kernel_rfl, by kernel_rfl⟩
theorem E.ref04_With : EntOk Try.prog G F.ref04_With (.rc RC.ref04_With) := ⟨Try.f63, by unfold F.ref04_With; exact Try.func63, by kernel_rfl, by kernel_rfl⟩
theorem E.slices_Sorted_int : EntOk Try.prog G F.slices_Sorted_int (.ext X.sk) := ⟨⟨Try.f41, by unfold F.slices_Sorted_int; exact Try.func41, by kernel_rfl, by kernel_rfl⟩, X.sk_frame, by unfold F.slices_Sorted_int; exact X.sk_sim⟩
theorem E.slices_Sort_int_int : EntOk Try.prog G F.slices_Sort_int_int (.ext X.so) := ⟨⟨Try.f43, by unfold F.slices_Sort_int_int; exact Try.func43, by kernel_rfl, by kernel_rfl⟩, X.so_frame, by unfold F.slices_Sort_int_int; exact X.so_sim⟩
theorem ents : EntsOk Try.prog G tab0 := ⟨E.law22_DiffChanges, E.law22_DiffSelf, E.law22_DiffLists, E.law22_right, E.law22_awake, E.diff_Changes, E.ref22_List, E.diff_Shift, E.ref22_Shift, E.ref16_Find, E.ref16_SamePlace, E.diff_Moved, E.ref03_Same, E.diff_Came, E.diff_Gone, E.diff_Resized, E.law16_Light, E.ref16_Right, E.diff_places, E.diff_some, E.diff_Changes_1, E.plan_SamePlace, E.diff_clone, E.ref22_Units, E.ref22_Moved, E.mask_Count, E.diff_window, E.ref16_At, E.diff_Moved_1, E.diff_moved, E.diff_Came_1, E.diff_Gone_1, E.diff_Resized_1, E.ref16_place, E.ref16_apart, E.ref16_Splits, E.ref16_Cores, E.ref16_Load, E.maps_Keys_map_int_api_Place_int_api_Place, E.slices_DeleteFunc_int_int, E.slices_Compact_int_int, E.diff_some_1, E.slices_Equal_api_Piece_api_Piece, E.slices_Clone_api_Piece_api_Piece, E.ref22_On, E.math_bits_OnesCount64, E.ref04_Has, E.ref08_Is, E.ref16_Has, E.ref04_Count, E.ref16_Windows, E.ref16_Wholes, E.maps_Keys_map_int_api_Place_int_api_Place_1, E.slices_IndexFunc_int_int, E.ref04_Ticks, E.ref04_With, E.slices_Sorted_int, E.slices_Sort_int_int, trivial⟩
theorem tabOk0 : TabOk Try.prog G R0 := TabOk.of ents
theorem C.law22_awake : EntOk Try.prog G F.law22_awake (.ext X.ok) := X.ok_sim (const_sim hmix tabOk0 (n := 1000) (by kernel_rfl))
theorem tabOk : TabOk Try.prog G R := TabOk.of (l := tab) (⟨C.law22_awake, ents⟩)
end Go.Am


/- Blocks, by their numbers: loads and stores as what they do to a block's cells. -/
set_option linter.unusedVariables false
namespace Go.Am

def ldW : Option AObj → Nat → Option Value
  | some (.cells c _), o => c[o]?
  | _, _ => none
def ldA : Option AObj → Nat → Nat → Option Value
  | some (.cells c _), o, sz => if o + sz ≤ c.length then some (.agg ((c.drop o).take sz).toArray) else none
  | _, _, _ => none
def stB (m : Mem) (b : Nat) : Option AObj → Nat → List Value → Option Mem
  | some (.cells c (some u)), o, vs => if o + vs.length ≤ c.length ∧ oneCells vs = true then some (m.set b (some (.cells (writeL c o vs) (some u)))) else none
  | _, _, _ => none

theorem ldW_c {c : List Value} {own : Option Nat} {o : Nat} : ldW (some (.cells c own)) o = c[o]? := rfl
theorem ldA_c {c : List Value} {own : Option Nat} {o sz : Nat} : ldA (some (.cells c own)) o sz = if o + sz ≤ c.length then some (.agg ((c.drop o).take sz).toArray) else none := rfl
theorem stB_c {m : Mem} {b u o : Nat} {c vs : List Value} : stB m b (some (.cells c (some u))) o vs = if o + vs.length ≤ c.length ∧ oneCells vs = true then some (m.set b (some (.cells (writeL c o vs) (some u)))) else none := rfl

theorem load_w {m : Mem} {sz b o : Nat} : aLoad false sz m (.pointer (some ⟨b, o, none⟩)) = ldW (m.blk b) o := by
  simp only [aLoad, Bool.false_eq_true, if_false]
  unfold ldW
  split <;> simp_all
theorem load_a {m : Mem} {sz b o : Nat} : aLoad true sz m (.pointer (some ⟨b, o, none⟩)) = ldA (m.blk b) o sz := by
  simp only [aLoad, if_true]
  unfold ldA
  split <;> simp_all
theorem store_b {m : Mem} {sz b o : Nat} {v : Value} : aStore sz m (.pointer (some ⟨b, o, none⟩)) v = if v.cells.size = sz then stB m b (m.blk b) o v.cells.toList else none := by
  simp only [aStore]
  split
  · unfold aWrite stB
    split <;> simp_all
  · rfl
theorem idxS_b {u b o n c : Nat} {k : IntKind} {i : Int} : aIdxS u (.slice (some ⟨b, o, none⟩) n c) (.int k i) = if 0 ≤ i ∧ i < n then some (.pointer (some ⟨b, o + i.toNat * u, none⟩)) else none := rfl
theorem set_blk {m : Mem} {b k : Nat} {o : Option AObj} : (m.set b o).blk k = if k = b then o else m.blk k := rfl
theorem new_blk {m : Mem} {k : Nat} {o : AObj} : (m.new o).blk k = if k = m.next then some o else m.blk k := rfl
theorem set_next {m : Mem} {b : Nat} {o : Option AObj} : (m.set b o).next = m.next := rfl
theorem new_next {m : Mem} {o : AObj} : (m.new o).next = m.next + 1 := rfl
theorem len_s {a : Option Addr} {n c : Nat} : aLen (.slice a n c) = some (.int .i64 n) := rfl
theorem writeL_one {cs : List Value} {i : Nat} {v : Value} (h : i < cs.length) : writeL cs i [v] = cs.set i v := writeL_set h
theorem toArr_one {v : Value} : (#[v] : Array Value).toList = [v] := rfl
theorem size_one {v : Value} : (#[v] : Array Value).size = 1 := rfl
theorem toList_toArr {l : List Value} : l.toArray.toList = l := rfl
theorem size_toArr {l : List Value} : l.toArray.size = l.length := by simp

/-- What is at these blocks may have changed; all else is as it was. -/
structure Upd (m m' : Mem) (fp : List Nat) : Prop where
  next : m.next ≤ m'.next
  same : ∀ b, b < m.next → b ∉ fp → m'.blk b = m.blk b

theorem Upd.refl (m : Mem) (fp : List Nat) : Upd m m fp := ⟨Nat.le_refl _, fun _ _ _ => rfl⟩
theorem Upd.trans {a b c : Mem} {fp fq fr : List Nat} (h : Upd a b fp) (k : Upd b c fq) (h1 : ∀ x ∈ fp, x ∈ fr) (h2 : ∀ x ∈ fq, x ∈ fr ∨ a.next ≤ x) : Upd a c fr :=
  ⟨Nat.le_trans h.next k.next, fun x hx hn => by
    rw [k.same x (Nat.lt_of_lt_of_le hx h.next) (fun hm => by rcases h2 x hm with h3 | h3; exact hn h3; omega), h.same x hx (fun hm => hn (h1 x hm))]⟩
theorem Ext.upd {m m' : Mem} (h : Ext m m') {fp : List Nat} : Upd m m' fp := ⟨h.next, fun b hb _ => h.same b hb⟩
theorem Upd.ext {m m' : Mem} (h : Upd m m' []) : Ext m m' := ⟨h.next, fun b hb => h.same b hb (by simp)⟩
theorem Upd.set {m : Mem} {b : Nat} {o : Option AObj} {fp : List Nat} (h : b ∈ fp) : Upd m (m.set b o) fp :=
  ⟨Nat.le_refl _, fun x hx hn => by rw [set_blk, if_neg (fun e => hn (by rw [e]; exact h))]⟩
/-- Only blocks from some number on have changed. -/
theorem Upd.ext_of {m0 m m' : Mem} {fp : List Nat} (h0 : Ext m0 m) (h : Upd m m' fp) (hf : ∀ x ∈ fp, m0.next ≤ x) : Ext m0 m' :=
  ⟨Nat.le_trans h0.next h.next, fun b hb => by
    rw [h.same b (Nat.lt_of_lt_of_le hb h0.next) (fun hm => by have := hf b hm; omega), h0.same b hb]⟩
end Go.Am
