/- Parts of the proofs of the statements of this seat: AmSort, StageKeyD, AmTabStage, StageKeys, AmTieStage, AmBlk, AmSl2. No conditions. -/
import Derived.Test.YtpmibdpnhbbblaaStageLatePart3
import Derived.Laws.IdiomCopy
import Derived.Test.YtpmibdpnhbbblaaProg
import Derived.Test.YtpmibdpnhbbblaaRows
set_option linter.unusedVariables false
set_option linter.unusedSimpArgs false

/- slices.Sort at whole numbers, in place. -/
namespace Go.Am
open Go.RowKit Go.Shelf Go.Proofs
open Go.Sort (putRow mapBlock putCells grow onCells Holds setCell_eq mapBlock_mapBlock mapBlock_congr mapBlock_id modify_append_left)

def cellInts : List Value → Option (List Int)
  | [] => some []
  | .int .i64 n :: r => (cellInts r).map (n :: ·)
  | _ => none

def X.isort : List Value → Mem → Option (Value × Mem)
  | [.slice none 0 0], m => some (.tuple #[], m)
  | [.slice (some ⟨b, o, none⟩) n _], m =>
    match m.blk b with
    | some (.cells cs (some u)) =>
      if o + n ≤ cs.length ∧ n ≤ 1000000 then
        (cellInts ((cs.drop o).take n)).map fun zs => (.tuple #[], m.set b (some (.cells (writeL cs o ((sortI zs).map (.int .i64))) (some u))))
      else none
    | _ => none
  | _, _ => none

theorem cellInts_eq : ∀ {l : List Value} {zs : List Int}, cellInts l = some zs → l = zs.map (.int .i64)
  | [], zs, h => by cases h; rfl
  | v :: r, zs, h => by
    unfold cellInts at h
    split at h
    · cases ‹_ = []›
    · rename_i n r' e
      cases e
      obtain ⟨q, h1, rfl⟩ := Option.map_eq_some_iff.1 h
      rw [cellInts_eq h1]; rfl
    · cases h
theorem cellInts_map : ∀ {zs : List Int}, cellInts (zs.map (.int .i64)) = some zs
  | [] => rfl
  | z :: r => by simp only [List.map_cons, cellInts, cellInts_map, Option.map_some]

theorem X.isort_frame : ExtFrame X.isort := by
  intro args m v m' k o hk hlt h
  unfold X.isort at h ⊢
  split at h
  · cases h; exact ⟨rfl, hk, hlt, Nat.le_refl _⟩
  · rename_i b o' n c
    split at h
    · rename_i cs u hb
      have hne : b ≠ k := by rintro rfl; rw [hk] at hb; cases hb
      have hb2 : (m.set k (some o)).blk b = some (.cells cs (some u)) := by rw [Mem.set_ne _ _ hne]; exact hb
      simp only [hb2]
      split at h
      · rename_i hcond
        rw [if_pos hcond]
        obtain ⟨zs, h1, h2⟩ := Option.map_eq_some_iff.1 h
        cases h2
        rw [h1]
        refine ⟨?_, ?_, ?_, ?_⟩
        · simp only [Option.map_some, Option.some.injEq, Prod.mk.injEq, true_and]
          simp only [Mem.set]
          congr 1
          funext x
          by_cases e1 : x = b
          · subst e1; simp [hne]
          · by_cases e2 : x = k
            · subst e2; simp [e1]
            · simp [e1, e2]
        · simp [Mem.set, hk]; exact fun e => absurd e.symm hne
        · simpa [Mem.set] using hlt
        · simp [Mem.set]
      · cases h
    · cases h
  · cases h

variable {P : Program} {B0 : Nat} {σ : Inj} {m : Mem} {w : World}

/-- A row of cells set in an own block. -/
theorem MR.stores {b u : Nat} {i : Img} (hb : σ b = .live i) (hB : B0 ≤ i.block) : ∀ (vs vs' : List Value) (o : Nat) {m : Mem} {w : World} {c : List Value}, MR B0 σ m w → m.blk b = some (.cells c (some u)) → o + vs.length ≤ c.length → LR σ vs vs' →
    MR B0 σ (m.set b (some (.cells (writeL c o vs) (some u)))) (w.setCells i.block (i.off + o) vs') ∧ Below B0 w (w.setCells i.block (i.off + o) vs')
  | [], vs', o, m, w, c, h, hm, hl, hr => by
    obtain rfl : vs' = [] := List.eq_nil_of_length_eq_zero hr.1.symm
    have e : writeL c o [] = c := by unfold writeL; simp
    have : m.set b (some (.cells (writeL c o []) (some u))) = m := by
      rw [e]
      unfold Mem.set; congr 1; funext q; split
      · rename_i e; subst e; exact hm.symm
      · rfl
    rw [this]
    exact ⟨h, Below.refl _ _⟩
  | v :: vs, vs', o, m, w, c, h, hm, hl, hr => by
    obtain ⟨v', r', rfl, h1, h2⟩ := hr.cons_inv
    have hlt : o < c.length := by simp at hl; omega
    have g := h.store hb hm hlt h1
    obtain ⟨k1, k2⟩ := MR.stores (u := u) hb hB vs r' (o + 1) g (c := c.set o v) (by simp [Mem.set]) (by simp at hl ⊢; omega) h2
    rw [writeL_cons hlt] at k1
    have e : (m.set b (some (.cells (c.set o v) (some u)))).set b (some (.cells (writeL c o (v :: vs)) (some u))) = m.set b (some (.cells (writeL c o (v :: vs)) (some u))) := by
      unfold Mem.set; congr 1; funext q; simp only []; split <;> rfl
    rw [e] at k1
    rw [World.setCells]
    exact ⟨k1, ((Below.refl _ w).setCell hB v').trans k2⟩

theorem putRow_cells : ∀ (zs : List Int) (w : World) (b o : Nat), putRow (Value.int .i64) w b o zs.toArray = w.setCells b o (zs.map (.int .i64))
  | [], w, b, o => by
    unfold putRow World.setCells
    refine mapBlock_id _ _ _ fun c e fr _ => ?_
    apply Array.ext_getElem?
    intro k
    simp only [putCells, Array.getElem?_mapIdx]
    cases c[k]? with
    | none => rfl
    | some x =>
      simp only [Option.map_some, Option.some.injEq]
      rw [if_neg (by simp only [List.size_toArray, List.length_nil]; omega)]
  | z :: zs, w, b, o => by
    rw [List.map_cons, World.setCells, ← putRow_cells zs]
    unfold putRow
    rw [setCell_eq, mapBlock_mapBlock]
    refine mapBlock_congr _ _ _ _ fun c e fr _ => ?_
    apply Array.ext_getElem?
    intro k
    simp only [putCells, Array.getElem?_mapIdx, Array.getElem?_setIfInBounds]
    by_cases hk : o = k
    · subst hk
      rw [if_pos rfl]
      by_cases hc : o < c.size
      · rw [if_pos hc, Array.getElem?_eq_getElem hc]
        simp only [Option.map_some, Option.some.injEq]
        rw [if_pos ⟨Nat.le_refl _, by simp⟩, if_neg (by omega), Nat.sub_self]
        simp
      · rw [if_neg hc, Array.getElem?_eq_none (by omega)]
        rfl
    · rw [if_neg hk]
      cases c[k]? with
      | none => rfl
      | some x =>
        simp only [Option.map_some, Option.some.injEq]
        by_cases h1 : o + 1 ≤ k ∧ k < o + 1 + zs.toArray.size
        · have h2 : o ≤ k ∧ k < o + (z :: zs).toArray.size := by simp at h1 ⊢; omega
          rw [if_pos h1, if_pos h2]
          congr 1
          have e : k - o = (k - (o + 1)) + 1 := by omega
          have h3 : k - (o + 1) < zs.length := by simp at h1; omega
          rw [e]
          rw [getElem!_pos _ _ (by simpa using h3), getElem!_pos _ _ (by simpa using h3)]
          simp
        · have h2 : ¬ (o ≤ k ∧ k < o + (z :: zs).toArray.size) := by simp at h1 ⊢; omega
          rw [if_neg h1, if_neg h2]

theorem X.isort_sim {P : Program} {G : Nat → World → Prop} {ρq : Ren} (LQ : SlLaysM.n5 P ρq) (args : List Value) (m : Mem) (v : Value) (m' : Mem) (h : X.isort args m = some (v, m')) : SimCall P G (ρq.f 5) args m v m' := by
  intro B0 σ args2 w hG hl hm
  have vt : VR σ (.tuple #[]) (.tuple #[]) := .tuple rfl fun i hi => by simp at hi
  unfold X.isort at h
  split at h
  · cases h
    obtain ⟨y, r, rfl, hy, hr⟩ := hl.cons_inv
    obtain rfl : r = [] := List.eq_nil_of_length_eq_zero hr.1.symm
    cases hy with
    | sliceNil =>
      refine (AnyM.slices_Sort_int_none LQ none 0 w).mono ?_
      rintro e w2 ⟨rfl, rfl⟩
      exact ⟨_, rfl, OpR.pure hm vt⟩
  · rename_i b o n c
    split at h
    · rename_i cs u hb
      split at h
      · rename_i hcond
        obtain ⟨zs, h1, h2⟩ := Option.map_eq_some_iff.1 h
        cases h2
        have hz := cellInts_eq h1
        obtain ⟨i, hi⟩ := hm.live_of hb
        obtain ⟨y, r, rfl, hy, hr⟩ := hl.cons_inv
        obtain rfl : r = [] := List.eq_nil_of_length_eq_zero hr.1.symm
        obtain ⟨hlen, hcells⟩ := hm.cells b i cs _ hi hb
        obtain ⟨-, hB, hrw⟩ := hm.rw b i cs u hi hb
        have hzl : zs.length = n := by have := congrArg List.length hz; simp at this; omega
        have hsl : (∃ c', y = .slice (some ⟨i.block, i.off + o, none⟩) n c') ∨ ∃ q, n = 0 ∧ y = .slice (some q) 0 0 := by
          cases hy with
          | slice h1 h2 h3 => rw [hi] at h1; cases h1; exact .inl ⟨_, rfl⟩
          | sliceZ h1 => exact .inr ⟨_, rfl, rfl⟩
          | sliceDead h1 => rw [hi] at h1; cases h1
        rcases hsl with ⟨c', rfl⟩ | ⟨q, rfl, rfl⟩
        rotate_left
        · obtain rfl : zs = [] := List.eq_nil_of_length_eq_zero hzl
          have e : m.set b (some (.cells (writeL cs o ((sortI []).map (.int .i64))) (some u))) = m := by
            have e1 : writeL cs o ((sortI []).map (.int .i64)) = cs := by unfold writeL; simp [sortI]
            rw [e1]
            unfold Mem.set; congr 1; funext q; split
            · rename_i e; subst e; exact hb.symm
            · rfl
          rw [e]
          refine (AnyM.slices_Sort_int_none LQ (some q) 0 w).mono ?_
          rintro e w2 ⟨rfl, rfl⟩
          exact ⟨_, rfl, OpR.pure hm vt⟩
        have hlt := hm.lt b i hi
        have hH : Holds (Value.int .i64) w i.block (i.off + o) zs.toArray := by
          intro j hj
          have hj' : j < zs.length := by simpa using hj
          have hg : cs[o + j]? = some (.int .i64 zs[j]) := by
            have : ((cs.drop o).take n)[j]? = some (.int .i64 zs[j]) := by
              rw [hz, List.getElem?_map, List.getElem?_eq_getElem hj']; rfl
            rwa [List.getElem?_take_of_lt (by omega), List.getElem?_drop] at this
          obtain ⟨v', g1, g2⟩ := hcells (o + j) _ hg
          cases g2
          refine ⟨?_, ?_⟩
          · rw [Nat.add_assoc, g1, getElem!_pos (zs.toArray) j hj]; simp
          · exact (hrw (o + j) (by omega)).2 _
        have key := AnyM.slices_Sort_int LQ i.block (i.off + o) c' zs w hH hlt (by omega)
        rw [hzl] at key
        refine key.mono ?_
        rintro e w2 ⟨rfl, nn, os, rfl⟩
        have hbel : Below w.heap.size w (grow (Go.Sort.ahead w nn) os) := ⟨rfl, rfl, rfl, by simp [grow, Go.Sort.ahead], fun k hk => by
          simp only [grow, Go.Sort.ahead]
          rw [Array.getElem?_append_left hk]⟩
        have hw2 : grow (putRow (Value.int .i64) (Go.Sort.ahead w nn) i.block (i.off + o) (zs.mergeSort fun x y => decide (x ≤ y)).toArray) os = (grow (Go.Sort.ahead w nn) os).setCells i.block (i.off + o) ((sortI zs).map (.int .i64)) := by
          rw [mergeSort_sortI (List.Perm.refl zs), ← putRow_cells]
          unfold putRow mapBlock grow
          simp only [modify_append_left _ _ _ _ (show i.block < (Go.Sort.ahead w nn).heap.size from hlt)]
        rw [hw2]
        have hm2 := hm.below hbel
        have hrel : LR σ ((sortI zs).map (.int .i64)) ((sortI zs).map (.int .i64)) := ⟨rfl, fun j x y hx hy => by
          rw [hx] at hy; cases hy
          rw [List.getElem?_map, Option.map_eq_some_iff] at hx
          obtain ⟨q, -, rfl⟩ := hx
          exact .int _ _⟩
        obtain ⟨k1, k2⟩ := MR.stores hi hB _ _ o hm2 hb (by rw [List.length_map, sortI_len, hzl]; exact hcond.1) hrel
        exact ⟨_, rfl, ⟨σ, vt, k1, .refl σ, (hbel.mono hm.size).trans k2, by simp [Mem.set], fun _ _ _ h => h⟩⟩
      · cases h
    · cases h
  · cases h
end Go.Am


/- What stands for slices.Sorted of a map's keys at this program (laykeys.py). -/
namespace Go.Am
def X.sk : List Value → Mem → Option (Value × Mem) := X.skeys [60]
theorem X.sk_frame : ExtFrame X.sk := X.skeys_frame _
def X.so : List Value → Mem → Option (Value × Mem) := X.isort
theorem X.so_frame : ExtFrame X.so := X.isort_frame
end Go.Am


/- The functions of the layer stage in the form of the abstract machine. Printed by amgen.py. -/
set_option linter.unusedVariables false
namespace Go.Am

@[irreducible] def F.law26_StageLate : Nat := 3
@[irreducible] def F.law26_StageNobody : Nat := 4
@[irreducible] def F.stage_New : Nat := 5
@[irreducible] def F.stage_Stage_Staged : Nat := 6
@[irreducible] def F.law16_Light : Nat := 7
@[irreducible] def F.stage_Stage_Active : Nat := 8
@[irreducible] def F.stage_Stage_Set : Nat := 9
@[irreducible] def F.ref16_Same : Nat := 10
@[irreducible] def F.stage_Stage_Turn : Nat := 11
@[irreducible] def F.law26_awake : Nat := 12
@[irreducible] def F.law26_one : Nat := 13
@[irreducible] def F.stage_Stage_Cut : Nat := 14
@[irreducible] def F.stage_Stage_Fresh : Nat := 15
@[irreducible] def F.stage_Stage_Turns : Nat := 16
@[irreducible] def F.plan_Check : Nat := 17
@[irreducible] def F.stage_Stage_none : Nat := 18
@[irreducible] def F.stage_own : Nat := 19
@[irreducible] def F.ref16_SamePlace : Nat := 20
@[irreducible] def F.diff_Moved : Nat := 21
@[irreducible] def F.plan_Find : Nat := 22
@[irreducible] def F.plan_Drop : Nat := 23
@[irreducible] def F.plan_Same : Nat := 24
@[irreducible] def F.plan_place : Nat := 25
@[irreducible] def F.plan_apart : Nat := 26
@[irreducible] def F.plan_Splits : Nat := 27
@[irreducible] def F.plan_Cores : Nat := 28
@[irreducible] def F.plan_left : Nat := 29
@[irreducible] def F.diff_some : Nat := 30
@[irreducible] def F.diff_Moved_1 : Nat := 31
@[irreducible] def F.diff_moved : Nat := 32
@[irreducible] def F.plan_find : Nat := 33
@[irreducible] def F.slices_Clone_api_Piece_api_Piece : Nat := 34
@[irreducible] def F.plan_clone : Nat := 35
@[irreducible] def F.slices_Delete_api_Place_api_Place : Nat := 36
@[irreducible] def F.slices_EqualFunc_api_Place_api_Place_api_Place_api_Place : Nat := 37
@[irreducible] def F.plan_SamePlace : Nat := 38
@[irreducible] def F.order_Kind : Nat := 39
@[irreducible] def F.plan_split : Nat := 40
@[irreducible] def F.plan_pieces : Nat := 41
@[irreducible] def F.plan_has : Nat := 42
@[irreducible] def F.mask_Count : Nat := 43
@[irreducible] def F.plan_Windows : Nat := 44
@[irreducible] def F.plan_Wholes : Nat := 45
@[irreducible] def F.diff_places : Nat := 46
@[irreducible] def F.slices_Sorted_int : Nat := 47
@[irreducible] def F.maps_Keys_map_int_api_Place_int_api_Place : Nat := 48
@[irreducible] def F.slices_Sort_int_int : Nat := 49
@[irreducible] def F.slices_DeleteFunc_int_int : Nat := 50
@[irreducible] def F.slices_Compact_int_int : Nat := 51
@[irreducible] def F.diff_some_1 : Nat := 52
@[irreducible] def F.slices_Equal_api_Piece_api_Piece : Nat := 53
@[irreducible] def F.slices_BinarySearchFunc_api_Place_api_Place_int : Nat := 54
@[irreducible] def F.plan_find_1 : Nat := 55
@[irreducible] def F.cmp_Compare_int : Nat := 56
@[irreducible] def F.mask_All : Nat := 57
@[irreducible] def F.math_bits_OnesCount64 : Nat := 58
@[irreducible] def F.maps_Keys_map_int_api_Place_int_api_Place_1 : Nat := 60
@[irreducible] def F.slices_IndexFunc_int_int : Nat := 63
@[irreducible] def F.cmp_isNaN_int : Nat := 64
@[irreducible] def F.mask_frame : Nat := 65

def RB.law26_StageLate_1 : RCode :=
  (.seq (.seq (.region [⟨some 20, none, .mov (.t 6)⟩,
    ⟨some 21, none, .mov (.t 0)⟩,
    ⟨some 22, none, .len (.t 21)⟩,
    ⟨some 23, none, .bin .lss (.t 20) (.t 22)⟩,
    ⟨some 24, none, .mov (.t 23)⟩,
    ⟨some 25, some (24, true), .mov (.t 6)⟩,
    ⟨some 26, some (24, true), .bin .lss (.t 25) (.c (.int .i64 12))⟩,
    ⟨some 27, none, .pick (.t 24) (.t 26) (.c (.bool false))⟩]
    [0, 3, 5, 6, 27])
  (.cond (.t 27)
    .skip
    (.exit 0)))
  (.seq (.block 1
    (.seq (.seq (.region [⟨some 30, none, .mov (.t 0)⟩,
      ⟨some 31, none, .mov (.t 6)⟩,
      ⟨some 32, none, .idxS 3 (.t 30) (.t 31)⟩,
      ⟨some 33, none, .load true 3 (.t 32)⟩,
      ⟨some 34, none, .call F.law16_Light [.t 33]⟩,
      ⟨some 35, none, .un .not (.t 34)⟩]
      [0, 3, 5, 6, 35])
    (.cond (.t 35)
      (.exit 1)
      .skip))
    (.seq (.region [⟨some 36, none, .mov (.t 3)⟩,
      ⟨some 37, none, .call F.stage_Stage_Active [.t 36]⟩,
      ⟨some 7, none, .alloc [(.int .i64 0), (u32 0#32), (.slice none 0 0)]⟩,
      ⟨none, none, .store 3 (.t 7) (.t 37)⟩]
      [0, 3, 5, 6, 7])
    (.seq (.seq (.region [⟨some 38, none, .mov (.t 3)⟩,
      ⟨some 39, none, .mov (.t 0)⟩,
      ⟨some 40, none, .mov (.t 6)⟩,
      ⟨some 41, none, .idxS 3 (.t 39) (.t 40)⟩,
      ⟨some 42, none, .load true 3 (.t 41)⟩,
      ⟨some 43, none, .call F.stage_Stage_Set [.t 38, .t 42]⟩,
      ⟨some 44, none, .bin .eql (.t 43) (.c (.int .i64 0))⟩]
      [0, 3, 5, 6, 7, 44])
    (.cond (.t 44)
      (.region [⟨some 45, none, .mov (.t 0)⟩,
        ⟨some 46, none, .mov (.t 6)⟩,
        ⟨some 47, none, .idxS 3 (.t 45) (.t 46)⟩,
        ⟨some 48, none, .load true 3 (.t 47)⟩,
        ⟨none, none, .store 3 (.t 5) (.t 48)⟩]
        [0, 3, 5, 6, 7])
      .skip))
    (.seq (.seq (.drawn [⟨some 49, none, .load true 3 (.t 7)⟩,
      ⟨some 50, none, .mov (.t 3)⟩,
      ⟨some 51, none, .call F.stage_Stage_Active [.t 50]⟩,
      ⟨some 52, none, .call F.ref16_Same [.t 49, .t 51]⟩,
      ⟨some 53, none, .un .not (.t 52)⟩,
      ⟨some 54, none, .mov (.t 53)⟩,
      ⟨some 55, some (54, false), .load true 3 (.t 5)⟩,
      ⟨some 56, some (54, false), .mov (.t 3)⟩,
      ⟨some 57, some (54, false), .call F.stage_Stage_Staged [.t 56]⟩,
      ⟨some 58, some (54, false), .call F.ref16_Same [.t 55, .t 57]⟩,
      ⟨some 59, some (54, false), .un .not (.t 58)⟩,
      ⟨some 60, none, .pick (.t 54) (.c (.bool true)) (.t 59)⟩]
      [[], [], [1], [0, 2, 2], [3], [4, 3], [5], [5], [7, 5, 5], [6, 8, 8, 5], [9, 5], [5, 10]]
      [(1, []), (0, []), (2, [7]), (3, []), (4, []), (5, []), (7, []), (6, []), (8, [5]), (9, []), (10, []), (11, [])]
      [[], [], [1], [0, 1, 2], [0, 1, 2, 3], [0, 1, 2, 3, 4], [0, 1, 2, 3, 4, 5], [0, 1, 2, 3, 4, 5], [0, 1, 2, 3, 4, 5, 7], [0, 1, 2, 3, 4, 5, 6, 7, 8], [0, 1, 2, 3, 4, 5, 6, 7, 8, 9], [0, 1, 2, 3, 4, 5, 6, 7, 8, 9, 10]]
      [0, 3, 5, 6, 60])
    (.cond (.t 60)
      (.seq (.region [⟨some 2, none, .mov (.c (.bool false))⟩]
        [2])
      .ret)
      .skip))
    (.seq (.region [⟨some 61, none, .mov (.t 6)⟩,
      ⟨some 62, none, .bin .rem (.t 61) (.c (.int .i64 2))⟩,
      ⟨some 63, none, .bin .eql (.t 62) (.c (.int .i64 1))⟩]
      [0, 3, 5, 6, 63])
    (.cond (.t 63)
      (.seq (.region [⟨some 64, none, .mov (.t 3)⟩,
        ⟨some 65, none, .call F.stage_Stage_Turn [.t 64]⟩]
        [0, 3, 5, 6])
      (.seq (.drawn [⟨some 66, none, .load true 3 (.t 5)⟩,
        ⟨some 67, none, .mov (.t 3)⟩,
        ⟨some 68, none, .call F.stage_Stage_Active [.t 67]⟩,
        ⟨some 69, none, .call F.ref16_Same [.t 66, .t 68]⟩,
        ⟨some 70, none, .un .not (.t 69)⟩]
        [[], [], [1], [0, 2, 2], [3]]
        [(1, []), (0, []), (2, [5]), (3, []), (4, [])]
        [[], [], [1], [0, 1, 2], [0, 1, 2, 3]]
        [0, 3, 5, 6, 70])
      (.cond (.t 70)
        (.seq (.region [⟨some 2, none, .mov (.c (.bool false))⟩]
          [2])
        .ret)
        .skip)))
      .skip)))))) [0, 3, 5, 6])
  (.region [⟨some 28, none, .mov (.t 6)⟩,
    ⟨some 29, none, .bin .add (.t 28) (.c (.int .i64 1))⟩,
    ⟨some 6, none, .mov (.t 29)⟩]
    [0, 3, 5, 6])))
def RC.law26_StageLate : RFn := ⟨1, [.slot 2],
  (.seq (.region [⟨some 2, none, .mov (.c (.bool false))⟩]
    [0])
  (.seq (.region [⟨some 9, none, .call F.stage_New [.c (.int .i64 8), .c (u32 7#32)]⟩,
    ⟨some 8, none, .mov (.t 9)⟩,
    ⟨some 10, none, .ext 0 (.t 8)⟩,
    ⟨some 11, none, .ext 1 (.t 8)⟩,
    ⟨some 3, none, .mov (.t 10)⟩,
    ⟨some 4, none, .mov (.t 11)⟩]
    [0, 3, 4])
  (.seq (.seq (.region [⟨some 12, none, .mov (.t 4)⟩,
    ⟨some 13, none, .bin .neq (.t 12) (.c (.int .i64 0))⟩,
    ⟨some 14, none, .mov (.t 13)⟩,
    ⟨some 15, some (14, false), .mov (.t 3)⟩,
    ⟨some 16, some (14, false), .eq false .ptr (.t 15) (.c (.pointer none))⟩,
    ⟨some 17, none, .pick (.t 14) (.c (.bool true)) (.t 16)⟩]
    [0, 3, 17])
  (.cond (.t 17)
    (.seq (.region [⟨some 2, none, .mov (.c (.bool false))⟩]
      [2])
    .ret)
    .skip))
  (.seq (.region [⟨some 18, none, .mov (.t 3)⟩,
    ⟨some 19, none, .call F.stage_Stage_Staged [.t 18]⟩,
    ⟨some 5, none, .alloc [(.int .i64 0), (u32 0#32), (.slice none 0 0)]⟩,
    ⟨none, none, .store 3 (.t 5) (.t 19)⟩]
    [0, 3, 5])
  (.seq (.seq (.region [⟨some 6, none, .mov (.c (.int .i64 0))⟩]
    [0, 3, 5, 6])
  (.block 0
    (.loop [0, 3, 5, 6] RB.law26_StageLate_1) []))
  (.seq (.region [⟨some 71, none, .call F.law26_awake []⟩,
    ⟨some 2, none, .mov (.t 71)⟩]
    [2])
  .ret))))))⟩

def RB.law26_StageNobody_1 : RCode :=
  (.seq (.seq (.region [⟨some 13, none, .mov (.t 7)⟩,
    ⟨some 14, none, .mov (.t 6)⟩,
    ⟨some 15, none, .len (.t 14)⟩,
    ⟨some 16, none, .bin .lss (.t 13) (.t 15)⟩]
    [1, 2, 6, 7, 16])
  (.cond (.t 16)
    .skip
    (.exit 0)))
  (.seq (.block 1
    (.seq (.region [⟨some 19, none, .mov (.t 6)⟩,
      ⟨some 20, none, .mov (.t 7)⟩,
      ⟨some 21, none, .idxS 1 (.t 19) (.t 20)⟩,
      ⟨some 22, none, .load false 1 (.t 21)⟩,
      ⟨some 8, none, .mov (.t 22)⟩]
      [1, 2, 6, 7, 8])
    (.seq (.region [⟨some 23, none, .mov (.t 8)⟩,
      ⟨some 24, none, .call F.law26_one []⟩,
      ⟨some 25, none, .call F.stage_Stage_Set [.t 23, .t 24]⟩,
      ⟨some 26, none, .bin .neq (.t 25) (.c (.int .i64 2))⟩,
      ⟨some 27, none, .mov (.t 26)⟩,
      ⟨some 28, some (27, false), .mov (.t 8)⟩,
      ⟨some 29, some (27, false), .load true 3 (.t 2)⟩,
      ⟨some 30, some (27, false), .call F.stage_Stage_Set [.t 28, .t 29]⟩,
      ⟨some 31, some (27, false), .bin .neq (.t 30) (.c (.int .i64 2))⟩,
      ⟨some 32, none, .pick (.t 27) (.c (.bool true)) (.t 31)⟩,
      ⟨some 33, none, .mov (.t 32)⟩,
      ⟨some 34, some (33, false), .mov (.t 8)⟩,
      ⟨some 35, some (33, false), .mov (.t 1)⟩,
      ⟨some 36, some (33, false), .call F.stage_Stage_Cut [.t 34, .t 35]⟩,
      ⟨some 37, none, .pick (.t 33) (.c (.bool true)) (.t 36)⟩,
      ⟨some 38, none, .mov (.t 37)⟩,
      ⟨some 39, some (38, false), .mov (.t 8)⟩,
      ⟨some 40, some (38, false), .call F.stage_Stage_Turn [.t 39]⟩,
      ⟨some 41, some (38, false), .len (.t 40)⟩,
      ⟨some 42, some (38, false), .bin .neq (.t 41) (.c (.int .i64 0))⟩,
      ⟨some 43, none, .pick (.t 38) (.c (.bool true)) (.t 42)⟩,
      ⟨some 44, none, .mov (.t 43)⟩,
      ⟨some 45, some (44, false), .mov (.t 8)⟩,
      ⟨some 46, some (44, false), .call F.stage_Stage_Active [.t 45]⟩,
      ⟨some 47, some (44, false), .build [(.int .i64 0), (u32 0#32), (.slice none 0 0)] []⟩,
      ⟨some 48, some (44, false), .call F.ref16_Same [.t 46, .t 47]⟩,
      ⟨some 49, some (44, false), .un .not (.t 48)⟩,
      ⟨some 50, none, .pick (.t 44) (.c (.bool true)) (.t 49)⟩,
      ⟨some 51, none, .mov (.t 50)⟩,
      ⟨some 52, some (51, false), .mov (.t 8)⟩,
      ⟨some 53, some (51, false), .call F.stage_Stage_Staged [.t 52]⟩,
      ⟨some 54, some (51, false), .build [(.int .i64 0), (u32 0#32), (.slice none 0 0)] []⟩,
      ⟨some 55, some (51, false), .call F.ref16_Same [.t 53, .t 54]⟩,
      ⟨some 56, some (51, false), .un .not (.t 55)⟩,
      ⟨some 57, none, .pick (.t 51) (.c (.bool true)) (.t 56)⟩,
      ⟨some 58, none, .mov (.t 57)⟩,
      ⟨some 59, some (58, false), .mov (.t 8)⟩,
      ⟨some 60, some (58, false), .call F.stage_Stage_Fresh [.t 59]⟩,
      ⟨some 61, none, .pick (.t 58) (.c (.bool true)) (.t 60)⟩,
      ⟨some 62, none, .mov (.t 61)⟩,
      ⟨some 63, some (62, false), .mov (.t 8)⟩,
      ⟨some 64, some (62, false), .call F.stage_Stage_Turns [.t 63]⟩,
      ⟨some 65, some (62, false), .bin .neq (.t 64) (.c (.int .i64 0))⟩,
      ⟨some 66, none, .pick (.t 62) (.c (.bool true)) (.t 65)⟩]
      [1, 2, 6, 7, 66])
    (.cond (.t 66)
      (.seq (.region [⟨some 4, none, .mov (.c (.bool false))⟩]
        [4])
      .ret)
      .skip))) [1, 2, 6, 7])
  (.region [⟨some 17, none, .mov (.t 7)⟩,
    ⟨some 18, none, .bin .add (.t 17) (.c (.int .i64 1))⟩,
    ⟨some 7, none, .mov (.t 18)⟩]
    [1, 2, 6, 7])))
def RC.law26_StageNobody : RFn := ⟨2, [.slot 4],
  (.seq (.region [⟨some 2, none, .box (.t 0)⟩,
    ⟨some 4, none, .mov (.c (.bool false))⟩]
    [1, 2])
  (.seq (.region [⟨some 5, none, .mov (.c (.pointer none))⟩]
    [1, 2, 5])
  (.seq (.region [⟨some 9, none, .mov (.t 5)⟩,
    ⟨some 10, none, .build [(.int .i64 0), (u32 0#32), (.slice none 0 0), (.int .i64 0), (u32 0#32), (.slice none 0 0), (.int .i64 0)] []⟩,
    ⟨some 11, none, .box (.t 10)⟩,
    ⟨some 12, none, .bslice [(.pointer none), (.pointer none)] [(0, 1, .t 9), (1, 1, .t 11)] 2 1⟩,
    ⟨some 6, none, .mov (.t 12)⟩]
    [1, 2, 6])
  (.seq (.seq (.region [⟨some 7, none, .mov (.c (.int .i64 0))⟩]
    [1, 2, 6, 7])
  (.block 0
    (.loop [1, 2, 6, 7] RB.law26_StageNobody_1) []))
  (.seq (.region [⟨some 67, none, .call F.law26_awake []⟩,
    ⟨some 4, none, .mov (.t 67)⟩]
    [4])
  .ret)))))⟩

def RC.stage_New : RFn := ⟨2, [.slot 4, .slot 5],
  (.seq (.region [⟨some 4, none, .mov (.c (.pointer none))⟩,
    ⟨some 5, none, .mov (.c (.int .i64 0))⟩]
    [0, 1])
  (.seq (.region [⟨some 8, none, .mov (.t 0)⟩,
    ⟨some 9, none, .mov (.t 1)⟩,
    ⟨some 10, none, .build [(.int .i64 0), (u32 0#32), (.slice none 0 0)] [(0, 1, .t 8), (1, 1, .t 9)]⟩,
    ⟨some 6, none, .alloc [(.int .i64 0), (u32 0#32), (.slice none 0 0)]⟩,
    ⟨none, none, .store 3 (.t 6) (.t 10)⟩]
    [6])
  (.seq (.seq (.region [⟨some 11, none, .load true 3 (.t 6)⟩,
    ⟨some 12, none, .call F.plan_Check [.t 11]⟩,
    ⟨some 7, none, .mov (.t 12)⟩]
    [6, 7])
  (.seq (.region [⟨some 13, none, .mov (.t 7)⟩,
    ⟨some 14, none, .bin .neq (.t 13) (.c (.int .i64 0))⟩]
    [6, 7, 14])
  (.cond (.t 14)
    (.seq (.region [⟨some 15, none, .mov (.t 7)⟩,
      ⟨some 4, none, .mov (.c (.pointer none))⟩,
      ⟨some 5, none, .mov (.t 15)⟩]
      [4, 5])
    .ret)
    .skip)))
  (.seq (.region [⟨some 16, none, .load true 3 (.t 6)⟩,
    ⟨some 17, none, .load true 3 (.t 6)⟩,
    ⟨some 18, none, .build [(.int .i64 0), (u32 0#32), (.slice none 0 0), (.int .i64 0), (u32 0#32), (.slice none 0 0), (.int .i64 0)] [(0, 3, .t 16), (3, 3, .t 17)]⟩,
    ⟨some 19, none, .box (.t 18)⟩,
    ⟨some 4, none, .mov (.t 19)⟩,
    ⟨some 5, none, .mov (.c (.int .i64 0))⟩]
    [4, 5])
  .ret))))⟩

def RC.stage_Stage_Staged : RFn := ⟨1, [.cell 2 true 3],
  (.seq (.region [⟨some 2, none, .alloc [(.int .i64 0), (u32 0#32), (.slice none 0 0)]⟩]
    [0, 2])
  (.seq (.seq (.region [⟨some 3, none, .mov (.t 0)⟩,
    ⟨some 4, none, .call F.stage_Stage_none [.t 3]⟩]
    [0, 2, 4])
  (.cond (.t 4)
    (.seq (.region [⟨some 5, none, .build [(.int .i64 0), (u32 0#32), (.slice none 0 0)] []⟩,
      ⟨none, none, .store 3 (.t 2) (.t 5)⟩]
      [2])
    .ret)
    .skip))
  (.seq (.region [⟨some 6, none, .mov (.t 0)⟩,
    ⟨some 7, none, .nilchk (.t 6)⟩,
    ⟨some 8, none, .fieldAddr 3 (.t 7)⟩,
    ⟨some 9, none, .load true 3 (.t 8)⟩,
    ⟨some 10, none, .call F.stage_own [.t 9]⟩,
    ⟨none, none, .store 3 (.t 2) (.t 10)⟩]
    [2])
  .ret)))⟩

def RB.law16_Light_1 : RCode :=
  (.seq (.seq (.region [⟨some 4, none, .mov (.t 3)⟩,
    ⟨some 5, none, .fieldAddr 2 (.t 1)⟩,
    ⟨some 6, none, .load false 1 (.t 5)⟩,
    ⟨some 7, none, .len (.t 6)⟩,
    ⟨some 8, none, .bin .lss (.t 4) (.t 7)⟩,
    ⟨some 9, none, .mov (.t 8)⟩,
    ⟨some 10, some (9, true), .mov (.t 3)⟩,
    ⟨some 11, some (9, true), .bin .lss (.t 10) (.c (.int .i64 300))⟩,
    ⟨some 12, none, .pick (.t 9) (.t 11) (.c (.bool false))⟩]
    [1, 3, 12])
  (.cond (.t 12)
    .skip
    (.exit 0)))
  (.seq (.block 1
    (.seq (.region [⟨some 15, none, .fieldAddr 2 (.t 1)⟩,
      ⟨some 16, none, .load false 1 (.t 15)⟩,
      ⟨some 17, none, .mov (.t 3)⟩,
      ⟨some 18, none, .idxS 4 (.t 16) (.t 17)⟩,
      ⟨some 19, none, .fieldAddr 3 (.t 18)⟩,
      ⟨some 20, none, .load false 1 (.t 19)⟩,
      ⟨some 21, none, .len (.t 20)⟩,
      ⟨some 22, none, .bin .gtr (.t 21) (.c (.int .i64 20))⟩]
      [1, 3, 22])
    (.cond (.t 22)
      (.seq (.region [⟨some 2, none, .mov (.c (.bool false))⟩]
        [2])
      .ret)
      .skip)) [1, 3])
  (.region [⟨some 13, none, .mov (.t 3)⟩,
    ⟨some 14, none, .bin .add (.t 13) (.c (.int .i64 1))⟩,
    ⟨some 3, none, .mov (.t 14)⟩]
    [1, 3])))
def RC.law16_Light : RFn := ⟨1, [.slot 2],
  (.seq (.region [⟨some 1, none, .box (.t 0)⟩,
    ⟨some 2, none, .mov (.c (.bool false))⟩]
    [1])
  (.seq (.seq (.region [⟨some 3, none, .mov (.c (.int .i64 0))⟩]
    [1, 3])
  (.block 0
    (.loop [1, 3] RB.law16_Light_1) [1]))
  (.seq (.region [⟨some 23, none, .fieldAddr 2 (.t 1)⟩,
    ⟨some 24, none, .load false 1 (.t 23)⟩,
    ⟨some 25, none, .len (.t 24)⟩,
    ⟨some 26, none, .bin .leq (.t 25) (.c (.int .i64 60))⟩,
    ⟨some 2, none, .mov (.t 26)⟩]
    [2])
  .ret)))⟩

def RC.stage_Stage_Active : RFn := ⟨1, [.cell 2 true 3],
  (.seq (.region [⟨some 2, none, .alloc [(.int .i64 0), (u32 0#32), (.slice none 0 0)]⟩]
    [0, 2])
  (.seq (.seq (.region [⟨some 3, none, .mov (.t 0)⟩,
    ⟨some 4, none, .call F.stage_Stage_none [.t 3]⟩]
    [0, 2, 4])
  (.cond (.t 4)
    (.seq (.region [⟨some 5, none, .build [(.int .i64 0), (u32 0#32), (.slice none 0 0)] []⟩,
      ⟨none, none, .store 3 (.t 2) (.t 5)⟩]
      [2])
    .ret)
    .skip))
  (.seq (.region [⟨some 6, none, .mov (.t 0)⟩,
    ⟨some 7, none, .nilchk (.t 6)⟩,
    ⟨some 8, none, .fieldAddr 0 (.t 7)⟩,
    ⟨some 9, none, .load true 3 (.t 8)⟩,
    ⟨some 10, none, .call F.stage_own [.t 9]⟩,
    ⟨none, none, .store 3 (.t 2) (.t 10)⟩]
    [2])
  .ret)))⟩

def RC.stage_Stage_Set : RFn := ⟨2, [.slot 4],
  (.seq (.region [⟨some 3, none, .box (.t 1)⟩,
    ⟨some 4, none, .mov (.c (.int .i64 0))⟩]
    [0, 3])
  (.seq (.seq (.region [⟨some 5, none, .mov (.t 0)⟩,
    ⟨some 6, none, .call F.stage_Stage_none [.t 5]⟩]
    [0, 3, 6])
  (.cond (.t 6)
    (.seq (.region [⟨some 4, none, .mov (.c (.int .i64 2))⟩]
      [4])
    .ret)
    .skip))
  (.seq (.seq (.drawn [⟨some 7, none, .load true 3 (.t 3)⟩,
    ⟨some 8, none, .call F.plan_Check [.t 7]⟩,
    ⟨some 9, none, .bin .neq (.t 8) (.c (.int .i64 0))⟩,
    ⟨some 10, none, .mov (.t 9)⟩,
    ⟨some 11, some (10, false), .fieldAddr 0 (.t 3)⟩,
    ⟨some 12, some (10, false), .load false 1 (.t 11)⟩,
    ⟨some 13, some (10, false), .mov (.t 0)⟩,
    ⟨some 14, some (10, false), .nilchk (.t 13)⟩,
    ⟨some 15, some (10, false), .fieldAddr 0 (.t 14)⟩,
    ⟨some 16, some (10, false), .fieldAddr 0 (.t 15)⟩,
    ⟨some 17, some (10, false), .load false 1 (.t 16)⟩,
    ⟨some 18, some (10, false), .bin .neq (.t 12) (.t 17)⟩,
    ⟨some 19, none, .pick (.t 10) (.c (.bool true)) (.t 18)⟩]
    [[], [0], [1], [2, 1], [3], [4, 3], [3], [6, 3], [7, 3], [8, 3], [9, 3], [5, 10, 3], [3, 11]]
    [(0, []), (1, []), (2, []), (3, []), (4, []), (6, []), (7, []), (8, []), (9, []), (5, []), (10, []), (11, []), (12, [])]
    [[], [0], [0, 1], [0, 1, 2], [0, 1, 2, 3], [0, 1, 2, 3, 4], [0, 1, 2, 3], [0, 1, 2, 3, 6], [0, 1, 2, 3, 6, 7], [0, 1, 2, 3, 6, 7, 8], [0, 1, 2, 3, 6, 7, 8, 9], [0, 1, 2, 3, 4, 5, 6, 7, 8, 9, 10], [0, 1, 2, 3, 4, 5, 6, 7, 8, 9, 10, 11]]
    [0, 3, 19])
  (.cond (.t 19)
    (.seq (.region [⟨some 4, none, .mov (.c (.int .i64 30))⟩]
      [4])
    .ret)
    .skip))
  (.seq (.region [⟨some 20, none, .mov (.t 0)⟩,
    ⟨some 21, none, .load true 3 (.t 3)⟩,
    ⟨some 22, none, .call F.stage_own [.t 21]⟩,
    ⟨some 23, none, .nilchk (.t 20)⟩,
    ⟨some 24, none, .fieldAddr 3 (.t 23)⟩,
    ⟨none, none, .store 3 (.t 24) (.t 22)⟩]
    [])
  (.seq (.region [⟨some 4, none, .mov (.c (.int .i64 0))⟩]
    [4])
  .ret)))))⟩

def RB.ref16_Same_1 : RCode :=
  (.seq (.seq (.region [⟨some 27, none, .mov (.t 5)⟩,
    ⟨some 28, none, .fieldAddr 2 (.t 2)⟩,
    ⟨some 29, none, .load false 1 (.t 28)⟩,
    ⟨some 30, none, .len (.t 29)⟩,
    ⟨some 31, none, .bin .lss (.t 27) (.t 30)⟩]
    [2, 3, 5, 31])
  (.cond (.t 31)
    .skip
    (.exit 0)))
  (.seq (.block 1
    (.seq (.drawn [⟨some 34, none, .fieldAddr 2 (.t 2)⟩,
      ⟨some 35, none, .load false 1 (.t 34)⟩,
      ⟨some 36, none, .mov (.t 5)⟩,
      ⟨some 37, none, .idxS 4 (.t 35) (.t 36)⟩,
      ⟨some 38, none, .load true 4 (.t 37)⟩,
      ⟨some 39, none, .fieldAddr 2 (.t 3)⟩,
      ⟨some 40, none, .load false 1 (.t 39)⟩,
      ⟨some 41, none, .mov (.t 5)⟩,
      ⟨some 42, none, .idxS 4 (.t 40) (.t 41)⟩,
      ⟨some 43, none, .load true 4 (.t 42)⟩,
      ⟨some 44, none, .call F.ref16_SamePlace [.t 38, .t 43]⟩,
      ⟨some 45, none, .un .not (.t 44)⟩]
      [[], [0], [], [1, 2], [3], [], [5], [], [6, 7], [8], [4, 9], [10]]
      [(0, []), (2, []), (5, []), (7, []), (1, []), (3, []), (4, []), (6, []), (8, []), (9, []), (10, []), (11, [])]
      [[], [0], [], [0, 1, 2], [0, 1, 2, 3], [], [5], [], [5, 6, 7], [5, 6, 7, 8], [0, 1, 2, 3, 4, 5, 6, 7, 8, 9], [0, 1, 2, 3, 4, 5, 6, 7, 8, 9, 10]]
      [2, 3, 5, 45])
    (.cond (.t 45)
      (.seq (.region [⟨some 4, none, .mov (.c (.bool false))⟩]
        [4])
      .ret)
      .skip)) [2, 3, 5])
  (.region [⟨some 32, none, .mov (.t 5)⟩,
    ⟨some 33, none, .bin .add (.t 32) (.c (.int .i64 1))⟩,
    ⟨some 5, none, .mov (.t 33)⟩]
    [2, 3, 5])))
def RC.ref16_Same : RFn := ⟨2, [.slot 4],
  (.seq (.region [⟨some 2, none, .box (.t 0)⟩,
    ⟨some 3, none, .box (.t 1)⟩,
    ⟨some 4, none, .mov (.c (.bool false))⟩]
    [2, 3])
  (.seq (.seq (.region [⟨some 6, none, .fieldAddr 0 (.t 2)⟩,
    ⟨some 7, none, .load false 1 (.t 6)⟩,
    ⟨some 8, none, .fieldAddr 0 (.t 3)⟩,
    ⟨some 9, none, .load false 1 (.t 8)⟩,
    ⟨some 10, none, .bin .neq (.t 7) (.t 9)⟩,
    ⟨some 11, none, .mov (.t 10)⟩,
    ⟨some 12, some (11, false), .fieldAddr 1 (.t 2)⟩,
    ⟨some 13, some (11, false), .load false 1 (.t 12)⟩,
    ⟨some 14, some (11, false), .fieldAddr 1 (.t 3)⟩,
    ⟨some 15, some (11, false), .load false 1 (.t 14)⟩,
    ⟨some 16, some (11, false), .bin .neq (.t 13) (.t 15)⟩,
    ⟨some 17, none, .pick (.t 11) (.c (.bool true)) (.t 16)⟩,
    ⟨some 18, none, .mov (.t 17)⟩,
    ⟨some 19, some (18, false), .fieldAddr 2 (.t 2)⟩,
    ⟨some 20, some (18, false), .load false 1 (.t 19)⟩,
    ⟨some 21, some (18, false), .len (.t 20)⟩,
    ⟨some 22, some (18, false), .fieldAddr 2 (.t 3)⟩,
    ⟨some 23, some (18, false), .load false 1 (.t 22)⟩,
    ⟨some 24, some (18, false), .len (.t 23)⟩,
    ⟨some 25, some (18, false), .bin .neq (.t 21) (.t 24)⟩,
    ⟨some 26, none, .pick (.t 18) (.c (.bool true)) (.t 25)⟩]
    [2, 3, 26])
  (.cond (.t 26)
    (.seq (.region [⟨some 4, none, .mov (.c (.bool false))⟩]
      [4])
    .ret)
    .skip))
  (.seq (.seq (.region [⟨some 5, none, .mov (.c (.int .i64 0))⟩]
    [2, 3, 5])
  (.block 0
    (.loop [2, 3, 5] RB.ref16_Same_1) []))
  (.seq (.region [⟨some 4, none, .mov (.c (.bool true))⟩]
    [4])
  .ret))))⟩

def RC.stage_Stage_Turn : RFn := ⟨1, [.slot 2],
  (.seq (.region [⟨some 2, none, .mov (.c (.slice none 0 0))⟩]
    [0])
  (.seq (.seq (.region [⟨some 4, none, .mov (.t 0)⟩,
    ⟨some 5, none, .call F.stage_Stage_none [.t 4]⟩]
    [0, 5])
  (.cond (.t 5)
    (.seq (.region [⟨some 2, none, .mov (.c (.slice none 0 0))⟩]
      [2])
    .ret)
    .skip))
  (.seq (.drawn [⟨some 6, none, .mov (.t 0)⟩,
    ⟨some 7, none, .nilchk (.t 6)⟩,
    ⟨some 8, none, .fieldAddr 0 (.t 7)⟩,
    ⟨some 9, none, .load true 3 (.t 8)⟩,
    ⟨some 10, none, .mov (.t 0)⟩,
    ⟨some 11, none, .nilchk (.t 10)⟩,
    ⟨some 12, none, .fieldAddr 3 (.t 11)⟩,
    ⟨some 13, none, .load true 3 (.t 12)⟩,
    ⟨some 14, none, .call F.diff_Moved [.t 9, .t 13]⟩,
    ⟨some 3, none, .mov (.t 14)⟩]
    [[], [0], [1], [2], [], [4], [5], [6], [3, 7], [8, 8, 0, 1, 2, 3, 4, 5, 6, 7, 8]]
    [(0, []), (1, []), (2, []), (4, []), (5, []), (6, []), (3, []), (7, []), (8, []), (9, [])]
    [[], [0], [0, 1], [0, 1, 2], [], [4], [4, 5], [4, 5, 6], [0, 1, 2, 3, 4, 5, 6, 7], [0, 1, 2, 3, 4, 5, 6, 7, 8]]
    [0, 3])
  (.seq (.region [⟨some 15, none, .mov (.t 0)⟩,
    ⟨some 16, none, .mov (.t 0)⟩,
    ⟨some 17, none, .nilchk (.t 16)⟩,
    ⟨some 18, none, .fieldAddr 3 (.t 17)⟩,
    ⟨some 19, none, .load true 3 (.t 18)⟩,
    ⟨some 20, none, .call F.stage_own [.t 19]⟩,
    ⟨some 21, none, .nilchk (.t 15)⟩,
    ⟨some 22, none, .fieldAddr 0 (.t 21)⟩,
    ⟨none, none, .store 3 (.t 22) (.t 20)⟩]
    [0, 3])
  (.seq (.region [⟨some 23, none, .mov (.t 0)⟩,
    ⟨some 24, none, .nilchk (.t 23)⟩,
    ⟨some 25, none, .fieldAddr 6 (.t 24)⟩,
    ⟨some 26, none, .load false 1 (.t 25)⟩,
    ⟨some 27, none, .bin .add (.t 26) (.c (.int .i64 1))⟩,
    ⟨some 28, none, .nilchk (.t 23)⟩,
    ⟨some 29, none, .fieldAddr 6 (.t 28)⟩,
    ⟨none, none, .store 1 (.t 29) (.t 27)⟩]
    [3])
  (.seq (.region [⟨some 30, none, .mov (.t 3)⟩,
    ⟨some 2, none, .mov (.t 30)⟩]
    [2])
  .ret))))))⟩

def RC.law26_awake : RFn := ⟨0, [.slot 0],
  (.seq (.region [⟨some 0, none, .mov (.c (.bool false))⟩]
    [])
  (.seq (.region [⟨some 7, none, .call F.stage_New [.c (.int .i64 4), .c (u32 1#32)]⟩,
    ⟨some 6, none, .mov (.t 7)⟩,
    ⟨some 8, none, .ext 0 (.t 6)⟩,
    ⟨some 9, none, .ext 1 (.t 6)⟩,
    ⟨some 1, none, .mov (.t 8)⟩,
    ⟨some 2, none, .mov (.t 9)⟩]
    [1, 2])
  (.seq (.seq (.region [⟨some 10, none, .mov (.t 2)⟩,
    ⟨some 11, none, .bin .neq (.t 10) (.c (.int .i64 0))⟩,
    ⟨some 12, none, .mov (.t 11)⟩,
    ⟨some 13, some (12, false), .mov (.t 1)⟩,
    ⟨some 14, some (12, false), .eq false .ptr (.t 13) (.c (.pointer none))⟩,
    ⟨some 15, none, .pick (.t 12) (.c (.bool true)) (.t 14)⟩]
    [1, 15])
  (.cond (.t 15)
    (.seq (.region [⟨some 0, none, .mov (.c (.bool false))⟩]
      [0])
    .ret)
    .skip))
  (.seq (.region [⟨some 16, none, .mov (.t 1)⟩,
    ⟨some 17, none, .call F.law26_one []⟩,
    ⟨some 18, none, .call F.stage_Stage_Set [.t 16, .t 17]⟩,
    ⟨some 3, none, .mov (.t 18)⟩]
    [1, 3])
  (.seq (.region [⟨some 19, none, .mov (.t 1)⟩,
    ⟨some 20, none, .call F.stage_Stage_Active [.t 19]⟩,
    ⟨some 4, none, .alloc [(.int .i64 0), (u32 0#32), (.slice none 0 0)]⟩,
    ⟨none, none, .store 3 (.t 4) (.t 20)⟩]
    [1, 3, 4])
  (.seq (.region [⟨some 21, none, .mov (.t 1)⟩,
    ⟨some 22, none, .call F.stage_Stage_Turn [.t 21]⟩,
    ⟨some 5, none, .mov (.t 22)⟩]
    [1, 3, 4, 5])
  (.seq (.region [⟨some 23, none, .mov (.t 3)⟩,
    ⟨some 24, none, .bin .eql (.t 23) (.c (.int .i64 0))⟩,
    ⟨some 25, none, .mov (.t 24)⟩,
    ⟨some 26, some (25, true), .fieldAddr 2 (.t 4)⟩,
    ⟨some 27, some (25, true), .load false 1 (.t 26)⟩,
    ⟨some 28, some (25, true), .len (.t 27)⟩,
    ⟨some 29, some (25, true), .bin .eql (.t 28) (.c (.int .i64 0))⟩,
    ⟨some 30, none, .pick (.t 25) (.t 29) (.c (.bool false))⟩,
    ⟨some 31, none, .mov (.t 30)⟩,
    ⟨some 32, some (31, true), .mov (.t 5)⟩,
    ⟨some 33, some (31, true), .len (.t 32)⟩,
    ⟨some 34, some (31, true), .bin .eql (.t 33) (.c (.int .i64 0))⟩,
    ⟨some 35, none, .pick (.t 31) (.t 34) (.c (.bool false))⟩,
    ⟨some 36, none, .mov (.t 35)⟩,
    ⟨some 37, some (36, true), .mov (.t 1)⟩,
    ⟨some 38, some (36, true), .call F.stage_Stage_Active [.t 37]⟩,
    ⟨some 39, some (36, true), .call F.law26_one []⟩,
    ⟨some 40, some (36, true), .call F.ref16_Same [.t 38, .t 39]⟩,
    ⟨some 41, none, .pick (.t 36) (.t 40) (.c (.bool false))⟩,
    ⟨some 42, none, .mov (.t 41)⟩,
    ⟨some 43, some (42, true), .mov (.t 1)⟩,
    ⟨some 44, some (42, true), .call F.stage_Stage_Fresh [.t 43]⟩,
    ⟨some 45, some (42, true), .un .not (.t 44)⟩,
    ⟨some 46, none, .pick (.t 42) (.t 45) (.c (.bool false))⟩,
    ⟨some 47, none, .mov (.t 46)⟩,
    ⟨some 48, some (47, true), .mov (.t 1)⟩,
    ⟨some 49, some (47, true), .call F.stage_Stage_Cut [.t 48, .c (.int .i64 1)]⟩,
    ⟨some 50, none, .pick (.t 47) (.t 49) (.c (.bool false))⟩,
    ⟨some 51, none, .mov (.t 50)⟩,
    ⟨some 52, some (51, true), .mov (.t 1)⟩,
    ⟨some 53, some (51, true), .call F.stage_Stage_Fresh [.t 52]⟩,
    ⟨some 54, none, .pick (.t 51) (.t 53) (.c (.bool false))⟩,
    ⟨some 55, none, .mov (.t 54)⟩,
    ⟨some 56, some (55, true), .mov (.t 1)⟩,
    ⟨some 57, some (55, true), .call F.stage_Stage_Turns [.t 56]⟩,
    ⟨some 58, some (55, true), .bin .eql (.t 57) (.c (.int .i64 1))⟩,
    ⟨some 59, none, .pick (.t 55) (.t 58) (.c (.bool false))⟩,
    ⟨some 0, none, .mov (.t 59)⟩]
    [0])
  .ret)))))))⟩

def RC.law26_one : RFn := ⟨0, [.cell 0 true 3],
  (.seq (.region [⟨some 0, none, .alloc [(.int .i64 0), (u32 0#32), (.slice none 0 0)]⟩]
    [0])
  (.seq (.region [⟨some 1, none, .build [(.int .i64 0), (.int .i64 0), (.int .i64 0), (.slice none 0 0)] [(0, 1, .c (.int .i64 1)), (1, 1, .c (.int .i64 2))]⟩,
    ⟨some 2, none, .bslice [(.int .i64 0), (.int .i64 0), (.int .i64 0), (.slice none 0 0)] [(0, 4, .t 1)] 1 4⟩,
    ⟨some 3, none, .build [(.int .i64 0), (u32 0#32), (.slice none 0 0)] [(0, 1, .c (.int .i64 4)), (1, 1, .c (u32 1#32)), (2, 1, .t 2)]⟩,
    ⟨none, none, .store 3 (.t 0) (.t 3)⟩]
    [0])
  .ret))⟩

def RC.stage_Stage_Cut : RFn := ⟨2, [.slot 4],
  (.seq (.region [⟨some 4, none, .mov (.c (.bool false))⟩]
    [0, 1])
  (.seq (.seq (.region [⟨some 7, none, .mov (.t 0)⟩,
    ⟨some 8, none, .call F.stage_Stage_none [.t 7]⟩]
    [0, 1, 8])
  (.cond (.t 8)
    (.seq (.region [⟨some 4, none, .mov (.c (.bool false))⟩]
      [4])
    .ret)
    .skip))
  (.seq (.region [⟨some 10, none, .mov (.t 0)⟩,
    ⟨some 11, none, .nilchk (.t 10)⟩,
    ⟨some 12, none, .fieldAddr 0 (.t 11)⟩,
    ⟨some 13, none, .load true 3 (.t 12)⟩,
    ⟨some 14, none, .mov (.t 1)⟩,
    ⟨some 15, none, .call F.plan_Find [.t 13, .t 14]⟩,
    ⟨some 9, none, .mov (.t 15)⟩,
    ⟨some 16, none, .ext 0 (.t 9)⟩,
    ⟨some 17, none, .ext 1 (.t 9)⟩,
    ⟨some 5, none, .alloc [(.int .i64 0), (.int .i64 0), (.int .i64 0), (.slice none 0 0)]⟩,
    ⟨none, none, .store 4 (.t 5) (.t 16)⟩,
    ⟨some 6, none, .mov (.t 17)⟩]
    [0, 1, 6])
  (.seq (.region [⟨some 18, none, .mov (.t 0)⟩,
    ⟨some 19, none, .mov (.t 0)⟩,
    ⟨some 20, none, .nilchk (.t 19)⟩,
    ⟨some 21, none, .fieldAddr 0 (.t 20)⟩,
    ⟨some 22, none, .load true 3 (.t 21)⟩,
    ⟨some 23, none, .mov (.t 1)⟩,
    ⟨some 24, none, .call F.plan_Drop [.t 22, .t 23]⟩,
    ⟨some 25, none, .nilchk (.t 18)⟩,
    ⟨some 26, none, .fieldAddr 0 (.t 25)⟩,
    ⟨none, none, .store 3 (.t 26) (.t 24)⟩]
    [6])
  (.seq (.region [⟨some 27, none, .mov (.t 6)⟩,
    ⟨some 4, none, .mov (.t 27)⟩]
    [4])
  .ret)))))⟩

def RC.stage_Stage_Fresh : RFn := ⟨1, [.slot 2],
  (.seq (.region [⟨some 2, none, .mov (.c (.bool false))⟩]
    [0])
  (.seq (.drawn [⟨some 3, none, .mov (.t 0)⟩,
    ⟨some 4, none, .call F.stage_Stage_none [.t 3]⟩,
    ⟨some 5, none, .un .not (.t 4)⟩,
    ⟨some 6, none, .mov (.t 5)⟩,
    ⟨some 7, some (6, true), .mov (.t 0)⟩,
    ⟨some 8, some (6, true), .nilchk (.t 7)⟩,
    ⟨some 9, some (6, true), .fieldAddr 0 (.t 8)⟩,
    ⟨some 10, some (6, true), .load true 3 (.t 9)⟩,
    ⟨some 11, some (6, true), .mov (.t 0)⟩,
    ⟨some 12, some (6, true), .nilchk (.t 11)⟩,
    ⟨some 13, some (6, true), .fieldAddr 3 (.t 12)⟩,
    ⟨some 14, some (6, true), .load true 3 (.t 13)⟩,
    ⟨some 15, some (6, true), .call F.plan_Same [.t 10, .t 14]⟩,
    ⟨some 16, some (6, true), .un .not (.t 15)⟩,
    ⟨some 17, none, .pick (.t 6) (.t 16) (.c (.bool false))⟩,
    ⟨some 2, none, .mov (.t 17)⟩]
    [[], [0], [1], [2, 1], [3], [4, 3], [5, 3], [6, 3], [3], [8, 3], [9, 3], [10, 3], [7, 11, 3, 3], [12, 3], [3, 13], [14, 12, 0, 1, 2, 3, 4, 5, 6, 7, 8, 9, 10, 11, 12, 13, 14]]
    [(0, []), (1, []), (2, []), (3, []), (4, []), (5, []), (6, []), (8, []), (9, []), (10, []), (7, []), (11, []), (12, []), (13, []), (14, []), (15, [])]
    [[], [0], [0, 1], [0, 1, 2], [0, 1, 2, 3], [0, 1, 2, 3, 4], [0, 1, 2, 3, 4, 5], [0, 1, 2, 3, 4, 5, 6], [0, 1, 2, 3], [0, 1, 2, 3, 8], [0, 1, 2, 3, 8, 9], [0, 1, 2, 3, 8, 9, 10], [0, 1, 2, 3, 4, 5, 6, 7, 8, 9, 10, 11], [0, 1, 2, 3, 4, 5, 6, 7, 8, 9, 10, 11, 12], [0, 1, 2, 3, 4, 5, 6, 7, 8, 9, 10, 11, 12, 13], [0, 1, 2, 3, 4, 5, 6, 7, 8, 9, 10, 11, 12, 13, 14]]
    [2])
  .ret))⟩

def RC.stage_Stage_Turns : RFn := ⟨1, [.slot 2],
  (.seq (.region [⟨some 2, none, .mov (.c (.int .i64 0))⟩]
    [0])
  (.seq (.seq (.region [⟨some 3, none, .mov (.t 0)⟩,
    ⟨some 4, none, .call F.stage_Stage_none [.t 3]⟩]
    [0, 4])
  (.cond (.t 4)
    (.seq (.region [⟨some 2, none, .mov (.c (.int .i64 0))⟩]
      [2])
    .ret)
    .skip))
  (.seq (.region [⟨some 5, none, .mov (.t 0)⟩,
    ⟨some 6, none, .nilchk (.t 5)⟩,
    ⟨some 7, none, .fieldAddr 6 (.t 6)⟩,
    ⟨some 8, none, .load false 1 (.t 7)⟩,
    ⟨some 2, none, .mov (.t 8)⟩]
    [2])
  .ret)))⟩

def RB.plan_Check_1 : RCode :=
  (.seq (.region [⟨some 70, none, .bin .lss (.t 69) (.t 68)⟩]
    [1, 67, 68, 69, 70])
  (.seq (.cond (.t 70)
    .skip
    (.exit 2))
  (.seq (.block 3
    (.seq (.region [⟨some 71, none, .idxS 1 (.t 67) (.t 69)⟩,
      ⟨some 72, none, .load false 1 (.t 71)⟩,
      ⟨some 6, none, .mov (.t 72)⟩]
      [1, 6, 67, 68, 69])
    (.seq (.region [⟨some 73, none, .load true 3 (.t 1)⟩,
      ⟨some 74, none, .mov (.t 6)⟩,
      ⟨some 75, none, .call F.plan_left [.t 73, .t 74]⟩,
      ⟨some 76, none, .bin .lss (.t 75) (.c (.int .i64 0))⟩]
      [1, 67, 68, 69, 76])
    (.cond (.t 76)
      (.seq (.region [⟨some 2, none, .mov (.c (.int .i64 30))⟩]
        [2])
      .ret)
      .skip))) [1, 67, 68, 69])
  (.region [⟨some 77, none, .bin .add (.t 69) (.c (.int .i64 1))⟩,
    ⟨some 69, none, .mov (.t 77)⟩]
    [1, 67, 68, 69]))))
def RB.plan_Check_2 : RCode :=
  (.seq (.region [⟨some 30, none, .bin .lss (.t 29) (.t 28)⟩]
    [1, 27, 28, 29, 30])
  (.seq (.cond (.t 30)
    .skip
    (.exit 0))
  (.seq (.block 1
    (.seq (.region [⟨some 31, none, .mov (.t 29)⟩,
      ⟨some 32, none, .idxS 4 (.t 27) (.t 29)⟩,
      ⟨some 33, none, .load true 4 (.t 32)⟩,
      ⟨some 4, none, .alloc [(.int .i64 0), (.int .i64 0), (.int .i64 0), (.slice none 0 0)]⟩,
      ⟨some 3, none, .mov (.t 31)⟩,
      ⟨none, none, .store 4 (.t 4) (.t 33)⟩]
      [1, 3, 4, 27, 28, 29])
    (.seq (.drawn [⟨some 34, none, .load true 3 (.t 1)⟩,
      ⟨some 35, none, .load true 4 (.t 4)⟩,
      ⟨some 36, none, .call F.plan_place [.t 34, .t 35]⟩,
      ⟨some 37, none, .un .not (.t 36)⟩,
      ⟨some 38, none, .mov (.t 37)⟩,
      ⟨some 39, some (38, false), .mov (.t 3)⟩,
      ⟨some 40, some (38, false), .bin .gtr (.t 39) (.c (.int .i64 0))⟩,
      ⟨some 41, some (38, false), .mov (.t 40)⟩,
      ⟨some 42, some (41, true), .fieldAddr 2 (.t 1)⟩,
      ⟨some 43, some (41, true), .load false 1 (.t 42)⟩,
      ⟨some 44, some (41, true), .mov (.t 3)⟩,
      ⟨some 45, some (41, true), .bin .sub (.t 44) (.c (.int .i64 1))⟩,
      ⟨some 46, some (41, true), .idxS 4 (.t 43) (.t 45)⟩,
      ⟨some 47, some (41, true), .fieldAddr 0 (.t 46)⟩,
      ⟨some 48, some (41, true), .load false 1 (.t 47)⟩,
      ⟨some 49, some (41, true), .fieldAddr 0 (.t 4)⟩,
      ⟨some 50, some (41, true), .load false 1 (.t 49)⟩,
      ⟨some 51, some (41, true), .bin .geq (.t 48) (.t 50)⟩,
      ⟨some 52, some (38, false), .pick (.t 41) (.t 51) (.c (.bool false))⟩,
      ⟨some 53, none, .pick (.t 38) (.c (.bool true)) (.t 52)⟩]
      [[], [], [0, 1], [2], [3, 2], [4], [5, 4], [6, 4, 4], [7], [8, 7], [7], [10, 7], [9, 11, 7], [12, 7], [13, 7], [7], [15, 7], [14, 16, 7], [7, 17, 4], [4, 18]]
      [(0, []), (1, []), (2, []), (3, []), (4, []), (5, []), (6, []), (7, []), (8, []), (10, []), (11, []), (15, []), (9, []), (12, []), (13, []), (14, []), (16, []), (17, []), (18, []), (19, [])]
      [[], [], [0, 1], [0, 1, 2], [0, 1, 2, 3], [0, 1, 2, 3, 4], [0, 1, 2, 3, 4, 5], [0, 1, 2, 3, 4, 5, 6], [0, 1, 2, 3, 4, 5, 6, 7], [0, 1, 2, 3, 4, 5, 6, 7, 8], [0, 1, 2, 3, 4, 5, 6, 7], [0, 1, 2, 3, 4, 5, 6, 7, 10], [0, 1, 2, 3, 4, 5, 6, 7, 8, 9, 10, 11], [0, 1, 2, 3, 4, 5, 6, 7, 8, 9, 10, 11, 12], [0, 1, 2, 3, 4, 5, 6, 7, 8, 9, 10, 11, 12, 13], [0, 1, 2, 3, 4, 5, 6, 7], [0, 1, 2, 3, 4, 5, 6, 7, 15], [0, 1, 2, 3, 4, 5, 6, 7, 8, 9, 10, 11, 12, 13, 14, 15, 16], [0, 1, 2, 3, 4, 5, 6, 7, 8, 9, 10, 11, 12, 13, 14, 15, 16, 17], [0, 1, 2, 3, 4, 5, 6, 7, 8, 9, 10, 11, 12, 13, 14, 15, 16, 17, 18]]
      [1, 27, 28, 29, 53])
    (.cond (.t 53)
      (.seq (.region [⟨some 2, none, .mov (.c (.int .i64 30))⟩]
        [2])
      .ret)
      .skip))) [1, 27, 28, 29])
  (.region [⟨some 54, none, .bin .add (.t 29) (.c (.int .i64 1))⟩,
    ⟨some 29, none, .mov (.t 54)⟩]
    [1, 27, 28, 29]))))
def RC.plan_Check : RFn := ⟨1, [.slot 2],
  (.seq (.region [⟨some 1, none, .box (.t 0)⟩,
    ⟨some 2, none, .mov (.c (.int .i64 0))⟩]
    [1])
  (.seq (.seq (.region [⟨some 7, none, .fieldAddr 0 (.t 1)⟩,
    ⟨some 8, none, .load false 1 (.t 7)⟩,
    ⟨some 9, none, .bin .lss (.t 8) (.c (.int .i64 2))⟩,
    ⟨some 10, none, .mov (.t 9)⟩,
    ⟨some 11, some (10, false), .fieldAddr 0 (.t 1)⟩,
    ⟨some 12, some (10, false), .load false 1 (.t 11)⟩,
    ⟨some 13, some (10, false), .bin .gtr (.t 12) (.c (.int .i64 64))⟩,
    ⟨some 14, none, .pick (.t 10) (.c (.bool true)) (.t 13)⟩,
    ⟨some 15, none, .mov (.t 14)⟩,
    ⟨some 16, some (15, false), .fieldAddr 1 (.t 1)⟩,
    ⟨some 17, some (15, false), .load false 1 (.t 16)⟩,
    ⟨some 18, some (15, false), .bin .eql (.t 17) (.c (u32 0#32))⟩,
    ⟨some 19, none, .pick (.t 15) (.c (.bool true)) (.t 18)⟩,
    ⟨some 20, none, .mov (.t 19)⟩,
    ⟨some 21, some (20, false), .fieldAddr 1 (.t 1)⟩,
    ⟨some 22, some (20, false), .load false 1 (.t 21)⟩,
    ⟨some 23, some (20, false), .bin .shr (.t 22) (.c (u64 16#64))⟩,
    ⟨some 24, some (20, false), .bin .neq (.t 23) (.c (u32 0#32))⟩,
    ⟨some 25, none, .pick (.t 20) (.c (.bool true)) (.t 24)⟩]
    [1, 25])
  (.cond (.t 25)
    (.seq (.region [⟨some 2, none, .mov (.c (.int .i64 30))⟩]
      [2])
    .ret)
    .skip))
  (.seq (.seq (.region [⟨some 26, none, .fieldAddr 2 (.t 1)⟩,
    ⟨some 27, none, .load false 1 (.t 26)⟩,
    ⟨some 28, none, .len (.t 27)⟩,
    ⟨some 29, none, .mov (.c (.int .i64 0))⟩]
    [1, 27, 28, 29])
  (.block 0
    (.loop [1, 27, 28, 29] RB.plan_Check_2) [1]))
  (.seq (.seq (.drawn [⟨some 55, none, .load true 3 (.t 1)⟩,
    ⟨some 56, none, .call F.plan_apart [.t 55]⟩,
    ⟨some 57, none, .un .not (.t 56)⟩,
    ⟨some 58, none, .mov (.t 57)⟩,
    ⟨some 59, some (58, false), .load true 3 (.t 1)⟩,
    ⟨some 60, some (58, false), .call F.plan_Splits [.t 59]⟩,
    ⟨some 61, some (58, false), .load true 3 (.t 1)⟩,
    ⟨some 62, some (58, false), .call F.plan_Cores [.t 61]⟩,
    ⟨some 63, some (58, false), .len (.t 62)⟩,
    ⟨some 64, some (58, false), .bin .geq (.t 60) (.t 63)⟩,
    ⟨some 65, none, .pick (.t 58) (.c (.bool true)) (.t 64)⟩]
    [[], [0], [1], [2, 1], [3], [4, 3, 3], [3], [6, 5, 3], [7, 3], [5, 8, 3], [3, 9]]
    [(0, []), (1, []), (2, []), (3, []), (4, []), (6, []), (5, [1]), (7, []), (8, []), (9, []), (10, [])]
    [[], [0], [0, 1], [0, 1, 2], [0, 1, 2, 3], [0, 1, 2, 3, 4], [0, 1, 2, 3], [0, 1, 2, 3, 4, 5, 6], [0, 1, 2, 3, 4, 5, 6, 7], [0, 1, 2, 3, 4, 5, 6, 7, 8], [0, 1, 2, 3, 4, 5, 6, 7, 8, 9]]
    [1, 65])
  (.cond (.t 65)
    (.seq (.region [⟨some 2, none, .mov (.c (.int .i64 30))⟩]
      [2])
    .ret)
    .skip))
  (.seq (.seq (.region [⟨some 66, none, .load true 3 (.t 1)⟩,
    ⟨some 67, none, .call F.plan_Cores [.t 66]⟩,
    ⟨some 68, none, .len (.t 67)⟩,
    ⟨some 69, none, .mov (.c (.int .i64 0))⟩]
    [1, 67, 68, 69])
  (.block 2
    (.loop [1, 67, 68, 69] RB.plan_Check_1) []))
  (.seq (.region [⟨some 2, none, .mov (.c (.int .i64 0))⟩]
    [2])
  .ret))))))⟩

def RC.stage_Stage_none : RFn := ⟨1, [.slot 2],
  (.seq (.region [⟨some 2, none, .mov (.c (.bool false))⟩]
    [0])
  (.seq (.region [⟨some 3, none, .mov (.t 0)⟩,
    ⟨some 4, none, .eq false .ptr (.t 3) (.c (.pointer none))⟩,
    ⟨some 5, none, .mov (.t 4)⟩,
    ⟨some 6, some (5, false), .mov (.t 0)⟩,
    ⟨some 7, some (5, false), .nilchk (.t 6)⟩,
    ⟨some 8, some (5, false), .fieldAddr 0 (.t 7)⟩,
    ⟨some 9, some (5, false), .fieldAddr 0 (.t 8)⟩,
    ⟨some 10, some (5, false), .load false 1 (.t 9)⟩,
    ⟨some 11, some (5, false), .bin .eql (.t 10) (.c (.int .i64 0))⟩,
    ⟨some 12, none, .pick (.t 5) (.c (.bool true)) (.t 11)⟩,
    ⟨some 2, none, .mov (.t 12)⟩]
    [2])
  .ret))⟩

def RC.stage_own : RFn := ⟨1, [.cell 2 true 3],
  (.seq (.region [⟨some 1, none, .box (.t 0)⟩,
    ⟨some 2, none, .alloc [(.int .i64 0), (u32 0#32), (.slice none 0 0)]⟩]
    [1, 2])
  (.seq (.region [⟨some 3, none, .load true 3 (.t 1)⟩,
    ⟨some 4, none, .call F.plan_Drop [.t 3, .c (.int .i64 0)]⟩,
    ⟨none, none, .store 3 (.t 2) (.t 4)⟩]
    [2])
  .ret))⟩

def RB.ref16_SamePlace_1 : RCode :=
  (.seq (.seq (.region [⟨some 34, none, .mov (.t 5)⟩,
    ⟨some 35, none, .fieldAddr 3 (.t 2)⟩,
    ⟨some 36, none, .load false 1 (.t 35)⟩,
    ⟨some 37, none, .len (.t 36)⟩,
    ⟨some 38, none, .bin .lss (.t 34) (.t 37)⟩]
    [2, 3, 5, 38])
  (.cond (.t 38)
    .skip
    (.exit 0)))
  (.seq (.block 1
    (.seq (.drawn [⟨some 41, none, .fieldAddr 3 (.t 2)⟩,
      ⟨some 42, none, .load false 1 (.t 41)⟩,
      ⟨some 43, none, .mov (.t 5)⟩,
      ⟨some 44, none, .idxS 2 (.t 42) (.t 43)⟩,
      ⟨some 45, none, .load true 2 (.t 44)⟩,
      ⟨some 46, none, .fieldAddr 3 (.t 3)⟩,
      ⟨some 47, none, .load false 1 (.t 46)⟩,
      ⟨some 48, none, .mov (.t 5)⟩,
      ⟨some 49, none, .idxS 2 (.t 47) (.t 48)⟩,
      ⟨some 50, none, .load true 2 (.t 49)⟩,
      ⟨some 51, none, .eq true (.flat [.int, .int]) (.t 45) (.t 50)⟩]
      [[], [0], [], [1, 2], [3], [], [5], [], [6, 7], [8], [4, 9]]
      [(0, []), (2, []), (5, []), (7, []), (1, []), (3, []), (4, []), (6, []), (8, []), (9, []), (10, [])]
      [[], [0], [], [0, 1, 2], [0, 1, 2, 3], [], [5], [], [5, 6, 7], [5, 6, 7, 8], [0, 1, 2, 3, 4, 5, 6, 7, 8, 9]]
      [2, 3, 5, 51])
    (.cond (.t 51)
      (.seq (.region [⟨some 4, none, .mov (.c (.bool false))⟩]
        [4])
      .ret)
      .skip)) [2, 3, 5])
  (.region [⟨some 39, none, .mov (.t 5)⟩,
    ⟨some 40, none, .bin .add (.t 39) (.c (.int .i64 1))⟩,
    ⟨some 5, none, .mov (.t 40)⟩]
    [2, 3, 5])))
def RC.ref16_SamePlace : RFn := ⟨2, [.slot 4],
  (.seq (.region [⟨some 2, none, .box (.t 0)⟩,
    ⟨some 3, none, .box (.t 1)⟩,
    ⟨some 4, none, .mov (.c (.bool false))⟩]
    [2, 3])
  (.seq (.seq (.region [⟨some 6, none, .fieldAddr 0 (.t 2)⟩,
    ⟨some 7, none, .load false 1 (.t 6)⟩,
    ⟨some 8, none, .fieldAddr 0 (.t 3)⟩,
    ⟨some 9, none, .load false 1 (.t 8)⟩,
    ⟨some 10, none, .bin .neq (.t 7) (.t 9)⟩,
    ⟨some 11, none, .mov (.t 10)⟩,
    ⟨some 12, some (11, false), .fieldAddr 1 (.t 2)⟩,
    ⟨some 13, some (11, false), .load false 1 (.t 12)⟩,
    ⟨some 14, some (11, false), .fieldAddr 1 (.t 3)⟩,
    ⟨some 15, some (11, false), .load false 1 (.t 14)⟩,
    ⟨some 16, some (11, false), .bin .neq (.t 13) (.t 15)⟩,
    ⟨some 17, none, .pick (.t 11) (.c (.bool true)) (.t 16)⟩,
    ⟨some 18, none, .mov (.t 17)⟩,
    ⟨some 19, some (18, false), .fieldAddr 2 (.t 2)⟩,
    ⟨some 20, some (18, false), .load false 1 (.t 19)⟩,
    ⟨some 21, some (18, false), .fieldAddr 2 (.t 3)⟩,
    ⟨some 22, some (18, false), .load false 1 (.t 21)⟩,
    ⟨some 23, some (18, false), .bin .neq (.t 20) (.t 22)⟩,
    ⟨some 24, none, .pick (.t 18) (.c (.bool true)) (.t 23)⟩,
    ⟨some 25, none, .mov (.t 24)⟩,
    ⟨some 26, some (25, false), .fieldAddr 3 (.t 2)⟩,
    ⟨some 27, some (25, false), .load false 1 (.t 26)⟩,
    ⟨some 28, some (25, false), .len (.t 27)⟩,
    ⟨some 29, some (25, false), .fieldAddr 3 (.t 3)⟩,
    ⟨some 30, some (25, false), .load false 1 (.t 29)⟩,
    ⟨some 31, some (25, false), .len (.t 30)⟩,
    ⟨some 32, some (25, false), .bin .neq (.t 28) (.t 31)⟩,
    ⟨some 33, none, .pick (.t 25) (.c (.bool true)) (.t 32)⟩]
    [2, 3, 33])
  (.cond (.t 33)
    (.seq (.region [⟨some 4, none, .mov (.c (.bool false))⟩]
      [4])
    .ret)
    .skip))
  (.seq (.seq (.region [⟨some 5, none, .mov (.c (.int .i64 0))⟩]
    [2, 3, 5])
  (.block 0
    (.loop [2, 3, 5] RB.ref16_SamePlace_1) []))
  (.seq (.region [⟨some 4, none, .mov (.c (.bool true))⟩]
    [4])
  .ret))))⟩

def RC.diff_Moved : RFn := ⟨2, [.slot 4],
  (.seq (.region [⟨some 2, none, .box (.t 0)⟩,
    ⟨some 3, none, .box (.t 1)⟩,
    ⟨some 4, none, .mov (.c (.slice none 0 0))⟩]
    [2, 3])
  (.seq (.region [⟨some 5, none, .load true 3 (.t 2)⟩,
    ⟨some 6, none, .load true 3 (.t 3)⟩,
    ⟨some 7, none, .call F.diff_some [.t 5, .t 6, .f F.diff_Moved_1]⟩,
    ⟨some 4, none, .mov (.t 7)⟩]
    [4])
  .ret))⟩

def RC.plan_Find : RFn := ⟨2, [.cell 4 true 4, .slot 5],
  (.seq (.region [⟨some 2, none, .box (.t 0)⟩,
    ⟨some 4, none, .alloc [(.int .i64 0), (.int .i64 0), (.int .i64 0), (.slice none 0 0)]⟩,
    ⟨some 5, none, .mov (.c (.bool false))⟩]
    [1, 2, 4])
  (.seq (.region [⟨some 10, none, .load true 3 (.t 2)⟩,
    ⟨some 11, none, .mov (.t 1)⟩,
    ⟨some 12, none, .call F.plan_find [.t 10, .t 11]⟩,
    ⟨some 9, none, .mov (.t 12)⟩,
    ⟨some 13, none, .ext 0 (.t 9)⟩,
    ⟨some 14, none, .ext 1 (.t 9)⟩,
    ⟨some 6, none, .mov (.t 13)⟩,
    ⟨some 7, none, .mov (.t 14)⟩]
    [2, 4, 6, 7])
  (.seq (.seq (.region [⟨some 15, none, .mov (.t 7)⟩,
    ⟨some 16, none, .un .not (.t 15)⟩]
    [2, 4, 6, 16])
  (.cond (.t 16)
    (.seq (.region [⟨some 17, none, .build [(.int .i64 0), (.int .i64 0), (.int .i64 0), (.slice none 0 0)] []⟩,
      ⟨none, none, .store 4 (.t 4) (.t 17)⟩,
      ⟨some 5, none, .mov (.c (.bool false))⟩]
      [4, 5])
    .ret)
    .skip))
  (.seq (.region [⟨some 18, none, .fieldAddr 2 (.t 2)⟩,
    ⟨some 19, none, .load false 1 (.t 18)⟩,
    ⟨some 20, none, .mov (.t 6)⟩,
    ⟨some 21, none, .idxS 4 (.t 19) (.t 20)⟩,
    ⟨some 22, none, .load true 4 (.t 21)⟩,
    ⟨some 8, none, .alloc [(.int .i64 0), (.int .i64 0), (.int .i64 0), (.slice none 0 0)]⟩,
    ⟨none, none, .store 4 (.t 8) (.t 22)⟩]
    [4, 8])
  (.seq (.region [⟨some 23, none, .fieldAddr 3 (.t 8)⟩,
    ⟨some 24, none, .load false 1 (.t 23)⟩,
    ⟨some 25, none, .call F.slices_Clone_api_Piece_api_Piece [.t 24]⟩,
    ⟨some 26, none, .fieldAddr 3 (.t 8)⟩,
    ⟨none, none, .store 1 (.t 26) (.t 25)⟩]
    [4, 8])
  (.seq (.region [⟨some 27, none, .load true 4 (.t 8)⟩,
    ⟨none, none, .store 4 (.t 4) (.t 27)⟩,
    ⟨some 5, none, .mov (.c (.bool true))⟩]
    [4, 5])
  .ret))))))⟩

def RC.plan_Drop : RFn := ⟨2, [.cell 4 true 3],
  (.seq (.region [⟨some 2, none, .box (.t 0)⟩,
    ⟨some 4, none, .alloc [(.int .i64 0), (u32 0#32), (.slice none 0 0)]⟩]
    [1, 2, 4])
  (.seq (.region [⟨some 8, none, .load true 3 (.t 2)⟩,
    ⟨some 9, none, .call F.plan_clone [.t 8]⟩,
    ⟨some 5, none, .alloc [(.int .i64 0), (u32 0#32), (.slice none 0 0)]⟩,
    ⟨none, none, .store 3 (.t 5) (.t 9)⟩]
    [1, 4, 5])
  (.seq (.seq (.region [⟨some 11, none, .load true 3 (.t 5)⟩,
    ⟨some 12, none, .mov (.t 1)⟩,
    ⟨some 13, none, .call F.plan_find [.t 11, .t 12]⟩,
    ⟨some 10, none, .mov (.t 13)⟩,
    ⟨some 14, none, .ext 0 (.t 10)⟩,
    ⟨some 15, none, .ext 1 (.t 10)⟩,
    ⟨some 6, none, .mov (.t 14)⟩,
    ⟨some 7, none, .mov (.t 15)⟩]
    [4, 5, 6, 7])
  (.seq (.region [⟨some 16, none, .mov (.t 7)⟩]
    [4, 5, 6, 16])
  (.cond (.t 16)
    (.region [⟨some 17, none, .fieldAddr 2 (.t 5)⟩,
      ⟨some 18, none, .load false 1 (.t 17)⟩,
      ⟨some 19, none, .mov (.t 6)⟩,
      ⟨some 20, none, .mov (.t 6)⟩,
      ⟨some 21, none, .bin .add (.t 20) (.c (.int .i64 1))⟩,
      ⟨some 22, none, .call F.slices_Delete_api_Place_api_Place [.t 18, .t 19, .t 21]⟩,
      ⟨some 23, none, .fieldAddr 2 (.t 5)⟩,
      ⟨none, none, .store 1 (.t 23) (.t 22)⟩]
      [4, 5])
    .skip)))
  (.seq (.region [⟨some 24, none, .load true 3 (.t 5)⟩,
    ⟨none, none, .store 3 (.t 4) (.t 24)⟩]
    [4])
  .ret))))⟩

def RC.plan_Same : RFn := ⟨2, [.slot 4],
  (.seq (.region [⟨some 2, none, .box (.t 0)⟩,
    ⟨some 3, none, .box (.t 1)⟩,
    ⟨some 4, none, .mov (.c (.bool false))⟩]
    [2, 3])
  (.seq (.region [⟨some 5, none, .fieldAddr 0 (.t 2)⟩,
    ⟨some 6, none, .load false 1 (.t 5)⟩,
    ⟨some 7, none, .fieldAddr 0 (.t 3)⟩,
    ⟨some 8, none, .load false 1 (.t 7)⟩,
    ⟨some 9, none, .bin .eql (.t 6) (.t 8)⟩,
    ⟨some 10, none, .mov (.t 9)⟩,
    ⟨some 11, some (10, true), .fieldAddr 1 (.t 2)⟩,
    ⟨some 12, some (10, true), .load false 1 (.t 11)⟩,
    ⟨some 13, some (10, true), .fieldAddr 1 (.t 3)⟩,
    ⟨some 14, some (10, true), .load false 1 (.t 13)⟩,
    ⟨some 15, some (10, true), .bin .eql (.t 12) (.t 14)⟩,
    ⟨some 16, none, .pick (.t 10) (.t 15) (.c (.bool false))⟩,
    ⟨some 17, none, .mov (.t 16)⟩,
    ⟨some 18, some (17, true), .fieldAddr 2 (.t 2)⟩,
    ⟨some 19, some (17, true), .load false 1 (.t 18)⟩,
    ⟨some 20, some (17, true), .fieldAddr 2 (.t 3)⟩,
    ⟨some 21, some (17, true), .load false 1 (.t 20)⟩,
    ⟨some 22, some (17, true), .call F.slices_EqualFunc_api_Place_api_Place_api_Place_api_Place [.t 19, .t 21, .f F.plan_SamePlace]⟩,
    ⟨some 23, none, .pick (.t 17) (.t 22) (.c (.bool false))⟩,
    ⟨some 4, none, .mov (.t 23)⟩]
    [4])
  .ret))⟩

def RC.plan_place : RFn := ⟨2, [.slot 4],
  (.seq (.region [⟨some 2, none, .box (.t 0)⟩,
    ⟨some 3, none, .box (.t 1)⟩,
    ⟨some 4, none, .mov (.c (.bool false))⟩]
    [2, 3])
  (.seq (.seq (.region [⟨some 9, none, .fieldAddr 0 (.t 3)⟩,
    ⟨some 10, none, .load false 1 (.t 9)⟩,
    ⟨some 11, none, .call F.order_Kind [.t 10]⟩,
    ⟨some 8, none, .mov (.t 11)⟩,
    ⟨some 12, none, .ext 0 (.t 8)⟩,
    ⟨some 13, none, .ext 1 (.t 8)⟩,
    ⟨some 14, none, .ext 2 (.t 8)⟩,
    ⟨some 5, none, .mov (.t 12)⟩,
    ⟨some 6, none, .mov (.t 13)⟩,
    ⟨some 7, none, .mov (.t 14)⟩]
    [2, 3, 7])
  (.seq (.region [⟨some 15, none, .mov (.t 7)⟩,
    ⟨some 16, none, .un .not (.t 15)⟩,
    ⟨some 17, none, .mov (.t 16)⟩,
    ⟨some 18, some (17, false), .fieldAddr 1 (.t 3)⟩,
    ⟨some 19, some (17, false), .load false 1 (.t 18)⟩,
    ⟨some 20, some (17, false), .bin .lss (.t 19) (.c (.int .i64 1))⟩,
    ⟨some 21, none, .pick (.t 17) (.c (.bool true)) (.t 20)⟩,
    ⟨some 22, none, .mov (.t 21)⟩,
    ⟨some 23, some (22, false), .fieldAddr 1 (.t 3)⟩,
    ⟨some 24, some (22, false), .load false 1 (.t 23)⟩,
    ⟨some 25, some (22, false), .fieldAddr 0 (.t 2)⟩,
    ⟨some 26, some (22, false), .load false 1 (.t 25)⟩,
    ⟨some 27, some (22, false), .bin .gtr (.t 24) (.t 26)⟩,
    ⟨some 28, none, .pick (.t 22) (.c (.bool true)) (.t 27)⟩]
    [2, 3, 28])
  (.cond (.t 28)
    (.seq (.region [⟨some 4, none, .mov (.c (.bool false))⟩]
      [4])
    .ret)
    .skip)))
  (.seq (.seq (.region [⟨some 29, none, .load true 4 (.t 3)⟩,
    ⟨some 30, none, .call F.plan_split [.t 29]⟩]
    [2, 3, 30])
  (.cond (.t 30)
    (.seq (.region [⟨some 31, none, .load true 3 (.t 2)⟩,
      ⟨some 32, none, .load true 4 (.t 3)⟩,
      ⟨some 33, none, .call F.plan_pieces [.t 31, .t 32]⟩,
      ⟨some 4, none, .mov (.t 33)⟩]
      [4])
    .ret)
    .skip))
  (.seq (.region [⟨some 34, none, .load true 3 (.t 2)⟩,
    ⟨some 35, none, .fieldAddr 2 (.t 3)⟩,
    ⟨some 36, none, .load false 1 (.t 35)⟩,
    ⟨some 37, none, .call F.plan_has [.t 34, .t 36]⟩,
    ⟨some 4, none, .mov (.t 37)⟩]
    [4])
  .ret))))⟩

def RB.plan_apart_1 : RCode :=
  (.seq (.region [⟨some 19, none, .bin .lss (.t 18) (.t 17)⟩]
    [3, 9, 10, 11, 16, 17, 18, 19])
  (.seq (.cond (.t 19)
    .skip
    (.exit 2))
  (.seq (.block 3
    (.seq (.region [⟨some 20, none, .idxS 2 (.t 16) (.t 18)⟩,
      ⟨some 21, none, .load true 2 (.t 20)⟩,
      ⟨some 7, none, .alloc [(.int .i64 0), (u64 0#64)]⟩,
      ⟨none, none, .store 2 (.t 7) (.t 21)⟩]
      [3, 7, 9, 10, 11, 16, 17, 18])
    (.seq (.seq (.drawn [⟨some 22, none, .fieldAddr 0 (.t 7)⟩,
      ⟨some 23, none, .load false 1 (.t 22)⟩,
      ⟨some 24, none, .idxP 16 1 (.t 3) (.t 23)⟩,
      ⟨some 25, none, .load false 1 (.t 24)⟩,
      ⟨some 26, none, .fieldAddr 1 (.t 7)⟩,
      ⟨some 27, none, .load false 1 (.t 26)⟩,
      ⟨some 28, none, .bin .and (.t 25) (.t 27)⟩,
      ⟨some 29, none, .bin .neq (.t 28) (.c (u64 0#64))⟩]
      [[], [0], [1], [2], [], [4], [3, 5], [6]]
      [(0, []), (4, []), (1, []), (2, []), (3, []), (5, []), (6, []), (7, [])]
      [[], [0], [0, 1], [0, 1, 2], [], [4], [0, 1, 2, 3, 4, 5], [0, 1, 2, 3, 4, 5, 6]]
      [3, 7, 9, 10, 11, 16, 17, 18, 29])
    (.cond (.t 29)
      (.seq (.region [⟨some 2, none, .mov (.c (.bool false))⟩]
        [2])
      .ret)
      .skip))
    (.drawn [⟨some 30, none, .fieldAddr 0 (.t 7)⟩,
      ⟨some 31, none, .load false 1 (.t 30)⟩,
      ⟨some 32, none, .idxP 16 1 (.t 3) (.t 31)⟩,
      ⟨some 33, none, .load false 1 (.t 32)⟩,
      ⟨some 34, none, .fieldAddr 1 (.t 7)⟩,
      ⟨some 35, none, .load false 1 (.t 34)⟩,
      ⟨some 36, none, .bin .or (.t 33) (.t 35)⟩,
      ⟨some 37, none, .idxP 16 1 (.t 3) (.t 31)⟩,
      ⟨none, none, .store 1 (.t 37) (.t 36)⟩]
      [[], [0], [1], [2], [], [4], [3, 5], [1, 0, 1, 2, 3, 4, 5, 6], [7, 6, 0, 1, 2, 3, 4, 5, 6]]
      [(0, []), (4, []), (1, []), (2, []), (3, []), (5, []), (6, []), (7, []), (8, [])]
      [[], [0], [0, 1], [0, 1, 2], [], [4], [0, 1, 2, 3, 4, 5], [0, 1, 2, 3, 4, 5, 6], [0, 1, 2, 3, 4, 5, 6, 7]]
      [3, 9, 10, 11, 16, 17, 18]))) [3, 9, 10, 11, 16, 17, 18])
  (.region [⟨some 38, none, .bin .add (.t 18) (.c (.int .i64 1))⟩,
    ⟨some 18, none, .mov (.t 38)⟩]
    [3, 9, 10, 11, 16, 17, 18]))))
def RB.plan_apart_2 : RCode :=
  (.seq (.region [⟨some 12, none, .bin .lss (.t 11) (.t 10)⟩]
    [3, 9, 10, 11, 12])
  (.seq (.cond (.t 12)
    .skip
    (.exit 0))
  (.seq (.block 1
    (.seq (.region [⟨some 13, none, .idxS 4 (.t 9) (.t 11)⟩,
      ⟨some 14, none, .load true 4 (.t 13)⟩,
      ⟨some 5, none, .alloc [(.int .i64 0), (.int .i64 0), (.int .i64 0), (.slice none 0 0)]⟩,
      ⟨none, none, .store 4 (.t 5) (.t 14)⟩]
      [3, 5, 9, 10, 11])
    (.seq (.region [⟨some 15, none, .fieldAddr 3 (.t 5)⟩,
      ⟨some 16, none, .load false 1 (.t 15)⟩,
      ⟨some 17, none, .len (.t 16)⟩,
      ⟨some 18, none, .mov (.c (.int .i64 0))⟩]
      [3, 9, 10, 11, 16, 17, 18])
    (.block 2
      (.loop [3, 9, 10, 11, 16, 17, 18] RB.plan_apart_1) [3, 9, 10, 11]))) [3, 9, 10, 11])
  (.region [⟨some 39, none, .bin .add (.t 11) (.c (.int .i64 1))⟩,
    ⟨some 11, none, .mov (.t 39)⟩]
    [3, 9, 10, 11]))))
def RC.plan_apart : RFn := ⟨1, [.slot 2],
  (.seq (.region [⟨some 1, none, .box (.t 0)⟩,
    ⟨some 2, none, .mov (.c (.bool false))⟩]
    [1])
  (.seq (.region [⟨some 3, none, .alloc [(u64 0#64), (u64 0#64), (u64 0#64), (u64 0#64), (u64 0#64), (u64 0#64), (u64 0#64), (u64 0#64), (u64 0#64), (u64 0#64), (u64 0#64), (u64 0#64), (u64 0#64), (u64 0#64), (u64 0#64), (u64 0#64)]⟩]
    [1, 3])
  (.seq (.seq (.region [⟨some 8, none, .fieldAddr 2 (.t 1)⟩,
    ⟨some 9, none, .load false 1 (.t 8)⟩,
    ⟨some 10, none, .len (.t 9)⟩,
    ⟨some 11, none, .mov (.c (.int .i64 0))⟩]
    [3, 9, 10, 11])
  (.block 0
    (.loop [3, 9, 10, 11] RB.plan_apart_2) []))
  (.seq (.region [⟨some 2, none, .mov (.c (.bool true))⟩]
    [2])
  .ret))))⟩

def RB.plan_Splits_1 : RCode :=
  (.seq (.region [⟨some 10, none, .bin .lss (.t 9) (.t 8)⟩]
    [3, 7, 8, 9, 10])
  (.seq (.cond (.t 10)
    .skip
    (.exit 0))
  (.seq (.block 1
    (.seq (.region [⟨some 11, none, .idxS 4 (.t 7) (.t 9)⟩,
      ⟨some 12, none, .load true 4 (.t 11)⟩,
      ⟨some 5, none, .alloc [(.int .i64 0), (.int .i64 0), (.int .i64 0), (.slice none 0 0)]⟩,
      ⟨none, none, .store 4 (.t 5) (.t 12)⟩]
      [3, 5, 7, 8, 9])
    (.seq (.region [⟨some 13, none, .load true 4 (.t 5)⟩,
      ⟨some 14, none, .call F.plan_split [.t 13]⟩]
      [3, 7, 8, 9, 14])
    (.cond (.t 14)
      (.region [⟨some 15, none, .mov (.t 3)⟩,
        ⟨some 16, none, .bin .add (.t 15) (.c (.int .i64 1))⟩,
        ⟨some 3, none, .mov (.t 16)⟩]
        [3, 7, 8, 9])
      .skip))) [3, 7, 8, 9])
  (.region [⟨some 17, none, .bin .add (.t 9) (.c (.int .i64 1))⟩,
    ⟨some 9, none, .mov (.t 17)⟩]
    [3, 7, 8, 9]))))
def RC.plan_Splits : RFn := ⟨1, [.slot 2],
  (.seq (.region [⟨some 1, none, .box (.t 0)⟩,
    ⟨some 2, none, .mov (.c (.int .i64 0))⟩]
    [1])
  (.seq (.region [⟨some 3, none, .mov (.c (.int .i64 0))⟩]
    [1, 3])
  (.seq (.seq (.region [⟨some 6, none, .fieldAddr 2 (.t 1)⟩,
    ⟨some 7, none, .load false 1 (.t 6)⟩,
    ⟨some 8, none, .len (.t 7)⟩,
    ⟨some 9, none, .mov (.c (.int .i64 0))⟩]
    [3, 7, 8, 9])
  (.block 0
    (.loop [3, 7, 8, 9] RB.plan_Splits_1) [3]))
  (.seq (.region [⟨some 18, none, .mov (.t 3)⟩,
    ⟨some 2, none, .mov (.t 18)⟩]
    [2])
  .ret))))⟩

def RB.plan_Cores_1 : RCode :=
  (.seq (.region [⟨some 6, none, .bin .lss (.t 5) (.c (.int .i64 16))⟩]
    [1, 3, 5, 6])
  (.seq (.cond (.t 6)
    .skip
    (.exit 0))
  (.seq (.block 1
    (.seq (.region [⟨some 7, none, .mov (.t 5)⟩,
      ⟨some 4, none, .mov (.t 7)⟩]
      [1, 3, 4, 5])
    (.seq (.region [⟨some 8, none, .load true 3 (.t 1)⟩,
      ⟨some 9, none, .mov (.t 4)⟩,
      ⟨some 10, none, .call F.plan_has [.t 8, .t 9]⟩]
      [1, 3, 4, 5, 10])
    (.cond (.t 10)
      (.region [⟨some 11, none, .mov (.t 3)⟩,
        ⟨some 12, none, .mov (.t 4)⟩,
        ⟨some 13, none, .bslice [(.int .i64 0)] [(0, 1, .t 12)] 1 1⟩,
        ⟨some 14, none, .app 1 8 (.t 11) (.t 13)⟩,
        ⟨some 3, none, .mov (.t 14)⟩]
        [1, 3, 5])
      .skip))) [1, 3, 5])
  (.region [⟨some 15, none, .bin .add (.t 5) (.c (.int .i64 1))⟩,
    ⟨some 5, none, .mov (.t 15)⟩]
    [1, 3, 5]))))
def RC.plan_Cores : RFn := ⟨1, [.slot 2],
  (.seq (.region [⟨some 1, none, .box (.t 0)⟩,
    ⟨some 2, none, .mov (.c (.slice none 0 0))⟩]
    [1])
  (.seq (.region [⟨some 3, none, .mov (.c (.slice none 0 0))⟩]
    [1, 3])
  (.seq (.seq (.region [⟨some 5, none, .mov (.c (.int .i64 0))⟩]
    [1, 3, 5])
  (.block 0
    (.loop [1, 3, 5] RB.plan_Cores_1) [3]))
  (.seq (.region [⟨some 16, none, .mov (.t 3)⟩,
    ⟨some 2, none, .mov (.t 16)⟩]
    [2])
  .ret))))⟩

def RB.plan_left_1 : RCode :=
  (.seq (.region [⟨some 20, none, .bin .lss (.t 19) (.t 18)⟩]
    [5, 17, 18, 19, 20])
  (.seq (.cond (.t 20)
    .skip
    (.exit 0))
  (.seq (.block 1
    (.seq (.region [⟨some 21, none, .idxS 2 (.t 17) (.t 19)⟩,
      ⟨some 22, none, .load true 2 (.t 21)⟩,
      ⟨some 7, none, .alloc [(.int .i64 0), (.int .i64 0)]⟩,
      ⟨none, none, .store 2 (.t 7) (.t 22)⟩]
      [5, 7, 17, 18, 19])
    (.region [⟨some 23, none, .mov (.t 5)⟩,
      ⟨some 24, none, .fieldAddr 1 (.t 7)⟩,
      ⟨some 25, none, .load false 1 (.t 24)⟩,
      ⟨some 26, none, .bin .sub (.t 23) (.t 25)⟩,
      ⟨some 5, none, .mov (.t 26)⟩]
      [5, 17, 18, 19])) [5, 17, 18, 19])
  (.region [⟨some 27, none, .bin .add (.t 19) (.c (.int .i64 1))⟩,
    ⟨some 19, none, .mov (.t 27)⟩]
    [5, 17, 18, 19]))))
def RC.plan_left : RFn := ⟨2, [.slot 4],
  (.seq (.region [⟨some 2, none, .box (.t 0)⟩,
    ⟨some 4, none, .mov (.c (.int .i64 0))⟩]
    [1, 2])
  (.seq (.drawn [⟨some 8, none, .fieldAddr 0 (.t 2)⟩,
    ⟨some 9, none, .load false 1 (.t 8)⟩,
    ⟨some 10, none, .load true 3 (.t 2)⟩,
    ⟨some 11, none, .mov (.t 1)⟩,
    ⟨some 12, none, .call F.plan_Windows [.t 10, .t 11]⟩,
    ⟨some 13, none, .call F.mask_Count [.t 12]⟩,
    ⟨some 14, none, .bin .sub (.t 9) (.t 13)⟩,
    ⟨some 5, none, .mov (.t 14)⟩]
    [[], [0], [], [], [2, 3], [4, 4], [1, 5], [6, 5, 0, 1, 2, 3, 4, 5, 6]]
    [(0, []), (3, []), (1, []), (2, []), (4, [8]), (5, [8]), (6, []), (7, [])]
    [[], [0], [], [], [2, 3], [2, 3, 4], [0, 1, 2, 3, 4, 5], [0, 1, 2, 3, 4, 5, 6]]
    [1, 2, 5])
  (.seq (.seq (.region [⟨some 15, none, .load true 3 (.t 2)⟩,
    ⟨some 16, none, .mov (.t 1)⟩,
    ⟨some 17, none, .call F.plan_Wholes [.t 15, .t 16]⟩,
    ⟨some 18, none, .len (.t 17)⟩,
    ⟨some 19, none, .mov (.c (.int .i64 0))⟩]
    [5, 17, 18, 19])
  (.block 0
    (.loop [5, 17, 18, 19] RB.plan_left_1) [5]))
  (.seq (.region [⟨some 28, none, .mov (.t 5)⟩,
    ⟨some 4, none, .mov (.t 28)⟩]
    [4])
  .ret))))⟩

def RC.diff_some : RFn := ⟨3, [.slot 6],
  (.seq (.region [⟨some 3, none, .box (.t 0)⟩,
    ⟨some 4, none, .box (.t 1)⟩,
    ⟨some 5, none, .box (.t 2)⟩,
    ⟨some 6, none, .mov (.c (.slice none 0 0))⟩]
    [3, 4, 5])
  (.seq (.drawn [⟨some 10, none, .load true 3 (.t 3)⟩,
    ⟨some 11, none, .call F.diff_places [.t 10]⟩,
    ⟨some 12, none, .load true 3 (.t 4)⟩,
    ⟨some 13, none, .call F.diff_places [.t 12]⟩,
    ⟨some 7, none, .alloc [(.map none)]⟩,
    ⟨some 8, none, .alloc [(.map none)]⟩,
    ⟨none, none, .store 1 (.t 7) (.t 11)⟩,
    ⟨none, none, .store 1 (.t 8) (.t 13)⟩]
    [[], [0], [], [2, 1], [], [], [4, 1, 3, 0, 1, 4, 5], [5, 3, 6, 0, 1, 2, 3, 4, 5, 6]]
    [(0, []), (2, []), (1, [4]), (3, []), (4, []), (5, []), (6, []), (7, [])]
    [[], [0], [], [0, 1, 2], [], [], [0, 1, 2, 3, 4, 5], [0, 1, 2, 3, 4, 5, 6]]
    [5, 7, 8])
  (.seq (.region [⟨some 14, none, .load false 1 (.t 7)⟩,
    ⟨some 15, none, .call F.maps_Keys_map_int_api_Place_int_api_Place [.t 14]⟩,
    ⟨some 16, none, .call F.slices_Sorted_int [.t 15]⟩,
    ⟨some 9, none, .mov (.t 16)⟩]
    [5, 7, 8, 9])
  (.seq (.region [⟨some 17, none, .mov (.t 9)⟩,
    ⟨some 18, none, .load false 1 (.t 8)⟩,
    ⟨some 19, none, .call F.maps_Keys_map_int_api_Place_int_api_Place [.t 18]⟩,
    ⟨some 20, none, .call F.slices_Sorted_int [.t 19]⟩,
    ⟨some 21, none, .app 1 8 (.t 17) (.t 20)⟩,
    ⟨some 9, none, .mov (.t 21)⟩]
    [5, 7, 8, 9])
  (.seq (.region [⟨some 22, none, .mov (.t 9)⟩,
    ⟨some 23, none, .call F.slices_Sort_int_int [.t 22]⟩]
    [5, 7, 8, 9])
  (.seq (.region [⟨some 24, none, .mov (.t 9)⟩,
    ⟨some 25, none, .call F.slices_Compact_int_int [.t 24]⟩,
    ⟨some 26, none, .mkfn (.func F.diff_some_1) [] [.t 7, .t 8, .t 5]⟩,
    ⟨some 27, none, .call F.slices_DeleteFunc_int_int [.t 25, .t 26]⟩,
    ⟨some 6, none, .mov (.t 27)⟩]
    [6])
  .ret))))))⟩

def RC.diff_Moved_1 : RFn := ⟨4, [.slot 8],
  (.seq (.region [⟨some 4, none, .box (.t 0)⟩,
    ⟨some 5, none, .box (.t 1)⟩,
    ⟨some 8, none, .mov (.c (.bool false))⟩]
    [2, 3, 4, 5])
  (.seq (.region [⟨some 9, none, .mov (.t 2)⟩,
    ⟨some 10, none, .mov (.t 9)⟩,
    ⟨some 11, some (10, true), .mov (.t 3)⟩,
    ⟨some 12, none, .pick (.t 10) (.t 11) (.c (.bool false))⟩,
    ⟨some 13, none, .mov (.t 12)⟩,
    ⟨some 14, some (13, true), .load true 4 (.t 4)⟩,
    ⟨some 15, some (13, true), .load true 4 (.t 5)⟩,
    ⟨some 16, some (13, true), .call F.diff_moved [.t 14, .t 15]⟩,
    ⟨some 17, none, .pick (.t 13) (.t 16) (.c (.bool false))⟩,
    ⟨some 8, none, .mov (.t 17)⟩]
    [8])
  .ret))⟩

def RC.diff_moved : RFn := ⟨2, [.slot 4],
  (.seq (.region [⟨some 2, none, .box (.t 0)⟩,
    ⟨some 3, none, .box (.t 1)⟩,
    ⟨some 4, none, .mov (.c (.bool false))⟩]
    [2, 3])
  (.seq (.region [⟨some 5, none, .fieldAddr 3 (.t 2)⟩,
    ⟨some 6, none, .load false 1 (.t 5)⟩,
    ⟨some 7, none, .fieldAddr 3 (.t 3)⟩,
    ⟨some 8, none, .load false 1 (.t 7)⟩,
    ⟨some 9, none, .call F.slices_Equal_api_Piece_api_Piece [.t 6, .t 8]⟩,
    ⟨some 10, none, .un .not (.t 9)⟩,
    ⟨some 11, none, .mov (.t 10)⟩,
    ⟨some 12, some (11, false), .fieldAddr 3 (.t 2)⟩,
    ⟨some 13, some (11, false), .load false 1 (.t 12)⟩,
    ⟨some 14, some (11, false), .len (.t 13)⟩,
    ⟨some 15, some (11, false), .bin .eql (.t 14) (.c (.int .i64 0))⟩,
    ⟨some 16, some (11, false), .mov (.t 15)⟩,
    ⟨some 17, some (16, true), .fieldAddr 2 (.t 2)⟩,
    ⟨some 18, some (16, true), .load false 1 (.t 17)⟩,
    ⟨some 19, some (16, true), .fieldAddr 2 (.t 3)⟩,
    ⟨some 20, some (16, true), .load false 1 (.t 19)⟩,
    ⟨some 21, some (16, true), .bin .neq (.t 18) (.t 20)⟩,
    ⟨some 22, some (11, false), .pick (.t 16) (.t 21) (.c (.bool false))⟩,
    ⟨some 23, none, .pick (.t 11) (.c (.bool true)) (.t 22)⟩,
    ⟨some 4, none, .mov (.t 23)⟩]
    [4])
  .ret))⟩

def RC.plan_find : RFn := ⟨2, [.slot 4, .slot 5],
  (.seq (.region [⟨some 2, none, .box (.t 0)⟩,
    ⟨some 4, none, .mov (.c (.int .i64 0))⟩,
    ⟨some 5, none, .mov (.c (.bool false))⟩]
    [1, 2])
  (.seq (.region [⟨some 6, none, .fieldAddr 2 (.t 2)⟩,
    ⟨some 7, none, .load false 1 (.t 6)⟩,
    ⟨some 8, none, .mov (.t 1)⟩,
    ⟨some 9, none, .call F.slices_BinarySearchFunc_api_Place_api_Place_int [.t 7, .t 8, .f F.plan_find_1]⟩,
    ⟨some 10, none, .ext 0 (.t 9)⟩,
    ⟨some 11, none, .ext 1 (.t 9)⟩,
    ⟨some 4, none, .mov (.t 10)⟩,
    ⟨some 5, none, .mov (.t 11)⟩]
    [4, 5])
  .ret))⟩

def RC.slices_Clone_api_Piece_api_Piece : RFn := ⟨1, [.slot 2],
  (.seq (.region [⟨some 2, none, .mov (.c (.slice none 0 0))⟩]
    [0])
  (.seq (.seq (.region [⟨some 3, none, .mov (.t 0)⟩,
    ⟨some 4, none, .eq false .slice (.t 3) (.c (.slice none 0 0))⟩]
    [0, 4])
  (.cond (.t 4)
    (.seq (.region [⟨some 2, none, .mov (.c (.slice none 0 0))⟩]
      [2])
    .ret)
    .skip))
  (.seq (.region [⟨some 5, none, .bslice [] [] 0 2⟩,
    ⟨some 6, none, .mov (.t 0)⟩,
    ⟨some 7, none, .app 2 16 (.t 5) (.t 6)⟩,
    ⟨some 2, none, .mov (.t 7)⟩]
    [2])
  .ret)))⟩

def RB.plan_clone_1 : RCode :=
  (.seq (.region [⟨some 14, none, .bin .lss (.t 13) (.t 12)⟩]
    [1, 2, 3, 11, 12, 13, 14])
  (.seq (.cond (.t 14)
    .skip
    (.exit 0))
  (.seq (.block 1
    (.seq (.region [⟨some 15, none, .idxS 4 (.t 11) (.t 13)⟩,
      ⟨some 16, none, .load true 4 (.t 15)⟩,
      ⟨some 5, none, .alloc [(.int .i64 0), (.int .i64 0), (.int .i64 0), (.slice none 0 0)]⟩,
      ⟨none, none, .store 4 (.t 5) (.t 16)⟩]
      [1, 2, 3, 5, 11, 12, 13])
    (.seq (.region [⟨some 17, none, .fieldAddr 3 (.t 5)⟩,
      ⟨some 18, none, .load false 1 (.t 17)⟩,
      ⟨some 19, none, .call F.slices_Clone_api_Piece_api_Piece [.t 18]⟩,
      ⟨some 20, none, .fieldAddr 3 (.t 5)⟩,
      ⟨none, none, .store 1 (.t 20) (.t 19)⟩]
      [1, 2, 3, 5, 11, 12, 13])
    (.region [⟨some 21, none, .mov (.t 3)⟩,
      ⟨some 22, none, .load true 4 (.t 5)⟩,
      ⟨some 23, none, .bslice [(.int .i64 0), (.int .i64 0), (.int .i64 0), (.slice none 0 0)] [(0, 4, .t 22)] 1 4⟩,
      ⟨some 24, none, .app 4 48 (.t 21) (.t 23)⟩,
      ⟨some 3, none, .mov (.t 24)⟩]
      [1, 2, 3, 11, 12, 13]))) [1, 2, 3, 11, 12, 13])
  (.region [⟨some 25, none, .bin .add (.t 13) (.c (.int .i64 1))⟩,
    ⟨some 13, none, .mov (.t 25)⟩]
    [1, 2, 3, 11, 12, 13]))))
def RC.plan_clone : RFn := ⟨1, [.cell 2 true 3],
  (.seq (.region [⟨some 1, none, .box (.t 0)⟩,
    ⟨some 2, none, .alloc [(.int .i64 0), (u32 0#32), (.slice none 0 0)]⟩]
    [1, 2])
  (.seq (.region [⟨some 6, none, .fieldAddr 2 (.t 1)⟩,
    ⟨some 7, none, .load false 1 (.t 6)⟩,
    ⟨some 8, none, .len (.t 7)⟩,
    ⟨some 9, none, .mkslice 4 48 [(.int .i64 0), (.int .i64 0), (.int .i64 0), (.slice none 0 0)] (.c (.int .i64 0)) (.t 8)⟩,
    ⟨some 3, none, .mov (.t 9)⟩]
    [1, 2, 3])
  (.seq (.seq (.region [⟨some 10, none, .fieldAddr 2 (.t 1)⟩,
    ⟨some 11, none, .load false 1 (.t 10)⟩,
    ⟨some 12, none, .len (.t 11)⟩,
    ⟨some 13, none, .mov (.c (.int .i64 0))⟩]
    [1, 2, 3, 11, 12, 13])
  (.block 0
    (.loop [1, 2, 3, 11, 12, 13] RB.plan_clone_1) [1, 2, 3]))
  (.seq (.region [⟨some 26, none, .mov (.t 3)⟩,
    ⟨some 27, none, .fieldAddr 2 (.t 1)⟩,
    ⟨none, none, .store 1 (.t 27) (.t 26)⟩]
    [1, 2])
  (.seq (.region [⟨some 28, none, .load true 3 (.t 1)⟩,
    ⟨none, none, .store 3 (.t 2) (.t 28)⟩]
    [2])
  .ret)))))⟩

def RC.slices_Delete_api_Place_api_Place : RFn := ⟨3, [.slot 6],
  (.seq (.region [⟨some 6, none, .mov (.c (.slice none 0 0))⟩]
    [0, 1, 2])
  (.seq (.region [⟨some 8, none, .mov (.t 0)⟩,
    ⟨some 9, none, .mov (.t 1)⟩,
    ⟨some 10, none, .mov (.t 2)⟩,
    ⟨some 11, none, .mov (.t 0)⟩,
    ⟨some 12, none, .len (.t 11)⟩,
    ⟨some 13, none, .sub 4 (.t 8) (some (.t 9)) (some (.t 10)) (some (.t 12))⟩]
    [0, 1, 2])
  (.seq (.seq (.region [⟨some 14, none, .mov (.t 1)⟩,
    ⟨some 15, none, .mov (.t 2)⟩,
    ⟨some 16, none, .bin .eql (.t 14) (.t 15)⟩]
    [0, 1, 2, 16])
  (.cond (.t 16)
    (.seq (.region [⟨some 17, none, .mov (.t 0)⟩,
      ⟨some 6, none, .mov (.t 17)⟩]
      [6])
    .ret)
    .skip))
  (.seq (.region [⟨some 18, none, .mov (.t 0)⟩,
    ⟨some 19, none, .len (.t 18)⟩,
    ⟨some 7, none, .mov (.t 19)⟩]
    [0, 1, 2, 7])
  (.seq (.drawn [⟨some 20, none, .mov (.t 0)⟩,
    ⟨some 21, none, .mov (.t 1)⟩,
    ⟨some 22, none, .sub 4 (.t 20) none (some (.t 21)) none⟩,
    ⟨some 23, none, .mov (.t 0)⟩,
    ⟨some 24, none, .mov (.t 2)⟩,
    ⟨some 25, none, .sub 4 (.t 23) (some (.t 24)) none none⟩,
    ⟨some 26, none, .app 4 48 (.t 22) (.t 25)⟩,
    ⟨some 0, none, .mov (.t 26)⟩]
    [[], [], [0, 1], [], [], [3, 4], [2, 5], [6, 6, 0, 1, 2, 3, 4, 5, 6]]
    [(0, []), (1, []), (3, []), (4, []), (2, []), (5, []), (6, []), (7, [])]
    [[], [], [0, 1], [], [], [3, 4], [0, 1, 2, 3, 4, 5], [0, 1, 2, 3, 4, 5, 6]]
    [0, 7])
  (.seq (.region [⟨some 27, none, .mov (.t 0)⟩,
    ⟨some 28, none, .mov (.t 0)⟩,
    ⟨some 29, none, .len (.t 28)⟩,
    ⟨some 30, none, .mov (.t 7)⟩,
    ⟨some 31, none, .sub 4 (.t 27) (some (.t 29)) (some (.t 30)) none⟩,
    ⟨none, none, .clr 4 [(.int .i64 0), (.int .i64 0), (.int .i64 0), (.slice none 0 0)] (.t 31)⟩]
    [0])
  (.seq (.region [⟨some 32, none, .mov (.t 0)⟩,
    ⟨some 6, none, .mov (.t 32)⟩]
    [6])
  .ret)))))))⟩

def RB.slices_EqualFunc_api_Place_api_Place_api_Place_api_Place_1 : RCode :=
  (.seq (.region [⟨some 18, none, .bin .lss (.t 17) (.t 16)⟩]
    [1, 2, 15, 16, 17, 18])
  (.seq (.cond (.t 18)
    .skip
    (.exit 0))
  (.seq (.block 1
    (.seq (.region [⟨some 19, none, .mov (.t 17)⟩,
      ⟨some 20, none, .idxS 4 (.t 15) (.t 17)⟩,
      ⟨some 21, none, .load true 4 (.t 20)⟩,
      ⟨some 8, none, .alloc [(.int .i64 0), (.int .i64 0), (.int .i64 0), (.slice none 0 0)]⟩,
      ⟨some 7, none, .mov (.t 19)⟩,
      ⟨none, none, .store 4 (.t 8) (.t 21)⟩]
      [1, 2, 7, 8, 15, 16, 17])
    (.seq (.region [⟨some 22, none, .mov (.t 1)⟩,
      ⟨some 23, none, .mov (.t 7)⟩,
      ⟨some 24, none, .idxS 4 (.t 22) (.t 23)⟩,
      ⟨some 25, none, .load true 4 (.t 24)⟩,
      ⟨some 9, none, .alloc [(.int .i64 0), (.int .i64 0), (.int .i64 0), (.slice none 0 0)]⟩,
      ⟨none, none, .store 4 (.t 9) (.t 25)⟩]
      [1, 2, 8, 9, 15, 16, 17])
    (.seq (.region [⟨some 26, none, .mov (.t 2)⟩,
      ⟨some 27, none, .load true 4 (.t 8)⟩,
      ⟨some 28, none, .load true 4 (.t 9)⟩,
      ⟨some 29, none, .callv (.t 26) [.t 27, .t 28]⟩,
      ⟨some 30, none, .un .not (.t 29)⟩]
      [1, 2, 15, 16, 17, 30])
    (.cond (.t 30)
      (.seq (.region [⟨some 6, none, .mov (.c (.bool false))⟩]
        [6])
      .ret)
      .skip)))) [1, 2, 15, 16, 17])
  (.region [⟨some 31, none, .bin .add (.t 17) (.c (.int .i64 1))⟩,
    ⟨some 17, none, .mov (.t 31)⟩]
    [1, 2, 15, 16, 17]))))
def RC.slices_EqualFunc_api_Place_api_Place_api_Place_api_Place : RFn := ⟨3, [.slot 6],
  (.seq (.region [⟨some 6, none, .mov (.c (.bool false))⟩]
    [0, 1, 2])
  (.seq (.seq (.region [⟨some 10, none, .mov (.t 0)⟩,
    ⟨some 11, none, .len (.t 10)⟩,
    ⟨some 12, none, .mov (.t 1)⟩,
    ⟨some 13, none, .len (.t 12)⟩,
    ⟨some 14, none, .bin .neq (.t 11) (.t 13)⟩]
    [0, 1, 2, 14])
  (.cond (.t 14)
    (.seq (.region [⟨some 6, none, .mov (.c (.bool false))⟩]
      [6])
    .ret)
    .skip))
  (.seq (.seq (.region [⟨some 15, none, .mov (.t 0)⟩,
    ⟨some 16, none, .len (.t 15)⟩,
    ⟨some 17, none, .mov (.c (.int .i64 0))⟩]
    [1, 2, 15, 16, 17])
  (.block 0
    (.loop [1, 2, 15, 16, 17] RB.slices_EqualFunc_api_Place_api_Place_api_Place_api_Place_1) []))
  (.seq (.region [⟨some 6, none, .mov (.c (.bool true))⟩]
    [6])
  .ret))))⟩

def RC.plan_SamePlace : RFn := ⟨2, [.slot 4],
  (.seq (.region [⟨some 2, none, .box (.t 0)⟩,
    ⟨some 3, none, .box (.t 1)⟩,
    ⟨some 4, none, .mov (.c (.bool false))⟩]
    [2, 3])
  (.seq (.region [⟨some 5, none, .fieldAddr 0 (.t 2)⟩,
    ⟨some 6, none, .load false 1 (.t 5)⟩,
    ⟨some 7, none, .fieldAddr 0 (.t 3)⟩,
    ⟨some 8, none, .load false 1 (.t 7)⟩,
    ⟨some 9, none, .bin .eql (.t 6) (.t 8)⟩,
    ⟨some 10, none, .mov (.t 9)⟩,
    ⟨some 11, some (10, true), .fieldAddr 1 (.t 2)⟩,
    ⟨some 12, some (10, true), .load false 1 (.t 11)⟩,
    ⟨some 13, some (10, true), .fieldAddr 1 (.t 3)⟩,
    ⟨some 14, some (10, true), .load false 1 (.t 13)⟩,
    ⟨some 15, some (10, true), .bin .eql (.t 12) (.t 14)⟩,
    ⟨some 16, none, .pick (.t 10) (.t 15) (.c (.bool false))⟩,
    ⟨some 17, none, .mov (.t 16)⟩,
    ⟨some 18, some (17, true), .fieldAddr 2 (.t 2)⟩,
    ⟨some 19, some (17, true), .load false 1 (.t 18)⟩,
    ⟨some 20, some (17, true), .fieldAddr 2 (.t 3)⟩,
    ⟨some 21, some (17, true), .load false 1 (.t 20)⟩,
    ⟨some 22, some (17, true), .bin .eql (.t 19) (.t 21)⟩,
    ⟨some 23, none, .pick (.t 17) (.t 22) (.c (.bool false))⟩,
    ⟨some 24, none, .mov (.t 23)⟩,
    ⟨some 25, some (24, true), .fieldAddr 3 (.t 2)⟩,
    ⟨some 26, some (24, true), .load false 1 (.t 25)⟩,
    ⟨some 27, some (24, true), .fieldAddr 3 (.t 3)⟩,
    ⟨some 28, some (24, true), .load false 1 (.t 27)⟩,
    ⟨some 29, some (24, true), .call F.slices_Equal_api_Piece_api_Piece [.t 26, .t 28]⟩,
    ⟨some 30, none, .pick (.t 24) (.t 29) (.c (.bool false))⟩,
    ⟨some 4, none, .mov (.t 30)⟩]
    [4])
  .ret))⟩

def RC.order_Kind : RFn := ⟨1, [.slot 2, .slot 3, .slot 4],
  (.seq (.region [⟨some 2, none, .mov (.c (.int .i64 0))⟩,
    ⟨some 3, none, .mov (.c (.bool false))⟩,
    ⟨some 4, none, .mov (.c (.bool false))⟩]
    [0])
  (.seq (.block 0
    (.seq (.region [⟨some 6, none, .mov (.t 0)⟩,
      ⟨some 7, none, .bin .geq (.t 6) (.c (.int .i64 1))⟩,
      ⟨some 8, none, .mov (.t 7)⟩,
      ⟨some 9, some (8, true), .mov (.t 0)⟩,
      ⟨some 10, some (8, true), .bin .leq (.t 9) (.c (.int .i64 200))⟩,
      ⟨some 11, none, .pick (.t 8) (.t 10) (.c (.bool false))⟩,
      ⟨some 5, none, .mov (.t 11)⟩]
      [0, 5])
    (.cond (.t 5)
      (.seq (.region [⟨some 12, none, .mov (.t 0)⟩,
        ⟨some 2, none, .mov (.t 12)⟩,
        ⟨some 3, none, .mov (.c (.bool false))⟩,
        ⟨some 4, none, .mov (.c (.bool true))⟩]
        [2, 3, 4])
      .ret)
      (.seq (.region [⟨some 14, none, .mov (.t 0)⟩,
        ⟨some 15, none, .bin .gtr (.t 14) (.c (.int .i64 1000))⟩,
        ⟨some 16, none, .mov (.t 15)⟩,
        ⟨some 17, some (16, true), .mov (.t 0)⟩,
        ⟨some 18, some (16, true), .bin .leq (.t 17) (.c (.int .i64 1040))⟩,
        ⟨some 19, none, .pick (.t 16) (.t 18) (.c (.bool false))⟩,
        ⟨some 13, none, .mov (.t 19)⟩]
        [0, 13])
      (.cond (.t 13)
        (.seq (.region [⟨some 20, none, .mov (.t 0)⟩,
          ⟨some 21, none, .bin .sub (.t 20) (.c (.int .i64 1000))⟩,
          ⟨some 2, none, .mov (.t 21)⟩,
          ⟨some 3, none, .mov (.c (.bool true))⟩,
          ⟨some 4, none, .mov (.c (.bool true))⟩]
          [2, 3, 4])
        .ret)
        .skip)))) [])
  (.seq (.region [⟨some 2, none, .mov (.c (.int .i64 0))⟩,
    ⟨some 3, none, .mov (.c (.bool false))⟩,
    ⟨some 4, none, .mov (.c (.bool false))⟩]
    [2, 3, 4])
  .ret)))⟩

def RC.plan_split : RFn := ⟨1, [.slot 2],
  (.seq (.region [⟨some 1, none, .box (.t 0)⟩,
    ⟨some 2, none, .mov (.c (.bool false))⟩]
    [1])
  (.seq (.region [⟨some 3, none, .fieldAddr 3 (.t 1)⟩,
    ⟨some 4, none, .load false 1 (.t 3)⟩,
    ⟨some 5, none, .len (.t 4)⟩,
    ⟨some 6, none, .bin .gtr (.t 5) (.c (.int .i64 0))⟩,
    ⟨some 2, none, .mov (.t 6)⟩]
    [2])
  .ret))⟩

def RB.plan_pieces_1 : RCode :=
  (.seq (.region [⟨some 12, none, .bin .lss (.t 11) (.t 10)⟩]
    [2, 3, 5, 9, 10, 11, 12])
  (.seq (.cond (.t 12)
    .skip
    (.exit 0))
  (.seq (.block 1
    (.seq (.region [⟨some 13, none, .mov (.t 11)⟩,
      ⟨some 14, none, .idxS 2 (.t 9) (.t 11)⟩,
      ⟨some 15, none, .load true 2 (.t 14)⟩,
      ⟨some 7, none, .alloc [(.int .i64 0), (u64 0#64)]⟩,
      ⟨some 6, none, .mov (.t 13)⟩,
      ⟨none, none, .store 2 (.t 7) (.t 15)⟩]
      [2, 3, 5, 6, 7, 9, 10, 11])
    (.seq (.seq (.drawn [⟨some 16, none, .load true 3 (.t 2)⟩,
      ⟨some 17, none, .fieldAddr 0 (.t 7)⟩,
      ⟨some 18, none, .load false 1 (.t 17)⟩,
      ⟨some 19, none, .call F.plan_has [.t 16, .t 18]⟩,
      ⟨some 20, none, .un .not (.t 19)⟩,
      ⟨some 21, none, .mov (.t 20)⟩,
      ⟨some 22, some (21, false), .mov (.t 6)⟩,
      ⟨some 23, some (21, false), .bin .gtr (.t 22) (.c (.int .i64 0))⟩,
      ⟨some 24, some (21, false), .mov (.t 23)⟩,
      ⟨some 25, some (24, true), .fieldAddr 0 (.t 7)⟩,
      ⟨some 26, some (24, true), .load false 1 (.t 25)⟩,
      ⟨some 27, some (24, true), .fieldAddr 3 (.t 3)⟩,
      ⟨some 28, some (24, true), .load false 1 (.t 27)⟩,
      ⟨some 29, some (24, true), .mov (.t 6)⟩,
      ⟨some 30, some (24, true), .bin .sub (.t 29) (.c (.int .i64 1))⟩,
      ⟨some 31, some (24, true), .idxS 2 (.t 28) (.t 30)⟩,
      ⟨some 32, some (24, true), .fieldAddr 0 (.t 31)⟩,
      ⟨some 33, some (24, true), .load false 1 (.t 32)⟩,
      ⟨some 34, some (24, true), .bin .leq (.t 26) (.t 33)⟩,
      ⟨some 35, some (21, false), .pick (.t 24) (.t 34) (.c (.bool false))⟩,
      ⟨some 36, none, .pick (.t 21) (.c (.bool true)) (.t 35)⟩,
      ⟨some 37, none, .mov (.t 36)⟩,
      ⟨some 38, some (37, false), .fieldAddr 1 (.t 7)⟩,
      ⟨some 39, some (37, false), .load false 1 (.t 38)⟩,
      ⟨some 40, some (37, false), .bin .eql (.t 39) (.c (u64 0#64))⟩,
      ⟨some 41, none, .pick (.t 37) (.c (.bool true)) (.t 40)⟩,
      ⟨some 42, none, .mov (.t 41)⟩,
      ⟨some 43, some (42, false), .fieldAddr 1 (.t 7)⟩,
      ⟨some 44, some (42, false), .load false 1 (.t 43)⟩,
      ⟨some 45, some (42, false), .fieldAddr 0 (.t 2)⟩,
      ⟨some 46, some (42, false), .load false 1 (.t 45)⟩,
      ⟨some 47, some (42, false), .call F.mask_All [.t 46]⟩,
      ⟨some 48, some (42, false), .bin .andNot (.t 44) (.t 47)⟩,
      ⟨some 49, some (42, false), .bin .neq (.t 48) (.c (u64 0#64))⟩,
      ⟨some 50, none, .pick (.t 42) (.c (.bool true)) (.t 49)⟩,
      ⟨some 51, none, .mov (.t 50)⟩,
      ⟨some 52, some (51, false), .fieldAddr 1 (.t 7)⟩,
      ⟨some 53, some (51, false), .load false 1 (.t 52)⟩,
      ⟨some 54, some (51, false), .mov (.t 5)⟩,
      ⟨some 55, some (51, false), .bin .and (.t 53) (.t 54)⟩,
      ⟨some 56, some (51, false), .bin .neq (.t 55) (.c (u64 0#64))⟩,
      ⟨some 57, none, .pick (.t 51) (.c (.bool true)) (.t 56)⟩]
      [[], [], [1], [0, 2], [3], [4, 3], [5], [6, 5], [7, 5, 5], [8], [9, 8], [8], [11, 8], [8], [13, 8], [12, 14, 8], [15, 8], [16, 8], [10, 17, 8], [8, 18, 5], [5, 19], [20, 8], [21], [22, 21], [23, 21], [21, 24], [25, 21], [26], [27, 26], [26], [29, 26], [30, 26, 26], [28, 31, 26], [32, 26], [26, 33], [34, 31], [35], [36, 35], [35], [37, 38, 35], [39, 35], [35, 40]]
      [(1, []), (0, []), (2, []), (3, []), (4, []), (5, []), (6, []), (7, []), (8, []), (9, []), (11, []), (13, []), (14, []), (10, []), (12, []), (15, []), (16, []), (17, []), (18, []), (19, []), (20, []), (21, []), (22, []), (23, []), (24, []), (25, []), (26, []), (27, []), (29, []), (28, []), (30, []), (31, [43]), (32, []), (33, []), (34, []), (35, []), (36, []), (38, []), (37, []), (39, []), (40, []), (41, [])]
      [[], [], [1], [0, 1, 2], [0, 1, 2, 3], [0, 1, 2, 3, 4], [0, 1, 2, 3, 4, 5], [0, 1, 2, 3, 4, 5, 6], [0, 1, 2, 3, 4, 5, 6, 7], [0, 1, 2, 3, 4, 5, 6, 7, 8], [0, 1, 2, 3, 4, 5, 6, 7, 8, 9], [0, 1, 2, 3, 4, 5, 6, 7, 8], [0, 1, 2, 3, 4, 5, 6, 7, 8, 11], [0, 1, 2, 3, 4, 5, 6, 7, 8], [0, 1, 2, 3, 4, 5, 6, 7, 8, 13], [0, 1, 2, 3, 4, 5, 6, 7, 8, 11, 12, 13, 14], [0, 1, 2, 3, 4, 5, 6, 7, 8, 11, 12, 13, 14, 15], [0, 1, 2, 3, 4, 5, 6, 7, 8, 11, 12, 13, 14, 15, 16], [0, 1, 2, 3, 4, 5, 6, 7, 8, 9, 10, 11, 12, 13, 14, 15, 16, 17], [0, 1, 2, 3, 4, 5, 6, 7, 8, 9, 10, 11, 12, 13, 14, 15, 16, 17, 18], [0, 1, 2, 3, 4, 5, 6, 7, 8, 9, 10, 11, 12, 13, 14, 15, 16, 17, 18, 19], [0, 1, 2, 3, 4, 5, 6, 7, 8, 9, 10, 11, 12, 13, 14, 15, 16, 17, 18, 19, 20], [0, 1, 2, 3, 4, 5, 6, 7, 8, 9, 10, 11, 12, 13, 14, 15, 16, 17, 18, 19, 20, 21], [0, 1, 2, 3, 4, 5, 6, 7, 8, 9, 10, 11, 12, 13, 14, 15, 16, 17, 18, 19, 20, 21, 22], [0, 1, 2, 3, 4, 5, 6, 7, 8, 9, 10, 11, 12, 13, 14, 15, 16, 17, 18, 19, 20, 21, 22, 23], [0, 1, 2, 3, 4, 5, 6, 7, 8, 9, 10, 11, 12, 13, 14, 15, 16, 17, 18, 19, 20, 21, 22, 23, 24], [0, 1, 2, 3, 4, 5, 6, 7, 8, 9, 10, 11, 12, 13, 14, 15, 16, 17, 18, 19, 20, 21, 22, 23, 24, 25], [0, 1, 2, 3, 4, 5, 6, 7, 8, 9, 10, 11, 12, 13, 14, 15, 16, 17, 18, 19, 20, 21, 22, 23, 24, 25, 26], [0, 1, 2, 3, 4, 5, 6, 7, 8, 9, 10, 11, 12, 13, 14, 15, 16, 17, 18, 19, 20, 21, 22, 23, 24, 25, 26, 27], [0, 1, 2, 3, 4, 5, 6, 7, 8, 9, 10, 11, 12, 13, 14, 15, 16, 17, 18, 19, 20, 21, 22, 23, 24, 25, 26], [0, 1, 2, 3, 4, 5, 6, 7, 8, 9, 10, 11, 12, 13, 14, 15, 16, 17, 18, 19, 20, 21, 22, 23, 24, 25, 26, 29], [0, 1, 2, 3, 4, 5, 6, 7, 8, 9, 10, 11, 12, 13, 14, 15, 16, 17, 18, 19, 20, 21, 22, 23, 24, 25, 26, 29, 30], [0, 1, 2, 3, 4, 5, 6, 7, 8, 9, 10, 11, 12, 13, 14, 15, 16, 17, 18, 19, 20, 21, 22, 23, 24, 25, 26, 27, 28, 29, 30, 31], [0, 1, 2, 3, 4, 5, 6, 7, 8, 9, 10, 11, 12, 13, 14, 15, 16, 17, 18, 19, 20, 21, 22, 23, 24, 25, 26, 27, 28, 29, 30, 31, 32], [0, 1, 2, 3, 4, 5, 6, 7, 8, 9, 10, 11, 12, 13, 14, 15, 16, 17, 18, 19, 20, 21, 22, 23, 24, 25, 26, 27, 28, 29, 30, 31, 32, 33], [0, 1, 2, 3, 4, 5, 6, 7, 8, 9, 10, 11, 12, 13, 14, 15, 16, 17, 18, 19, 20, 21, 22, 23, 24, 25, 26, 27, 28, 29, 30, 31, 32, 33, 34], [0, 1, 2, 3, 4, 5, 6, 7, 8, 9, 10, 11, 12, 13, 14, 15, 16, 17, 18, 19, 20, 21, 22, 23, 24, 25, 26, 27, 28, 29, 30, 31, 32, 33, 34, 35], [0, 1, 2, 3, 4, 5, 6, 7, 8, 9, 10, 11, 12, 13, 14, 15, 16, 17, 18, 19, 20, 21, 22, 23, 24, 25, 26, 27, 28, 29, 30, 31, 32, 33, 34, 35, 36], [0, 1, 2, 3, 4, 5, 6, 7, 8, 9, 10, 11, 12, 13, 14, 15, 16, 17, 18, 19, 20, 21, 22, 23, 24, 25, 26, 27, 28, 29, 30, 31, 32, 33, 34, 35], [0, 1, 2, 3, 4, 5, 6, 7, 8, 9, 10, 11, 12, 13, 14, 15, 16, 17, 18, 19, 20, 21, 22, 23, 24, 25, 26, 27, 28, 29, 30, 31, 32, 33, 34, 35, 36, 37, 38], [0, 1, 2, 3, 4, 5, 6, 7, 8, 9, 10, 11, 12, 13, 14, 15, 16, 17, 18, 19, 20, 21, 22, 23, 24, 25, 26, 27, 28, 29, 30, 31, 32, 33, 34, 35, 36, 37, 38, 39], [0, 1, 2, 3, 4, 5, 6, 7, 8, 9, 10, 11, 12, 13, 14, 15, 16, 17, 18, 19, 20, 21, 22, 23, 24, 25, 26, 27, 28, 29, 30, 31, 32, 33, 34, 35, 36, 37, 38, 39, 40]]
      [2, 3, 5, 7, 9, 10, 11, 57])
    (.cond (.t 57)
      (.seq (.region [⟨some 4, none, .mov (.c (.bool false))⟩]
        [4])
      .ret)
      .skip))
    (.region [⟨some 58, none, .mov (.t 5)⟩,
      ⟨some 59, none, .fieldAddr 1 (.t 7)⟩,
      ⟨some 60, none, .load false 1 (.t 59)⟩,
      ⟨some 61, none, .bin .or (.t 58) (.t 60)⟩,
      ⟨some 5, none, .mov (.t 61)⟩]
      [2, 3, 5, 9, 10, 11]))) [2, 3, 5, 9, 10, 11])
  (.region [⟨some 62, none, .bin .add (.t 11) (.c (.int .i64 1))⟩,
    ⟨some 11, none, .mov (.t 62)⟩]
    [2, 3, 5, 9, 10, 11]))))
def RC.plan_pieces : RFn := ⟨2, [.slot 4],
  (.seq (.region [⟨some 2, none, .box (.t 0)⟩,
    ⟨some 3, none, .box (.t 1)⟩,
    ⟨some 4, none, .mov (.c (.bool false))⟩]
    [2, 3])
  (.seq (.region [⟨some 5, none, .mov (.c (u64 0#64))⟩]
    [2, 3, 5])
  (.seq (.seq (.region [⟨some 8, none, .fieldAddr 3 (.t 3)⟩,
    ⟨some 9, none, .load false 1 (.t 8)⟩,
    ⟨some 10, none, .len (.t 9)⟩,
    ⟨some 11, none, .mov (.c (.int .i64 0))⟩]
    [2, 3, 5, 9, 10, 11])
  (.block 0
    (.loop [2, 3, 5, 9, 10, 11] RB.plan_pieces_1) [3, 5]))
  (.seq (.drawn [⟨some 63, none, .fieldAddr 3 (.t 3)⟩,
    ⟨some 64, none, .load false 1 (.t 63)⟩,
    ⟨some 65, none, .len (.t 64)⟩,
    ⟨some 66, none, .bin .gtr (.t 65) (.c (.int .i64 1))⟩,
    ⟨some 67, none, .mov (.t 66)⟩,
    ⟨some 68, some (67, true), .fieldAddr 2 (.t 3)⟩,
    ⟨some 69, some (67, true), .load false 1 (.t 68)⟩,
    ⟨some 70, some (67, true), .bin .eql (.t 69) (.c (.int .i64 0))⟩,
    ⟨some 71, none, .pick (.t 67) (.t 70) (.c (.bool false))⟩,
    ⟨some 72, none, .mov (.t 71)⟩,
    ⟨some 73, some (72, true), .mov (.t 5)⟩,
    ⟨some 74, some (72, true), .call F.mask_Count [.t 73]⟩,
    ⟨some 75, some (72, true), .fieldAddr 1 (.t 3)⟩,
    ⟨some 76, some (72, true), .load false 1 (.t 75)⟩,
    ⟨some 77, some (72, true), .bin .eql (.t 74) (.t 76)⟩,
    ⟨some 78, none, .pick (.t 72) (.t 77) (.c (.bool false))⟩,
    ⟨some 4, none, .mov (.t 78)⟩]
    [[], [0], [1], [2], [3], [4], [5, 4], [6, 4], [4, 7], [8, 4], [9], [10, 9, 9], [9], [12, 9], [11, 13, 9], [9, 14], [15, 11, 0, 1, 2, 3, 4, 5, 6, 7, 8, 9, 10, 11, 12, 13, 14, 15]]
    [(0, []), (1, []), (2, []), (3, []), (4, []), (5, []), (6, []), (7, []), (8, []), (9, []), (10, []), (12, []), (13, []), (11, [75]), (14, []), (15, []), (16, [])]
    [[], [0], [0, 1], [0, 1, 2], [0, 1, 2, 3], [0, 1, 2, 3, 4], [0, 1, 2, 3, 4, 5], [0, 1, 2, 3, 4, 5, 6], [0, 1, 2, 3, 4, 5, 6, 7], [0, 1, 2, 3, 4, 5, 6, 7, 8], [0, 1, 2, 3, 4, 5, 6, 7, 8, 9], [0, 1, 2, 3, 4, 5, 6, 7, 8, 9, 10], [0, 1, 2, 3, 4, 5, 6, 7, 8, 9], [0, 1, 2, 3, 4, 5, 6, 7, 8, 9, 12], [0, 1, 2, 3, 4, 5, 6, 7, 8, 9, 10, 11, 12, 13], [0, 1, 2, 3, 4, 5, 6, 7, 8, 9, 10, 11, 12, 13, 14], [0, 1, 2, 3, 4, 5, 6, 7, 8, 9, 10, 11, 12, 13, 14, 15]]
    [4])
  .ret))))⟩

def RC.plan_has : RFn := ⟨2, [.slot 4],
  (.seq (.region [⟨some 2, none, .box (.t 0)⟩,
    ⟨some 4, none, .mov (.c (.bool false))⟩]
    [1, 2])
  (.seq (.region [⟨some 5, none, .mov (.t 1)⟩,
    ⟨some 6, none, .bin .geq (.t 5) (.c (.int .i64 0))⟩,
    ⟨some 7, none, .mov (.t 6)⟩,
    ⟨some 8, some (7, true), .mov (.t 1)⟩,
    ⟨some 9, some (7, true), .bin .lss (.t 8) (.c (.int .i64 16))⟩,
    ⟨some 10, none, .pick (.t 7) (.t 9) (.c (.bool false))⟩,
    ⟨some 11, none, .mov (.t 10)⟩,
    ⟨some 12, some (11, true), .fieldAddr 1 (.t 2)⟩,
    ⟨some 13, some (11, true), .load false 1 (.t 12)⟩,
    ⟨some 14, some (11, true), .mov (.t 1)⟩,
    ⟨some 15, some (11, true), .bin .shr (.t 13) (.t 14)⟩,
    ⟨some 16, some (11, true), .bin .and (.t 15) (.c (u32 1#32))⟩,
    ⟨some 17, some (11, true), .bin .eql (.t 16) (.c (u32 1#32))⟩,
    ⟨some 18, none, .pick (.t 11) (.t 17) (.c (.bool false))⟩,
    ⟨some 4, none, .mov (.t 18)⟩]
    [4])
  .ret))⟩

def RC.mask_Count : RFn := ⟨1, [.slot 2],
  (.seq (.region [⟨some 2, none, .mov (.c (.int .i64 0))⟩]
    [0])
  (.seq (.region [⟨some 3, none, .mov (.t 0)⟩,
    ⟨some 4, none, .call F.math_bits_OnesCount64 [.t 3]⟩,
    ⟨some 2, none, .mov (.t 4)⟩]
    [2])
  .ret))⟩

def RB.plan_Windows_1 : RCode :=
  (.seq (.region [⟨some 21, none, .bin .lss (.t 20) (.t 19)⟩]
    [1, 5, 11, 12, 13, 18, 19, 20, 21])
  (.seq (.cond (.t 21)
    .skip
    (.exit 2))
  (.seq (.block 3
    (.seq (.region [⟨some 22, none, .idxS 2 (.t 18) (.t 20)⟩,
      ⟨some 23, none, .load true 2 (.t 22)⟩,
      ⟨some 9, none, .alloc [(.int .i64 0), (u64 0#64)]⟩,
      ⟨none, none, .store 2 (.t 9) (.t 23)⟩]
      [1, 5, 9, 11, 12, 13, 18, 19, 20])
    (.seq (.region [⟨some 24, none, .fieldAddr 0 (.t 9)⟩,
      ⟨some 25, none, .load false 1 (.t 24)⟩,
      ⟨some 26, none, .mov (.t 1)⟩,
      ⟨some 27, none, .bin .eql (.t 25) (.t 26)⟩]
      [1, 5, 9, 11, 12, 13, 18, 19, 20, 27])
    (.cond (.t 27)
      (.region [⟨some 28, none, .mov (.t 5)⟩,
        ⟨some 29, none, .fieldAddr 1 (.t 9)⟩,
        ⟨some 30, none, .load false 1 (.t 29)⟩,
        ⟨some 31, none, .bin .or (.t 28) (.t 30)⟩,
        ⟨some 5, none, .mov (.t 31)⟩]
        [1, 5, 11, 12, 13, 18, 19, 20])
      .skip))) [1, 5, 11, 12, 13, 18, 19, 20])
  (.region [⟨some 32, none, .bin .add (.t 20) (.c (.int .i64 1))⟩,
    ⟨some 20, none, .mov (.t 32)⟩]
    [1, 5, 11, 12, 13, 18, 19, 20]))))
def RB.plan_Windows_2 : RCode :=
  (.seq (.region [⟨some 14, none, .bin .lss (.t 13) (.t 12)⟩]
    [1, 5, 11, 12, 13, 14])
  (.seq (.cond (.t 14)
    .skip
    (.exit 0))
  (.seq (.block 1
    (.seq (.region [⟨some 15, none, .idxS 4 (.t 11) (.t 13)⟩,
      ⟨some 16, none, .load true 4 (.t 15)⟩,
      ⟨some 7, none, .alloc [(.int .i64 0), (.int .i64 0), (.int .i64 0), (.slice none 0 0)]⟩,
      ⟨none, none, .store 4 (.t 7) (.t 16)⟩]
      [1, 5, 7, 11, 12, 13])
    (.seq (.region [⟨some 17, none, .fieldAddr 3 (.t 7)⟩,
      ⟨some 18, none, .load false 1 (.t 17)⟩,
      ⟨some 19, none, .len (.t 18)⟩,
      ⟨some 20, none, .mov (.c (.int .i64 0))⟩]
      [1, 5, 11, 12, 13, 18, 19, 20])
    (.block 2
      (.loop [1, 5, 11, 12, 13, 18, 19, 20] RB.plan_Windows_1) [1, 5, 11, 12, 13]))) [1, 5, 11, 12, 13])
  (.region [⟨some 33, none, .bin .add (.t 13) (.c (.int .i64 1))⟩,
    ⟨some 13, none, .mov (.t 33)⟩]
    [1, 5, 11, 12, 13]))))
def RC.plan_Windows : RFn := ⟨2, [.slot 4],
  (.seq (.region [⟨some 2, none, .box (.t 0)⟩,
    ⟨some 4, none, .mov (.c (u64 0#64))⟩]
    [1, 2])
  (.seq (.region [⟨some 5, none, .mov (.c (u64 0#64))⟩]
    [1, 2, 5])
  (.seq (.seq (.region [⟨some 10, none, .fieldAddr 2 (.t 2)⟩,
    ⟨some 11, none, .load false 1 (.t 10)⟩,
    ⟨some 12, none, .len (.t 11)⟩,
    ⟨some 13, none, .mov (.c (.int .i64 0))⟩]
    [1, 5, 11, 12, 13])
  (.block 0
    (.loop [1, 5, 11, 12, 13] RB.plan_Windows_2) [5]))
  (.seq (.region [⟨some 34, none, .mov (.t 5)⟩,
    ⟨some 4, none, .mov (.t 34)⟩]
    [4])
  .ret))))⟩

def RB.plan_Wholes_1 : RCode :=
  (.seq (.region [⟨some 12, none, .bin .lss (.t 11) (.t 10)⟩]
    [1, 5, 9, 10, 11, 12])
  (.seq (.cond (.t 12)
    .skip
    (.exit 0))
  (.seq (.block 1
    (.seq (.region [⟨some 13, none, .idxS 4 (.t 9) (.t 11)⟩,
      ⟨some 14, none, .load true 4 (.t 13)⟩,
      ⟨some 7, none, .alloc [(.int .i64 0), (.int .i64 0), (.int .i64 0), (.slice none 0 0)]⟩,
      ⟨none, none, .store 4 (.t 7) (.t 14)⟩]
      [1, 5, 7, 9, 10, 11])
    (.seq (.region [⟨some 15, none, .load true 4 (.t 7)⟩,
      ⟨some 16, none, .call F.plan_split [.t 15]⟩,
      ⟨some 17, none, .un .not (.t 16)⟩,
      ⟨some 18, none, .mov (.t 17)⟩,
      ⟨some 19, some (18, true), .fieldAddr 2 (.t 7)⟩,
      ⟨some 20, some (18, true), .load false 1 (.t 19)⟩,
      ⟨some 21, some (18, true), .mov (.t 1)⟩,
      ⟨some 22, some (18, true), .bin .eql (.t 20) (.t 21)⟩,
      ⟨some 23, none, .pick (.t 18) (.t 22) (.c (.bool false))⟩]
      [1, 5, 7, 9, 10, 11, 23])
    (.cond (.t 23)
      (.region [⟨some 24, none, .mov (.t 5)⟩,
        ⟨some 25, none, .fieldAddr 0 (.t 7)⟩,
        ⟨some 26, none, .load false 1 (.t 25)⟩,
        ⟨some 27, none, .fieldAddr 1 (.t 7)⟩,
        ⟨some 28, none, .load false 1 (.t 27)⟩,
        ⟨some 29, none, .build [(.int .i64 0), (.int .i64 0)] [(0, 1, .t 26), (1, 1, .t 28)]⟩,
        ⟨some 30, none, .bslice [(.int .i64 0), (.int .i64 0)] [(0, 2, .t 29)] 1 2⟩,
        ⟨some 31, none, .app 2 16 (.t 24) (.t 30)⟩,
        ⟨some 5, none, .mov (.t 31)⟩]
        [1, 5, 9, 10, 11])
      .skip))) [1, 5, 9, 10, 11])
  (.region [⟨some 32, none, .bin .add (.t 11) (.c (.int .i64 1))⟩,
    ⟨some 11, none, .mov (.t 32)⟩]
    [1, 5, 9, 10, 11]))))
def RC.plan_Wholes : RFn := ⟨2, [.slot 4],
  (.seq (.region [⟨some 2, none, .box (.t 0)⟩,
    ⟨some 4, none, .mov (.c (.slice none 0 0))⟩]
    [1, 2])
  (.seq (.region [⟨some 5, none, .mov (.c (.slice none 0 0))⟩]
    [1, 2, 5])
  (.seq (.seq (.region [⟨some 8, none, .fieldAddr 2 (.t 2)⟩,
    ⟨some 9, none, .load false 1 (.t 8)⟩,
    ⟨some 10, none, .len (.t 9)⟩,
    ⟨some 11, none, .mov (.c (.int .i64 0))⟩]
    [1, 5, 9, 10, 11])
  (.block 0
    (.loop [1, 5, 9, 10, 11] RB.plan_Wholes_1) [5]))
  (.seq (.region [⟨some 33, none, .mov (.t 5)⟩,
    ⟨some 4, none, .mov (.t 33)⟩]
    [4])
  .ret))))⟩

def RB.diff_places_1 : RCode :=
  (.seq (.region [⟨some 11, none, .bin .lss (.t 10) (.t 9)⟩]
    [3, 8, 9, 10, 11])
  (.seq (.cond (.t 11)
    .skip
    (.exit 0))
  (.seq (.block 1
    (.seq (.region [⟨some 12, none, .idxS 4 (.t 8) (.t 10)⟩,
      ⟨some 13, none, .load true 4 (.t 12)⟩,
      ⟨some 5, none, .alloc [(.int .i64 0), (.int .i64 0), (.int .i64 0), (.slice none 0 0)]⟩,
      ⟨none, none, .store 4 (.t 5) (.t 13)⟩]
      [3, 5, 8, 9, 10])
    (.region [⟨some 14, none, .mov (.t 3)⟩,
      ⟨some 15, none, .fieldAddr 0 (.t 5)⟩,
      ⟨some 16, none, .load false 1 (.t 15)⟩,
      ⟨some 17, none, .load true 4 (.t 5)⟩,
      ⟨none, none, .upd .int (.t 14) (.t 16) (.t 17)⟩]
      [3, 8, 9, 10])) [3, 8, 9, 10])
  (.region [⟨some 18, none, .bin .add (.t 10) (.c (.int .i64 1))⟩,
    ⟨some 10, none, .mov (.t 18)⟩]
    [3, 8, 9, 10]))))
def RC.diff_places : RFn := ⟨1, [.slot 2],
  (.seq (.region [⟨some 1, none, .box (.t 0)⟩,
    ⟨some 2, none, .mov (.c (.map none))⟩]
    [1])
  (.seq (.region [⟨some 6, none, .mkmap⟩,
    ⟨some 3, none, .mov (.t 6)⟩]
    [1, 3])
  (.seq (.seq (.region [⟨some 7, none, .fieldAddr 2 (.t 1)⟩,
    ⟨some 8, none, .load false 1 (.t 7)⟩,
    ⟨some 9, none, .len (.t 8)⟩,
    ⟨some 10, none, .mov (.c (.int .i64 0))⟩]
    [3, 8, 9, 10])
  (.block 0
    (.loop [3, 8, 9, 10] RB.diff_places_1) [3]))
  (.seq (.region [⟨some 19, none, .mov (.t 3)⟩,
    ⟨some 2, none, .mov (.t 19)⟩]
    [2])
  .ret))))⟩

def RC.maps_Keys_map_int_api_Place_int_api_Place : RFn := ⟨1, [.slot 2],
  (.seq (.region [⟨some 1, none, .box (.t 0)⟩,
    ⟨some 2, none, .mov (.c .nilFunc)⟩]
    [1])
  (.seq (.region [⟨some 3, none, .mkfn (.func F.maps_Keys_map_int_api_Place_int_api_Place_1) [] [.t 1]⟩,
    ⟨some 2, none, .mov (.t 3)⟩]
    [2])
  .ret))⟩

def RB.slices_DeleteFunc_int_int_1 : RCode :=
  (.seq (.seq (.region [⟨some 16, none, .mov (.t 6)⟩,
    ⟨some 17, none, .mov (.t 0)⟩,
    ⟨some 18, none, .len (.t 17)⟩,
    ⟨some 19, none, .bin .lss (.t 16) (.t 18)⟩]
    [0, 1, 5, 6, 19])
  (.cond (.t 19)
    .skip
    (.exit 0)))
  (.seq (.block 1
    (.seq (.region [⟨some 22, none, .mov (.t 0)⟩,
      ⟨some 23, none, .mov (.t 6)⟩,
      ⟨some 24, none, .idxS 1 (.t 22) (.t 23)⟩,
      ⟨some 25, none, .load false 1 (.t 24)⟩,
      ⟨some 7, none, .mov (.t 25)⟩]
      [0, 1, 5, 6, 7])
    (.seq (.region [⟨some 26, none, .mov (.t 1)⟩,
      ⟨some 27, none, .mov (.t 7)⟩,
      ⟨some 28, none, .callv (.t 26) [.t 27]⟩,
      ⟨some 29, none, .un .not (.t 28)⟩]
      [0, 1, 5, 6, 7, 29])
    (.cond (.t 29)
      (.seq (.region [⟨some 30, none, .mov (.t 0)⟩,
        ⟨some 31, none, .mov (.t 5)⟩,
        ⟨some 32, none, .mov (.t 7)⟩,
        ⟨some 33, none, .idxS 1 (.t 30) (.t 31)⟩,
        ⟨none, none, .store 1 (.t 33) (.t 32)⟩]
        [0, 1, 5, 6])
      (.region [⟨some 34, none, .mov (.t 5)⟩,
        ⟨some 35, none, .bin .add (.t 34) (.c (.int .i64 1))⟩,
        ⟨some 5, none, .mov (.t 35)⟩]
        [0, 1, 5, 6]))
      .skip))) [0, 1, 5, 6])
  (.region [⟨some 20, none, .mov (.t 6)⟩,
    ⟨some 21, none, .bin .add (.t 20) (.c (.int .i64 1))⟩,
    ⟨some 6, none, .mov (.t 21)⟩]
    [0, 1, 5, 6])))
def RC.slices_DeleteFunc_int_int : RFn := ⟨2, [.slot 4],
  (.seq (.region [⟨some 4, none, .mov (.c (.slice none 0 0))⟩]
    [0, 1])
  (.seq (.region [⟨some 8, none, .mov (.t 0)⟩,
    ⟨some 9, none, .mov (.t 1)⟩,
    ⟨some 10, none, .call F.slices_IndexFunc_int_int [.t 8, .t 9]⟩,
    ⟨some 5, none, .mov (.t 10)⟩]
    [0, 1, 5])
  (.seq (.seq (.region [⟨some 11, none, .mov (.t 5)⟩,
    ⟨some 12, none, .bin .eql (.t 11) (.c (.int .i64 (-1)))⟩]
    [0, 1, 5, 12])
  (.cond (.t 12)
    (.seq (.region [⟨some 13, none, .mov (.t 0)⟩,
      ⟨some 4, none, .mov (.t 13)⟩]
      [4])
    .ret)
    .skip))
  (.seq (.seq (.region [⟨some 14, none, .mov (.t 5)⟩,
    ⟨some 15, none, .bin .add (.t 14) (.c (.int .i64 1))⟩,
    ⟨some 6, none, .mov (.t 15)⟩]
    [0, 1, 5, 6])
  (.block 0
    (.loop [0, 1, 5, 6] RB.slices_DeleteFunc_int_int_1) [0, 5]))
  (.seq (.region [⟨some 36, none, .mov (.t 0)⟩,
    ⟨some 37, none, .mov (.t 5)⟩,
    ⟨some 38, none, .sub 1 (.t 36) (some (.t 37)) none none⟩,
    ⟨none, none, .clr 1 [(.int .i64 0)] (.t 38)⟩]
    [0, 5])
  (.seq (.region [⟨some 39, none, .mov (.t 0)⟩,
    ⟨some 40, none, .mov (.t 5)⟩,
    ⟨some 41, none, .sub 1 (.t 39) none (some (.t 40)) none⟩,
    ⟨some 4, none, .mov (.t 41)⟩]
    [4])
  .ret))))))⟩

def RB.slices_Compact_int_int_1 : RCode :=
  (.seq (.seq (.region [⟨some 29, none, .mov (.t 5)⟩,
    ⟨some 30, none, .mov (.t 4)⟩,
    ⟨some 31, none, .len (.t 30)⟩,
    ⟨some 32, none, .bin .lss (.t 29) (.t 31)⟩]
    [0, 3, 4, 5, 32])
  (.cond (.t 32)
    .skip
    (.exit 2)))
  (.seq (.block 3
    (.seq (.drawn [⟨some 35, none, .mov (.t 4)⟩,
      ⟨some 36, none, .mov (.t 5)⟩,
      ⟨some 37, none, .idxS 1 (.t 35) (.t 36)⟩,
      ⟨some 38, none, .load false 1 (.t 37)⟩,
      ⟨some 39, none, .mov (.t 4)⟩,
      ⟨some 40, none, .mov (.t 5)⟩,
      ⟨some 41, none, .bin .sub (.t 40) (.c (.int .i64 1))⟩,
      ⟨some 42, none, .idxS 1 (.t 39) (.t 41)⟩,
      ⟨some 43, none, .load false 1 (.t 42)⟩,
      ⟨some 44, none, .bin .neq (.t 38) (.t 43)⟩]
      [[], [], [0, 1], [2], [], [], [5], [4, 6], [7], [3, 8]]
      [(0, []), (1, []), (2, []), (4, []), (5, []), (6, []), (7, []), (3, []), (8, []), (9, [])]
      [[], [], [0, 1], [0, 1, 2], [], [], [5], [4, 5, 6], [4, 5, 6, 7], [0, 1, 2, 3, 4, 5, 6, 7, 8]]
      [0, 3, 4, 5, 44])
    (.cond (.t 44)
      (.seq (.region [⟨some 45, none, .mov (.t 0)⟩,
        ⟨some 46, none, .mov (.t 3)⟩,
        ⟨some 47, none, .mov (.t 4)⟩,
        ⟨some 48, none, .mov (.t 5)⟩,
        ⟨some 49, none, .idxS 1 (.t 47) (.t 48)⟩,
        ⟨some 50, none, .load false 1 (.t 49)⟩,
        ⟨some 51, none, .idxS 1 (.t 45) (.t 46)⟩,
        ⟨none, none, .store 1 (.t 51) (.t 50)⟩]
        [0, 3, 4, 5])
      (.region [⟨some 52, none, .mov (.t 3)⟩,
        ⟨some 53, none, .bin .add (.t 52) (.c (.int .i64 1))⟩,
        ⟨some 3, none, .mov (.t 53)⟩]
        [0, 3, 4, 5]))
      .skip)) [0, 3, 4, 5])
  (.region [⟨some 33, none, .mov (.t 5)⟩,
    ⟨some 34, none, .bin .add (.t 33) (.c (.int .i64 1))⟩,
    ⟨some 5, none, .mov (.t 34)⟩]
    [0, 3, 4, 5])))
def RB.slices_Compact_int_int_2 : RCode :=
  (.seq (.seq (.region [⟨some 10, none, .mov (.t 3)⟩,
    ⟨some 11, none, .mov (.t 0)⟩,
    ⟨some 12, none, .len (.t 11)⟩,
    ⟨some 13, none, .bin .lss (.t 10) (.t 12)⟩]
    [0, 3, 13])
  (.cond (.t 13)
    .skip
    (.exit 0)))
  (.seq (.block 1
    (.seq (.drawn [⟨some 16, none, .mov (.t 0)⟩,
      ⟨some 17, none, .mov (.t 3)⟩,
      ⟨some 18, none, .idxS 1 (.t 16) (.t 17)⟩,
      ⟨some 19, none, .load false 1 (.t 18)⟩,
      ⟨some 20, none, .mov (.t 0)⟩,
      ⟨some 21, none, .mov (.t 3)⟩,
      ⟨some 22, none, .bin .sub (.t 21) (.c (.int .i64 1))⟩,
      ⟨some 23, none, .idxS 1 (.t 20) (.t 22)⟩,
      ⟨some 24, none, .load false 1 (.t 23)⟩,
      ⟨some 25, none, .bin .eql (.t 19) (.t 24)⟩]
      [[], [], [0, 1], [2], [], [], [5], [4, 6], [7], [3, 8]]
      [(0, []), (1, []), (2, []), (4, []), (5, []), (6, []), (7, []), (3, []), (8, []), (9, [])]
      [[], [], [0, 1], [0, 1, 2], [], [], [5], [4, 5, 6], [4, 5, 6, 7], [0, 1, 2, 3, 4, 5, 6, 7, 8]]
      [0, 3, 25])
    (.cond (.t 25)
      (.seq (.region [⟨some 26, none, .mov (.t 0)⟩,
        ⟨some 27, none, .mov (.t 3)⟩,
        ⟨some 28, none, .sub 1 (.t 26) (some (.t 27)) none none⟩,
        ⟨some 4, none, .mov (.t 28)⟩]
        [0, 3, 4])
      (.seq (.seq (.region [⟨some 5, none, .mov (.c (.int .i64 1))⟩]
        [0, 3, 4, 5])
      (.block 2
        (.loop [0, 3, 4, 5] RB.slices_Compact_int_int_1) [0, 3]))
      (.seq (.region [⟨some 54, none, .mov (.t 0)⟩,
        ⟨some 55, none, .mov (.t 3)⟩,
        ⟨some 56, none, .sub 1 (.t 54) (some (.t 55)) none none⟩,
        ⟨none, none, .clr 1 [(.int .i64 0)] (.t 56)⟩]
        [0, 3])
      (.seq (.region [⟨some 57, none, .mov (.t 0)⟩,
        ⟨some 58, none, .mov (.t 3)⟩,
        ⟨some 59, none, .sub 1 (.t 57) none (some (.t 58)) none⟩,
        ⟨some 2, none, .mov (.t 59)⟩]
        [2])
      .ret))))
      .skip)) [0, 3])
  (.region [⟨some 14, none, .mov (.t 3)⟩,
    ⟨some 15, none, .bin .add (.t 14) (.c (.int .i64 1))⟩,
    ⟨some 3, none, .mov (.t 15)⟩]
    [0, 3])))
def RC.slices_Compact_int_int : RFn := ⟨1, [.slot 2],
  (.seq (.region [⟨some 2, none, .mov (.c (.slice none 0 0))⟩]
    [0])
  (.seq (.seq (.region [⟨some 6, none, .mov (.t 0)⟩,
    ⟨some 7, none, .len (.t 6)⟩,
    ⟨some 8, none, .bin .lss (.t 7) (.c (.int .i64 2))⟩]
    [0, 8])
  (.cond (.t 8)
    (.seq (.region [⟨some 9, none, .mov (.t 0)⟩,
      ⟨some 2, none, .mov (.t 9)⟩]
      [2])
    .ret)
    .skip))
  (.seq (.seq (.region [⟨some 3, none, .mov (.c (.int .i64 1))⟩]
    [0, 3])
  (.block 0
    (.loop [0, 3] RB.slices_Compact_int_int_2) [0]))
  (.seq (.region [⟨some 60, none, .mov (.t 0)⟩,
    ⟨some 2, none, .mov (.t 60)⟩]
    [2])
  .ret))))⟩

def RC.diff_some_1 : RFn := ⟨4, [.slot 5],
  (.seq (.region [⟨some 5, none, .mov (.c (.bool false))⟩]
    [0, 1, 2, 3])
  (.seq (.region [⟨some 11, none, .load false 1 (.t 1)⟩,
    ⟨some 12, none, .mov (.t 0)⟩,
    ⟨some 13, none, .look .int (.agg #[(.int .i64 0), (.int .i64 0), (.int .i64 0), (.slice none 0 0)]) true (.t 11) (.t 12)⟩,
    ⟨some 10, none, .mov (.t 13)⟩,
    ⟨some 14, none, .ext 0 (.t 10)⟩,
    ⟨some 15, none, .ext 1 (.t 10)⟩,
    ⟨some 6, none, .alloc [(.int .i64 0), (.int .i64 0), (.int .i64 0), (.slice none 0 0)]⟩,
    ⟨none, none, .store 4 (.t 6) (.t 14)⟩,
    ⟨some 7, none, .mov (.t 15)⟩]
    [0, 2, 3, 6, 7])
  (.seq (.region [⟨some 17, none, .load false 1 (.t 2)⟩,
    ⟨some 18, none, .mov (.t 0)⟩,
    ⟨some 19, none, .look .int (.agg #[(.int .i64 0), (.int .i64 0), (.int .i64 0), (.slice none 0 0)]) true (.t 17) (.t 18)⟩,
    ⟨some 16, none, .mov (.t 19)⟩,
    ⟨some 20, none, .ext 0 (.t 16)⟩,
    ⟨some 21, none, .ext 1 (.t 16)⟩,
    ⟨some 8, none, .alloc [(.int .i64 0), (.int .i64 0), (.int .i64 0), (.slice none 0 0)]⟩,
    ⟨none, none, .store 4 (.t 8) (.t 20)⟩,
    ⟨some 9, none, .mov (.t 21)⟩]
    [3, 6, 7, 8, 9])
  (.seq (.region [⟨some 22, none, .load false 1 (.t 3)⟩,
    ⟨some 23, none, .load true 4 (.t 6)⟩,
    ⟨some 24, none, .load true 4 (.t 8)⟩,
    ⟨some 25, none, .mov (.t 7)⟩,
    ⟨some 26, none, .mov (.t 9)⟩,
    ⟨some 27, none, .callv (.t 22) [.t 23, .t 24, .t 25, .t 26]⟩,
    ⟨some 28, none, .un .not (.t 27)⟩,
    ⟨some 5, none, .mov (.t 28)⟩]
    [5])
  .ret))))⟩

def RB.slices_Equal_api_Piece_api_Piece_1 : RCode :=
  (.seq (.region [⟨some 14, none, .bin .lss (.t 13) (.t 12)⟩]
    [0, 1, 12, 13, 14])
  (.seq (.cond (.t 14)
    .skip
    (.exit 0))
  (.seq (.block 1
    (.seq (.region [⟨some 15, none, .mov (.t 13)⟩,
      ⟨some 5, none, .mov (.t 15)⟩]
      [0, 1, 5, 12, 13])
    (.seq (.drawn [⟨some 16, none, .mov (.t 0)⟩,
      ⟨some 17, none, .mov (.t 5)⟩,
      ⟨some 18, none, .idxS 2 (.t 16) (.t 17)⟩,
      ⟨some 19, none, .load true 2 (.t 18)⟩,
      ⟨some 20, none, .mov (.t 1)⟩,
      ⟨some 21, none, .mov (.t 5)⟩,
      ⟨some 22, none, .idxS 2 (.t 20) (.t 21)⟩,
      ⟨some 23, none, .load true 2 (.t 22)⟩,
      ⟨some 24, none, .eq true (.flat [.int, .int]) (.t 19) (.t 23)⟩]
      [[], [], [0, 1], [2], [], [], [4, 5], [6], [3, 7]]
      [(0, []), (1, []), (2, []), (4, []), (5, []), (6, []), (3, []), (7, []), (8, [])]
      [[], [], [0, 1], [0, 1, 2], [], [], [4, 5], [4, 5, 6], [0, 1, 2, 3, 4, 5, 6, 7]]
      [0, 1, 12, 13, 24])
    (.cond (.t 24)
      (.seq (.region [⟨some 4, none, .mov (.c (.bool false))⟩]
        [4])
      .ret)
      .skip))) [0, 1, 12, 13])
  (.region [⟨some 25, none, .bin .add (.t 13) (.c (.int .i64 1))⟩,
    ⟨some 13, none, .mov (.t 25)⟩]
    [0, 1, 12, 13]))))
def RC.slices_Equal_api_Piece_api_Piece : RFn := ⟨2, [.slot 4],
  (.seq (.region [⟨some 4, none, .mov (.c (.bool false))⟩]
    [0, 1])
  (.seq (.seq (.region [⟨some 6, none, .mov (.t 0)⟩,
    ⟨some 7, none, .len (.t 6)⟩,
    ⟨some 8, none, .mov (.t 1)⟩,
    ⟨some 9, none, .len (.t 8)⟩,
    ⟨some 10, none, .bin .neq (.t 7) (.t 9)⟩]
    [0, 1, 10])
  (.cond (.t 10)
    (.seq (.region [⟨some 4, none, .mov (.c (.bool false))⟩]
      [4])
    .ret)
    .skip))
  (.seq (.seq (.region [⟨some 11, none, .mov (.t 0)⟩,
    ⟨some 12, none, .len (.t 11)⟩,
    ⟨some 13, none, .mov (.c (.int .i64 0))⟩]
    [0, 1, 12, 13])
  (.block 0
    (.loop [0, 1, 12, 13] RB.slices_Equal_api_Piece_api_Piece_1) []))
  (.seq (.region [⟨some 4, none, .mov (.c (.bool true))⟩]
    [4])
  .ret))))⟩

def RB.slices_BinarySearchFunc_api_Place_api_Place_int_1 : RCode :=
  (.seq (.seq (.region [⟨some 15, none, .mov (.t 9)⟩,
    ⟨some 16, none, .mov (.t 10)⟩,
    ⟨some 17, none, .bin .lss (.t 15) (.t 16)⟩]
    [0, 1, 2, 8, 9, 10, 17])
  (.cond (.t 17)
    .skip
    (.exit 0)))
  (.block 1
    (.seq (.region [⟨some 18, none, .mov (.t 9)⟩,
      ⟨some 19, none, .mov (.t 10)⟩,
      ⟨some 20, none, .bin .add (.t 18) (.t 19)⟩,
      ⟨some 21, none, .conv .u64 (.t 20)⟩,
      ⟨some 22, none, .bin .shr (.t 21) (.c (u64 1#64))⟩,
      ⟨some 23, none, .conv .i64 (.t 22)⟩,
      ⟨some 11, none, .mov (.t 23)⟩]
      [0, 1, 2, 8, 9, 10, 11])
    (.seq (.region [⟨some 24, none, .mov (.t 2)⟩,
      ⟨some 25, none, .mov (.t 0)⟩,
      ⟨some 26, none, .mov (.t 11)⟩,
      ⟨some 27, none, .idxS 4 (.t 25) (.t 26)⟩,
      ⟨some 28, none, .load true 4 (.t 27)⟩,
      ⟨some 29, none, .mov (.t 1)⟩,
      ⟨some 30, none, .callv (.t 24) [.t 28, .t 29]⟩,
      ⟨some 31, none, .bin .lss (.t 30) (.c (.int .i64 0))⟩]
      [0, 1, 2, 8, 9, 10, 11, 31])
    (.cond (.t 31)
      (.region [⟨some 32, none, .mov (.t 11)⟩,
        ⟨some 33, none, .bin .add (.t 32) (.c (.int .i64 1))⟩,
        ⟨some 9, none, .mov (.t 33)⟩]
        [0, 1, 2, 8, 9, 10])
      (.region [⟨some 34, none, .mov (.t 11)⟩,
        ⟨some 10, none, .mov (.t 34)⟩]
        [0, 1, 2, 8, 9, 10])))) [0, 1, 2, 8, 9, 10]))
def RC.slices_BinarySearchFunc_api_Place_api_Place_int : RFn := ⟨3, [.slot 6, .slot 7],
  (.seq (.region [⟨some 6, none, .mov (.c (.int .i64 0))⟩,
    ⟨some 7, none, .mov (.c (.bool false))⟩]
    [0, 1, 2])
  (.seq (.region [⟨some 12, none, .mov (.t 0)⟩,
    ⟨some 13, none, .len (.t 12)⟩,
    ⟨some 8, none, .mov (.t 13)⟩]
    [0, 1, 2, 8])
  (.seq (.region [⟨some 14, none, .mov (.t 8)⟩,
    ⟨some 9, none, .mov (.c (.int .i64 0))⟩,
    ⟨some 10, none, .mov (.t 14)⟩]
    [0, 1, 2, 8, 9, 10])
  (.seq (.block 0
    (.loop [0, 1, 2, 8, 9, 10] RB.slices_BinarySearchFunc_api_Place_api_Place_int_1) [0, 1, 2, 8, 9])
  (.seq (.region [⟨some 35, none, .mov (.t 9)⟩,
    ⟨some 36, none, .mov (.t 9)⟩,
    ⟨some 37, none, .mov (.t 8)⟩,
    ⟨some 38, none, .bin .lss (.t 36) (.t 37)⟩,
    ⟨some 39, none, .mov (.t 38)⟩,
    ⟨some 40, some (39, true), .mov (.t 2)⟩,
    ⟨some 41, some (39, true), .mov (.t 0)⟩,
    ⟨some 42, some (39, true), .mov (.t 9)⟩,
    ⟨some 43, some (39, true), .idxS 4 (.t 41) (.t 42)⟩,
    ⟨some 44, some (39, true), .load true 4 (.t 43)⟩,
    ⟨some 45, some (39, true), .mov (.t 1)⟩,
    ⟨some 46, some (39, true), .callv (.t 40) [.t 44, .t 45]⟩,
    ⟨some 47, some (39, true), .bin .eql (.t 46) (.c (.int .i64 0))⟩,
    ⟨some 48, none, .pick (.t 39) (.t 47) (.c (.bool false))⟩,
    ⟨some 6, none, .mov (.t 35)⟩,
    ⟨some 7, none, .mov (.t 48)⟩]
    [6, 7])
  .ret)))))⟩

def RC.plan_find_1 : RFn := ⟨2, [.slot 4],
  (.seq (.region [⟨some 2, none, .box (.t 0)⟩,
    ⟨some 4, none, .mov (.c (.int .i64 0))⟩]
    [1, 2])
  (.seq (.region [⟨some 5, none, .fieldAddr 0 (.t 2)⟩,
    ⟨some 6, none, .load false 1 (.t 5)⟩,
    ⟨some 7, none, .mov (.t 1)⟩,
    ⟨some 8, none, .call F.cmp_Compare_int [.t 6, .t 7]⟩,
    ⟨some 4, none, .mov (.t 8)⟩]
    [4])
  .ret))⟩

def RC.cmp_Compare_int : RFn := ⟨2, [.slot 4],
  (.seq (.region [⟨some 4, none, .mov (.c (.int .i64 0))⟩]
    [0, 1])
  (.seq (.region [⟨some 7, none, .mov (.t 0)⟩,
    ⟨some 8, none, .call F.cmp_isNaN_int [.t 7]⟩,
    ⟨some 5, none, .mov (.t 8)⟩]
    [0, 1, 5])
  (.seq (.region [⟨some 9, none, .mov (.t 1)⟩,
    ⟨some 10, none, .call F.cmp_isNaN_int [.t 9]⟩,
    ⟨some 6, none, .mov (.t 10)⟩]
    [0, 1, 5, 6])
  (.seq (.seq (.region [⟨some 11, none, .mov (.t 5)⟩]
    [0, 1, 6, 11])
  (.cond (.t 11)
    (.seq (.seq (.region [⟨some 12, none, .mov (.t 6)⟩]
      [12])
    (.cond (.t 12)
      (.seq (.region [⟨some 4, none, .mov (.c (.int .i64 0))⟩]
        [4])
      .ret)
      .skip))
    (.seq (.region [⟨some 4, none, .mov (.c (.int .i64 (-1)))⟩]
      [4])
    .ret))
    .skip))
  (.seq (.seq (.region [⟨some 13, none, .mov (.t 6)⟩]
    [0, 1, 13])
  (.cond (.t 13)
    (.seq (.region [⟨some 4, none, .mov (.c (.int .i64 1))⟩]
      [4])
    .ret)
    .skip))
  (.seq (.seq (.region [⟨some 14, none, .mov (.t 0)⟩,
    ⟨some 15, none, .mov (.t 1)⟩,
    ⟨some 16, none, .bin .lss (.t 14) (.t 15)⟩]
    [0, 1, 16])
  (.cond (.t 16)
    (.seq (.region [⟨some 4, none, .mov (.c (.int .i64 (-1)))⟩]
      [4])
    .ret)
    .skip))
  (.seq (.seq (.region [⟨some 17, none, .mov (.t 0)⟩,
    ⟨some 18, none, .mov (.t 1)⟩,
    ⟨some 19, none, .bin .gtr (.t 17) (.t 18)⟩]
    [19])
  (.cond (.t 19)
    (.seq (.region [⟨some 4, none, .mov (.c (.int .i64 1))⟩]
      [4])
    .ret)
    .skip))
  (.seq (.region [⟨some 4, none, .mov (.c (.int .i64 0))⟩]
    [4])
  .ret))))))))⟩

def RC.mask_All : RFn := ⟨1, [.slot 2],
  (.seq (.region [⟨some 2, none, .mov (.c (u64 0#64))⟩]
    [0])
  (.seq (.region [⟨some 3, none, .mov (.t 0)⟩,
    ⟨some 4, none, .call F.mask_frame [.t 3]⟩,
    ⟨some 0, none, .mov (.t 4)⟩]
    [0])
  (.seq (.seq (.region [⟨some 5, none, .mov (.t 0)⟩,
    ⟨some 6, none, .bin .eql (.t 5) (.c (.int .i64 64))⟩]
    [0, 6])
  (.cond (.t 6)
    (.seq (.region [⟨some 2, none, .mov (.c (u64 18446744073709551615#64))⟩]
      [2])
    .ret)
    .skip))
  (.seq (.region [⟨some 7, none, .mov (.t 0)⟩,
    ⟨some 8, none, .bin .shl (.c (u64 1#64)) (.t 7)⟩,
    ⟨some 9, none, .bin .sub (.t 8) (.c (u64 1#64))⟩,
    ⟨some 2, none, .mov (.t 9)⟩]
    [2])
  .ret))))⟩

def RC.math_bits_OnesCount64 : RFn := ⟨1, [.slot 2],
  (.seq (.region [⟨some 2, none, .mov (.c (.int .i64 0))⟩]
    [0])
  (.seq (.region [⟨some 3, none, .mov (.t 0)⟩,
    ⟨some 4, none, .bin .shr (.t 3) (.c (u64 1#64))⟩,
    ⟨some 5, none, .bin .and (.t 4) (.c (u64 6148914691236517205#64))⟩,
    ⟨some 6, none, .mov (.t 0)⟩,
    ⟨some 7, none, .bin .and (.t 6) (.c (u64 6148914691236517205#64))⟩,
    ⟨some 8, none, .bin .add (.t 5) (.t 7)⟩,
    ⟨some 0, none, .mov (.t 8)⟩]
    [0])
  (.seq (.region [⟨some 9, none, .mov (.t 0)⟩,
    ⟨some 10, none, .bin .shr (.t 9) (.c (u64 2#64))⟩,
    ⟨some 11, none, .bin .and (.t 10) (.c (u64 3689348814741910323#64))⟩,
    ⟨some 12, none, .mov (.t 0)⟩,
    ⟨some 13, none, .bin .and (.t 12) (.c (u64 3689348814741910323#64))⟩,
    ⟨some 14, none, .bin .add (.t 11) (.t 13)⟩,
    ⟨some 0, none, .mov (.t 14)⟩]
    [0])
  (.seq (.region [⟨some 15, none, .mov (.t 0)⟩,
    ⟨some 16, none, .bin .shr (.t 15) (.c (u64 4#64))⟩,
    ⟨some 17, none, .mov (.t 0)⟩,
    ⟨some 18, none, .bin .add (.t 16) (.t 17)⟩,
    ⟨some 19, none, .bin .and (.t 18) (.c (u64 1085102592571150095#64))⟩,
    ⟨some 0, none, .mov (.t 19)⟩]
    [0])
  (.seq (.region [⟨some 20, none, .mov (.t 0)⟩,
    ⟨some 21, none, .mov (.t 0)⟩,
    ⟨some 22, none, .bin .shr (.t 21) (.c (u64 8#64))⟩,
    ⟨some 23, none, .bin .add (.t 20) (.t 22)⟩,
    ⟨some 0, none, .mov (.t 23)⟩]
    [0])
  (.seq (.region [⟨some 24, none, .mov (.t 0)⟩,
    ⟨some 25, none, .mov (.t 0)⟩,
    ⟨some 26, none, .bin .shr (.t 25) (.c (u64 16#64))⟩,
    ⟨some 27, none, .bin .add (.t 24) (.t 26)⟩,
    ⟨some 0, none, .mov (.t 27)⟩]
    [0])
  (.seq (.region [⟨some 28, none, .mov (.t 0)⟩,
    ⟨some 29, none, .mov (.t 0)⟩,
    ⟨some 30, none, .bin .shr (.t 29) (.c (u64 32#64))⟩,
    ⟨some 31, none, .bin .add (.t 28) (.t 30)⟩,
    ⟨some 0, none, .mov (.t 31)⟩]
    [0])
  (.seq (.region [⟨some 32, none, .mov (.t 0)⟩,
    ⟨some 33, none, .conv .i64 (.t 32)⟩,
    ⟨some 34, none, .bin .and (.t 33) (.c (.int .i64 127))⟩,
    ⟨some 2, none, .mov (.t 34)⟩]
    [2])
  .ret))))))))⟩

def RB.maps_Keys_map_int_api_Place_int_api_Place_1_1 : RCode :=
  (.seq (.region [⟨some 6, none, .stop⟩,
    ⟨some 7, none, .ext 0 (.t 6)⟩]
    [0, 7])
  (.seq (.cond (.t 7)
    .skip
    (.exit 0))
  (.block 1
    (.seq (.region [⟨some 8, none, .stop⟩,
      ⟨some 9, none, .ext 0 (.t 8)⟩,
      ⟨some 3, none, .mov (.t 9)⟩]
      [0, 3])
    (.seq (.region [⟨some 10, none, .mov (.t 0)⟩,
      ⟨some 11, none, .mov (.t 3)⟩,
      ⟨some 12, none, .callv (.t 10) [.t 11]⟩,
      ⟨some 13, none, .un .not (.t 12)⟩]
      [0, 13])
    (.cond (.t 13)
      .ret
      .skip))) [0])))
def RC.maps_Keys_map_int_api_Place_int_api_Place_1 : RFn := ⟨2, [],
  (.seq (.region [⟨some 4, none, .load false 1 (.t 1)⟩,
    ⟨some 5, none, .stop⟩]
    [0])
  (.block 0
    (.loop [0] RB.maps_Keys_map_int_api_Place_int_api_Place_1_1) []))⟩

def RB.slices_IndexFunc_int_int_1 : RCode :=
  (.seq (.region [⟨some 9, none, .bin .lss (.t 8) (.t 7)⟩]
    [0, 1, 7, 8, 9])
  (.seq (.cond (.t 9)
    .skip
    (.exit 0))
  (.seq (.block 1
    (.seq (.region [⟨some 10, none, .mov (.t 8)⟩,
      ⟨some 5, none, .mov (.t 10)⟩]
      [0, 1, 5, 7, 8])
    (.seq (.region [⟨some 11, none, .mov (.t 1)⟩,
      ⟨some 12, none, .mov (.t 0)⟩,
      ⟨some 13, none, .mov (.t 5)⟩,
      ⟨some 14, none, .idxS 1 (.t 12) (.t 13)⟩,
      ⟨some 15, none, .load false 1 (.t 14)⟩,
      ⟨some 16, none, .callv (.t 11) [.t 15]⟩]
      [0, 1, 5, 7, 8, 16])
    (.cond (.t 16)
      (.seq (.region [⟨some 17, none, .mov (.t 5)⟩,
        ⟨some 4, none, .mov (.t 17)⟩]
        [4])
      .ret)
      .skip))) [0, 1, 7, 8])
  (.region [⟨some 18, none, .bin .add (.t 8) (.c (.int .i64 1))⟩,
    ⟨some 8, none, .mov (.t 18)⟩]
    [0, 1, 7, 8]))))
def RC.slices_IndexFunc_int_int : RFn := ⟨2, [.slot 4],
  (.seq (.region [⟨some 4, none, .mov (.c (.int .i64 0))⟩]
    [0, 1])
  (.seq (.seq (.region [⟨some 6, none, .mov (.t 0)⟩,
    ⟨some 7, none, .len (.t 6)⟩,
    ⟨some 8, none, .mov (.c (.int .i64 0))⟩]
    [0, 1, 7, 8])
  (.block 0
    (.loop [0, 1, 7, 8] RB.slices_IndexFunc_int_int_1) []))
  (.seq (.region [⟨some 4, none, .mov (.c (.int .i64 (-1)))⟩]
    [4])
  .ret)))⟩

def RC.cmp_isNaN_int : RFn := ⟨1, [.slot 2],
  (.seq (.region [⟨some 2, none, .mov (.c (.bool false))⟩]
    [0])
  (.seq (.region [⟨some 3, none, .mov (.t 0)⟩,
    ⟨some 4, none, .mov (.t 0)⟩,
    ⟨some 5, none, .bin .neq (.t 3) (.t 4)⟩,
    ⟨some 2, none, .mov (.t 5)⟩]
    [2])
  .ret))⟩

def RC.mask_frame : RFn := ⟨1, [.slot 2],
  (.seq (.region [⟨some 2, none, .mov (.c (.int .i64 0))⟩]
    [0])
  (.seq (.region [⟨some 3, none, .mov (.t 0)⟩,
    ⟨some 4, none, .minmax true [.t 3, .c (.int .i64 0)]⟩,
    ⟨some 5, none, .minmax false [.t 4, .c (.int .i64 64)]⟩,
    ⟨some 2, none, .mov (.t 5)⟩]
    [2])
  .ret))⟩

def tab0 : List (Nat × FEnt) := [(F.law26_StageLate, .rc RC.law26_StageLate),
  (F.law26_StageNobody, .rc RC.law26_StageNobody),
  (F.stage_New, .rc RC.stage_New),
  (F.stage_Stage_Staged, .rc RC.stage_Stage_Staged),
  (F.law16_Light, .rc RC.law16_Light),
  (F.stage_Stage_Active, .rc RC.stage_Stage_Active),
  (F.stage_Stage_Set, .rc RC.stage_Stage_Set),
  (F.ref16_Same, .rc RC.ref16_Same),
  (F.stage_Stage_Turn, .rc RC.stage_Stage_Turn),
  (F.law26_awake, .rc RC.law26_awake),
  (F.law26_one, .rc RC.law26_one),
  (F.stage_Stage_Cut, .rc RC.stage_Stage_Cut),
  (F.stage_Stage_Fresh, .rc RC.stage_Stage_Fresh),
  (F.stage_Stage_Turns, .rc RC.stage_Stage_Turns),
  (F.plan_Check, .rc RC.plan_Check),
  (F.stage_Stage_none, .rc RC.stage_Stage_none),
  (F.stage_own, .rc RC.stage_own),
  (F.ref16_SamePlace, .rc RC.ref16_SamePlace),
  (F.diff_Moved, .rc RC.diff_Moved),
  (F.plan_Find, .rc RC.plan_Find),
  (F.plan_Drop, .rc RC.plan_Drop),
  (F.plan_Same, .rc RC.plan_Same),
  (F.plan_place, .rc RC.plan_place),
  (F.plan_apart, .rc RC.plan_apart),
  (F.plan_Splits, .rc RC.plan_Splits),
  (F.plan_Cores, .rc RC.plan_Cores),
  (F.plan_left, .rc RC.plan_left),
  (F.diff_some, .rc RC.diff_some),
  (F.diff_Moved_1, .rc RC.diff_Moved_1),
  (F.diff_moved, .rc RC.diff_moved),
  (F.plan_find, .rc RC.plan_find),
  (F.slices_Clone_api_Piece_api_Piece, .rc RC.slices_Clone_api_Piece_api_Piece),
  (F.plan_clone, .rc RC.plan_clone),
  (F.slices_Delete_api_Place_api_Place, .rc RC.slices_Delete_api_Place_api_Place),
  (F.slices_EqualFunc_api_Place_api_Place_api_Place_api_Place, .rc RC.slices_EqualFunc_api_Place_api_Place_api_Place_api_Place),
  (F.plan_SamePlace, .rc RC.plan_SamePlace),
  (F.order_Kind, .rc RC.order_Kind),
  (F.plan_split, .rc RC.plan_split),
  (F.plan_pieces, .rc RC.plan_pieces),
  (F.plan_has, .rc RC.plan_has),
  (F.mask_Count, .rc RC.mask_Count),
  (F.plan_Windows, .rc RC.plan_Windows),
  (F.plan_Wholes, .rc RC.plan_Wholes),
  (F.diff_places, .rc RC.diff_places),
  (F.maps_Keys_map_int_api_Place_int_api_Place, .rc RC.maps_Keys_map_int_api_Place_int_api_Place),
  (F.slices_DeleteFunc_int_int, .rc RC.slices_DeleteFunc_int_int),
  (F.slices_Compact_int_int, .rc RC.slices_Compact_int_int),
  (F.diff_some_1, .rc RC.diff_some_1),
  (F.slices_Equal_api_Piece_api_Piece, .rc RC.slices_Equal_api_Piece_api_Piece),
  (F.slices_BinarySearchFunc_api_Place_api_Place_int, .rc RC.slices_BinarySearchFunc_api_Place_api_Place_int),
  (F.plan_find_1, .rc RC.plan_find_1),
  (F.cmp_Compare_int, .rc RC.cmp_Compare_int),
  (F.mask_All, .rc RC.mask_All),
  (F.math_bits_OnesCount64, .rc RC.math_bits_OnesCount64),
  (F.maps_Keys_map_int_api_Place_int_api_Place_1, .rc RC.maps_Keys_map_int_api_Place_int_api_Place_1),
  (F.slices_IndexFunc_int_int, .rc RC.slices_IndexFunc_int_int),
  (F.cmp_isNaN_int, .rc RC.cmp_isNaN_int),
  (F.mask_frame, .rc RC.mask_frame),
  (F.slices_Sorted_int, .ext X.sk),
  (F.slices_Sort_int_int, .ext X.so)]
/-- What each number stands for. -/
def R0 : Nat → Option FEnt := lookF tab0
/-- The same, with the examples as known. -/
def tab : List (Nat × FEnt) := (F.law26_awake, .ext X.ok) :: tab0
def R : Nat → Option FEnt := lookF tab
theorem R.law26_awake : R F.law26_awake = some (.ext X.ok) := by with_unfolding_all rfl
theorem R.law26_StageLate : R F.law26_StageLate = some (.rc RC.law26_StageLate) := by with_unfolding_all rfl
theorem R.law26_StageNobody : R F.law26_StageNobody = some (.rc RC.law26_StageNobody) := by with_unfolding_all rfl
theorem R.stage_New : R F.stage_New = some (.rc RC.stage_New) := by with_unfolding_all rfl
theorem R.stage_Stage_Staged : R F.stage_Stage_Staged = some (.rc RC.stage_Stage_Staged) := by with_unfolding_all rfl
theorem R.law16_Light : R F.law16_Light = some (.rc RC.law16_Light) := by with_unfolding_all rfl
theorem R.stage_Stage_Active : R F.stage_Stage_Active = some (.rc RC.stage_Stage_Active) := by with_unfolding_all rfl
theorem R.stage_Stage_Set : R F.stage_Stage_Set = some (.rc RC.stage_Stage_Set) := by with_unfolding_all rfl
theorem R.ref16_Same : R F.ref16_Same = some (.rc RC.ref16_Same) := by with_unfolding_all rfl
theorem R.stage_Stage_Turn : R F.stage_Stage_Turn = some (.rc RC.stage_Stage_Turn) := by with_unfolding_all rfl
theorem R.law26_one : R F.law26_one = some (.rc RC.law26_one) := by with_unfolding_all rfl
theorem R.stage_Stage_Cut : R F.stage_Stage_Cut = some (.rc RC.stage_Stage_Cut) := by with_unfolding_all rfl
theorem R.stage_Stage_Fresh : R F.stage_Stage_Fresh = some (.rc RC.stage_Stage_Fresh) := by with_unfolding_all rfl
theorem R.stage_Stage_Turns : R F.stage_Stage_Turns = some (.rc RC.stage_Stage_Turns) := by with_unfolding_all rfl
theorem R.plan_Check : R F.plan_Check = some (.rc RC.plan_Check) := by with_unfolding_all rfl
theorem R.stage_Stage_none : R F.stage_Stage_none = some (.rc RC.stage_Stage_none) := by with_unfolding_all rfl
theorem R.stage_own : R F.stage_own = some (.rc RC.stage_own) := by with_unfolding_all rfl
theorem R.ref16_SamePlace : R F.ref16_SamePlace = some (.rc RC.ref16_SamePlace) := by with_unfolding_all rfl
theorem R.diff_Moved : R F.diff_Moved = some (.rc RC.diff_Moved) := by with_unfolding_all rfl
theorem R.plan_Find : R F.plan_Find = some (.rc RC.plan_Find) := by with_unfolding_all rfl
theorem R.plan_Drop : R F.plan_Drop = some (.rc RC.plan_Drop) := by with_unfolding_all rfl
theorem R.plan_Same : R F.plan_Same = some (.rc RC.plan_Same) := by with_unfolding_all rfl
theorem R.plan_place : R F.plan_place = some (.rc RC.plan_place) := by with_unfolding_all rfl
theorem R.plan_apart : R F.plan_apart = some (.rc RC.plan_apart) := by with_unfolding_all rfl
theorem R.plan_Splits : R F.plan_Splits = some (.rc RC.plan_Splits) := by with_unfolding_all rfl
theorem R.plan_Cores : R F.plan_Cores = some (.rc RC.plan_Cores) := by with_unfolding_all rfl
theorem R.plan_left : R F.plan_left = some (.rc RC.plan_left) := by with_unfolding_all rfl
theorem R.diff_some : R F.diff_some = some (.rc RC.diff_some) := by with_unfolding_all rfl
theorem R.diff_Moved_1 : R F.diff_Moved_1 = some (.rc RC.diff_Moved_1) := by with_unfolding_all rfl
theorem R.diff_moved : R F.diff_moved = some (.rc RC.diff_moved) := by with_unfolding_all rfl
theorem R.plan_find : R F.plan_find = some (.rc RC.plan_find) := by with_unfolding_all rfl
theorem R.slices_Clone_api_Piece_api_Piece : R F.slices_Clone_api_Piece_api_Piece = some (.rc RC.slices_Clone_api_Piece_api_Piece) := by with_unfolding_all rfl
theorem R.plan_clone : R F.plan_clone = some (.rc RC.plan_clone) := by with_unfolding_all rfl
theorem R.slices_Delete_api_Place_api_Place : R F.slices_Delete_api_Place_api_Place = some (.rc RC.slices_Delete_api_Place_api_Place) := by with_unfolding_all rfl
theorem R.slices_EqualFunc_api_Place_api_Place_api_Place_api_Place : R F.slices_EqualFunc_api_Place_api_Place_api_Place_api_Place = some (.rc RC.slices_EqualFunc_api_Place_api_Place_api_Place_api_Place) := by with_unfolding_all rfl
theorem R.plan_SamePlace : R F.plan_SamePlace = some (.rc RC.plan_SamePlace) := by with_unfolding_all rfl
theorem R.order_Kind : R F.order_Kind = some (.rc RC.order_Kind) := by with_unfolding_all rfl
theorem R.plan_split : R F.plan_split = some (.rc RC.plan_split) := by with_unfolding_all rfl
theorem R.plan_pieces : R F.plan_pieces = some (.rc RC.plan_pieces) := by with_unfolding_all rfl
theorem R.plan_has : R F.plan_has = some (.rc RC.plan_has) := by with_unfolding_all rfl
theorem R.mask_Count : R F.mask_Count = some (.rc RC.mask_Count) := by with_unfolding_all rfl
theorem R.plan_Windows : R F.plan_Windows = some (.rc RC.plan_Windows) := by with_unfolding_all rfl
theorem R.plan_Wholes : R F.plan_Wholes = some (.rc RC.plan_Wholes) := by with_unfolding_all rfl
theorem R.diff_places : R F.diff_places = some (.rc RC.diff_places) := by with_unfolding_all rfl
theorem R.maps_Keys_map_int_api_Place_int_api_Place : R F.maps_Keys_map_int_api_Place_int_api_Place = some (.rc RC.maps_Keys_map_int_api_Place_int_api_Place) := by with_unfolding_all rfl
theorem R.slices_DeleteFunc_int_int : R F.slices_DeleteFunc_int_int = some (.rc RC.slices_DeleteFunc_int_int) := by with_unfolding_all rfl
theorem R.slices_Compact_int_int : R F.slices_Compact_int_int = some (.rc RC.slices_Compact_int_int) := by with_unfolding_all rfl
theorem R.diff_some_1 : R F.diff_some_1 = some (.rc RC.diff_some_1) := by with_unfolding_all rfl
theorem R.slices_Equal_api_Piece_api_Piece : R F.slices_Equal_api_Piece_api_Piece = some (.rc RC.slices_Equal_api_Piece_api_Piece) := by with_unfolding_all rfl
theorem R.slices_BinarySearchFunc_api_Place_api_Place_int : R F.slices_BinarySearchFunc_api_Place_api_Place_int = some (.rc RC.slices_BinarySearchFunc_api_Place_api_Place_int) := by with_unfolding_all rfl
theorem R.plan_find_1 : R F.plan_find_1 = some (.rc RC.plan_find_1) := by with_unfolding_all rfl
theorem R.cmp_Compare_int : R F.cmp_Compare_int = some (.rc RC.cmp_Compare_int) := by with_unfolding_all rfl
theorem R.mask_All : R F.mask_All = some (.rc RC.mask_All) := by with_unfolding_all rfl
theorem R.math_bits_OnesCount64 : R F.math_bits_OnesCount64 = some (.rc RC.math_bits_OnesCount64) := by with_unfolding_all rfl
theorem R.maps_Keys_map_int_api_Place_int_api_Place_1 : R F.maps_Keys_map_int_api_Place_int_api_Place_1 = some (.rc RC.maps_Keys_map_int_api_Place_int_api_Place_1) := by with_unfolding_all rfl
theorem R.slices_IndexFunc_int_int : R F.slices_IndexFunc_int_int = some (.rc RC.slices_IndexFunc_int_int) := by with_unfolding_all rfl
theorem R.cmp_isNaN_int : R F.cmp_isNaN_int = some (.rc RC.cmp_isNaN_int) := by with_unfolding_all rfl
theorem R.mask_frame : R F.mask_frame = some (.rc RC.mask_frame) := by with_unfolding_all rfl
theorem R.slices_Sorted_int : R F.slices_Sorted_int = some (.ext X.sk) := by with_unfolding_all rfl
theorem R.slices_Sort_int_int : R F.slices_Sort_int_int = some (.ext X.so) := by with_unfolding_all rfl
end Go.Am


/- slices.Sorted of a map's keys, at this program: the kit's contracts laid in plain words (laykeys.py); what stands for the call. -/
namespace Go.Proofs
open Go.Shelf
def Try.keys60_ren : Go.Shelf.Ren := ⟨fun | 10 => 60 | n => n, fun | 33 => 42 | 23 => 79 | 0 => 0 | 4 => 4 | 26 => 3 | 3 => 48 | n => n, fun | n => n⟩
theorem Try.keys60 : Go.Proofs.SlLaysZI.n10 Try.prog Try.keys60_ren := {
  mixed := by kernel_rfl,
  f10 := ⟨Try.f60.name, by decide, Try.func60.trans (congrArg some (by kernel_rfl))⟩,
  t0 := Try.underlying0,
  a0 := Try.isAgg0,
  z0 := Try.sizeOf0,
  v0 := Try.zeroValue0,
  t4 := Try.underlying4,
  a4 := Try.isAgg4,
  z4 := Try.sizeOf4,
  v4 := Try.zeroValue4,
  t23 := Try.underlying79,
  a23 := Try.isAgg79,
  z23 := Try.sizeOf79,
  v23 := Try.zeroValue79,
  t26 := Try.underlying3,
  a26 := Try.isAgg3,
  z26 := Try.sizeOf3,
  v26 := Try.zeroValue3,
  t33 := Try.underlying42,
  a33 := Try.isAgg42,
  z33 := Try.sizeOf42,
  v33 := Try.zeroValue42 }
def Try.sorted_ren : Go.Shelf.Ren := ⟨fun | 6 => 47 | 8 => 59 | 9 => 49 | 11 => 66 | 13 => 62 | 12 => 61 | 23 => 76 | 24 => 77 | 14 => 67 | 15 => 68 | 16 => 69 | 17 => 70 | 18 => 71 | 19 => 72 | 20 => 73 | 21 => 74 | 22 => 75 | 25 => 78 | 26 => 79 | 27 => 80 | 28 => 81 | 29 => 82 | 30 => 64 | 31 => 83 | n => n, fun | 26 => 3 | 28 => 83 | 24 => 35 | 0 => 0 | 3 => 3 | 37 => 54 | 48 => 27 | 50 => 59 | 4 => 4 | 40 => 100 | 39 => 99 | 45 => 64 | 5 => 5 | 9 => 9 | 51 => 107 | 55 => 111 | 57 => 113 | 58 => 114 | 33 => 42 | n => n, fun | n => n⟩
theorem Try.sorted : Go.Proofs.SlLaysZI.n6 Try.prog Try.sorted_ren := {
  mixed := by kernel_rfl,
  f6 := ⟨Try.f47.name, by decide, Try.func47.trans (congrArg some (by kernel_rfl))⟩,
  f8 := ⟨Try.f59.name, by decide, Try.func59.trans (congrArg some (by kernel_rfl))⟩,
  f11 := ⟨Try.f66.name, by decide, Try.func66.trans (congrArg some (by kernel_rfl))⟩,
  t0 := Try.underlying0,
  a0 := Try.isAgg0,
  z0 := Try.sizeOf0,
  v0 := Try.zeroValue0,
  t24 := Try.underlying35,
  a24 := Try.isAgg35,
  z24 := Try.sizeOf35,
  v24 := Try.zeroValue35,
  t26 := Try.underlying3,
  a26 := Try.isAgg3,
  z26 := Try.sizeOf3,
  v26 := Try.zeroValue3,
  t28 := Try.underlying83,
  a28 := Try.isAgg83,
  z28 := Try.sizeOf83,
  v28 := Try.zeroValue83,
  i26 := by kernel_rfl }
def Try.sort_ren : Go.Shelf.Ren := ⟨fun | 5 => 49 | 8 => 62 | 7 => 61 | 19 => 76 | 20 => 77 | 10 => 67 | 11 => 68 | 12 => 69 | 13 => 70 | 14 => 71 | 15 => 72 | 16 => 73 | 17 => 74 | 18 => 75 | 30 => 78 | 31 => 79 | 32 => 80 | 33 => 81 | 34 => 82 | 35 => 64 | 40 => 83 | n => n, fun | 23 => 35 | 25 => 3 | 3 => 3 | 32 => 54 | 22 => 35 | 0 => 0 | 44 => 27 | 46 => 59 | 4 => 4 | 36 => 100 | 35 => 99 | 41 => 64 | 5 => 5 | 9 => 9 | 53 => 107 | 57 => 111 | 63 => 113 | 64 => 114 | n => n, fun | n => n⟩
theorem Try.sort : Go.Proofs.SlLaysM.n5 Try.prog Try.sort_ren := {
  mixed := by kernel_rfl,
  f5 := ⟨Try.f49.name, by decide, Try.func49.trans (congrArg some (by kernel_rfl))⟩,
  f7 := ⟨Try.f61.name, by decide, Try.func61.trans (congrArg some (by kernel_rfl))⟩,
  f8 := Try.func62.trans (congrArg some (by kernel_rfl)),
  f10 := ⟨Try.f67.name, by decide, Try.func67.trans (congrArg some (by kernel_rfl))⟩,
  f11 := ⟨Try.f68.name, by decide, Try.func68.trans (congrArg some (by kernel_rfl))⟩,
  f12 := ⟨Try.f69.name, by decide, Try.func69.trans (congrArg some (by kernel_rfl))⟩,
  f13 := ⟨Try.f70.name, by decide, Try.func70.trans (congrArg some (by kernel_rfl))⟩,
  f14 := ⟨Try.f71.name, by decide, Try.func71.trans (congrArg some (by kernel_rfl))⟩,
  f15 := ⟨Try.f72.name, by decide, Try.func72.trans (congrArg some (by kernel_rfl))⟩,
  f16 := ⟨Try.f73.name, by decide, Try.func73.trans (congrArg some (by kernel_rfl))⟩,
  f17 := ⟨Try.f74.name, by decide, Try.func74.trans (congrArg some (by kernel_rfl))⟩,
  f18 := ⟨Try.f75.name, by decide, Try.func75.trans (congrArg some (by kernel_rfl))⟩,
  f19 := Try.func76.trans (congrArg some (by kernel_rfl)),
  f20 := Try.func77.trans (congrArg some (by kernel_rfl)),
  f30 := ⟨Try.f78.name, by decide, Try.func78.trans (congrArg some (by kernel_rfl))⟩,
  f31 := Try.func79.trans (congrArg some (by kernel_rfl)),
  f32 := Try.func80.trans (congrArg some (by kernel_rfl)),
  f33 := ⟨Try.f81.name, by decide, Try.func81.trans (congrArg some (by kernel_rfl))⟩,
  f34 := ⟨Try.f82.name, by decide, Try.func82.trans (congrArg some (by kernel_rfl))⟩,
  f35 := ⟨Try.f64.name, by decide, Try.func64.trans (congrArg some (by kernel_rfl))⟩,
  f40 := ⟨Try.f83.name, by decide, Try.func83.trans (congrArg some (by kernel_rfl))⟩,
  t0 := Try.underlying0,
  a0 := Try.isAgg0,
  z0 := Try.sizeOf0,
  v0 := Try.zeroValue0,
  t3 := Try.underlying3,
  a3 := Try.isAgg3,
  z3 := Try.sizeOf3,
  v3 := Try.zeroValue3,
  t4 := Try.underlying4,
  a4 := Try.isAgg4,
  z4 := Try.sizeOf4,
  v4 := Try.zeroValue4,
  t5 := Try.underlying5,
  a5 := Try.isAgg5,
  z5 := Try.sizeOf5,
  v5 := Try.zeroValue5,
  t9 := Try.underlying9,
  a9 := Try.isAgg9,
  z9 := Try.sizeOf9,
  v9 := Try.zeroValue9,
  t22 := Try.underlying35,
  a22 := Try.isAgg35,
  z22 := Try.sizeOf35,
  v22 := Try.zeroValue35,
  t23 := Try.underlying35,
  a23 := Try.isAgg35,
  z23 := Try.sizeOf35,
  v23 := Try.zeroValue35,
  t25 := Try.underlying3,
  a25 := Try.isAgg3,
  z25 := Try.sizeOf3,
  v25 := Try.zeroValue3,
  t32 := Try.underlying54,
  a32 := Try.isAgg54,
  z32 := Try.sizeOf54,
  v32 := Try.zeroValue54,
  t35 := Try.underlying99,
  a35 := Try.isAgg99,
  z35 := Try.sizeOf99,
  v35 := Try.zeroValue99,
  t36 := Try.underlying100,
  a36 := Try.isAgg100,
  z36 := Try.sizeOf100,
  v36 := Try.zeroValue100,
  t41 := Try.underlying64,
  a41 := Try.isAgg64,
  z41 := Try.sizeOf64,
  v41 := Try.zeroValue64,
  t44 := Try.underlying27,
  a44 := Try.isAgg27,
  z44 := Try.sizeOf27,
  v44 := Try.zeroValue27,
  t46 := Try.underlying59,
  a46 := Try.isAgg59,
  z46 := Try.sizeOf59,
  v46 := Try.zeroValue59,
  t53 := Try.underlying107,
  a53 := Try.isAgg107,
  z53 := Try.sizeOf107,
  v53 := Try.zeroValue107,
  t57 := Try.underlying111,
  a57 := Try.isAgg111,
  z57 := Try.sizeOf111,
  v57 := Try.zeroValue111,
  t63 := Try.underlying113,
  a63 := Try.isAgg113,
  z63 := Try.sizeOf113,
  v63 := Try.zeroValue113,
  t64 := Try.underlying114,
  a64 := Try.isAgg114,
  z64 := Try.sizeOf114,
  v64 := Try.zeroValue114 }
end Go.Proofs
namespace Go.Am
open Go.Proofs
theorem X.sk_sim {G : Nat → World → Prop} (args : List Value) (m : Mem) (v : Value) (m' : Mem) (h : X.sk args m = some (v, m')) : SimCall Try.prog G 47 args m v m' := by
  refine X.skeys_sim (ρs := Try.sorted_ren) (ρq := Try.sort_ren) Try.sorted Try.sort rfl (enters_of Try.func49 (by kernel_rfl) rfl) ?_ args m v m' h
  intro g hg
  simp only [List.mem_cons, List.not_mem_nil, or_false] at hg
  rcases hg with rfl
  · exact ⟨Try.keys60_ren, rfl, Try.keys60, rfl, enters_of Try.func60 (by kernel_rfl) rfl⟩
theorem X.so_sim {G : Nat → World → Prop} (args : List Value) (m : Mem) (v : Value) (m' : Mem) (h : X.so args m = some (v, m')) : SimCall Try.prog G 49 args m v m' := X.isort_sim (ρq := Try.sort_ren) Try.sort args m v m' h
end Go.Am


/- The table of the layer stage is as the program has it. Printed by lawgen.py. -/
namespace Go.Am
open Go.Proofs
set_option maxRecDepth 100000

/-- Nothing is asked of the world. -/
def G : Nat → World → Prop := fun _ _ => True
instance : Keeps G := ⟨fun _ _ _ _ h => h⟩
instance : Rises G := ⟨fun _ _ _ _ h => h⟩
theorem hmix : Try.prog.follows .mixedOrders = true := by kernel_rfl
theorem E.law26_StageLate : EntOk Try.prog G F.law26_StageLate (.rc RC.law26_StageLate) := ⟨Try.f3, by unfold F.law26_StageLate; exact Try.func3, by kernel_rfl, by kernel_rfl⟩
theorem E.law26_StageNobody : EntOk Try.prog G F.law26_StageNobody (.rc RC.law26_StageNobody) := ⟨Try.f4, by unfold F.law26_StageNobody; exact Try.func4, by kernel_rfl, by kernel_rfl⟩
theorem E.stage_New : EntOk Try.prog G F.stage_New (.rc RC.stage_New) := ⟨Try.f5, by unfold F.stage_New; exact Try.func5, by kernel_rfl, by kernel_rfl⟩
theorem E.stage_Stage_Staged : EntOk Try.prog G F.stage_Stage_Staged (.rc RC.stage_Stage_Staged) := ⟨Try.f6, by unfold F.stage_Stage_Staged; exact Try.func6, by kernel_rfl, by kernel_rfl⟩
theorem E.law16_Light : EntOk Try.prog G F.law16_Light (.rc RC.law16_Light) := ⟨Try.f7, by unfold F.law16_Light; exact Try.func7, by kernel_rfl, by kernel_rfl⟩
theorem E.stage_Stage_Active : EntOk Try.prog G F.stage_Stage_Active (.rc RC.stage_Stage_Active) := ⟨Try.f8, by unfold F.stage_Stage_Active; exact Try.func8, by kernel_rfl, by kernel_rfl⟩
theorem E.stage_Stage_Set : EntOk Try.prog G F.stage_Stage_Set (.rc RC.stage_Stage_Set) := ⟨Try.f9, by unfold F.stage_Stage_Set; exact Try.func9, by kernel_rfl, by kernel_rfl⟩
theorem E.ref16_Same : EntOk Try.prog G F.ref16_Same (.rc RC.ref16_Same) := ⟨Try.f10, by unfold F.ref16_Same; exact Try.func10, by kernel_rfl, by kernel_rfl⟩
theorem E.stage_Stage_Turn : EntOk Try.prog G F.stage_Stage_Turn (.rc RC.stage_Stage_Turn) := ⟨Try.f11, by unfold F.stage_Stage_Turn; exact Try.func11, by kernel_rfl, by kernel_rfl⟩
theorem E.law26_awake : EntOk Try.prog G F.law26_awake (.rc RC.law26_awake) := ⟨Try.f12, by unfold F.law26_awake; exact Try.func12, by kernel_rfl, by kernel_rfl⟩
theorem E.law26_one : EntOk Try.prog G F.law26_one (.rc RC.law26_one) := ⟨Try.f13, by unfold F.law26_one; exact Try.func13, by kernel_rfl, by kernel_rfl⟩
theorem E.stage_Stage_Cut : EntOk Try.prog G F.stage_Stage_Cut (.rc RC.stage_Stage_Cut) := ⟨Try.f14, by unfold F.stage_Stage_Cut; exact Try.func14, by kernel_rfl, by kernel_rfl⟩
theorem E.stage_Stage_Fresh : EntOk Try.prog G F.stage_Stage_Fresh (.rc RC.stage_Stage_Fresh) := ⟨Try.f15, by unfold F.stage_Stage_Fresh; exact Try.func15, by kernel_rfl, by kernel_rfl⟩
theorem E.stage_Stage_Turns : EntOk Try.prog G F.stage_Stage_Turns (.rc RC.stage_Stage_Turns) := ⟨Try.f16, by unfold F.stage_Stage_Turns; exact Try.func16, by kernel_rfl, by kernel_rfl⟩
theorem E.plan_Check : EntOk Try.prog G F.plan_Check (.rc RC.plan_Check) := ⟨Try.f17, by unfold F.plan_Check; exact Try.func17, by kernel_rfl, by kernel_rfl⟩
theorem E.stage_Stage_none : EntOk Try.prog G F.stage_Stage_none (.rc RC.stage_Stage_none) := ⟨Try.f18, by unfold F.stage_Stage_none; exact Try.func18, by kernel_rfl, by kernel_rfl⟩
theorem E.stage_own : EntOk Try.prog G F.stage_own (.rc RC.stage_own) := ⟨Try.f19, by unfold F.stage_own; exact Try.func19, by kernel_rfl, by kernel_rfl⟩
theorem E.ref16_SamePlace : EntOk Try.prog G F.ref16_SamePlace (.rc RC.ref16_SamePlace) := ⟨Try.f20, by unfold F.ref16_SamePlace; exact Try.func20, by kernel_rfl, by kernel_rfl⟩
theorem E.diff_Moved : EntOk Try.prog G F.diff_Moved (.rc RC.diff_Moved) := ⟨Try.f21, by unfold F.diff_Moved; exact Try.func21, by kernel_rfl, by kernel_rfl⟩
theorem E.plan_Find : EntOk Try.prog G F.plan_Find (.rc RC.plan_Find) := ⟨Try.f22, by unfold F.plan_Find; exact Try.func22, by kernel_rfl, by kernel_rfl⟩
theorem E.plan_Drop : EntOk Try.prog G F.plan_Drop (.rc RC.plan_Drop) := ⟨Try.f23, by unfold F.plan_Drop; exact Try.func23, by kernel_rfl, by kernel_rfl⟩
theorem E.plan_Same : EntOk Try.prog G F.plan_Same (.rc RC.plan_Same) := ⟨Try.f24, by unfold F.plan_Same; exact Try.func24, by kernel_rfl, by kernel_rfl⟩
theorem E.plan_place : EntOk Try.prog G F.plan_place (.rc RC.plan_place) := ⟨Try.f25, by unfold F.plan_place; exact Try.func25, by kernel_rfl, by kernel_rfl⟩
theorem E.plan_apart : EntOk Try.prog G F.plan_apart (.rc RC.plan_apart) := ⟨Try.f26, by unfold F.plan_apart; exact Try.func26, by kernel_rfl, by kernel_rfl⟩
theorem E.plan_Splits : EntOk Try.prog G F.plan_Splits (.rc RC.plan_Splits) := ⟨Try.f27, by unfold F.plan_Splits; exact Try.func27, by kernel_rfl, by kernel_rfl⟩
theorem E.plan_Cores : EntOk Try.prog G F.plan_Cores (.rc RC.plan_Cores) := ⟨Try.f28, by unfold F.plan_Cores; exact Try.func28, by kernel_rfl, by kernel_rfl⟩
theorem E.plan_left : EntOk Try.prog G F.plan_left (.rc RC.plan_left) := ⟨Try.f29, by unfold F.plan_left; exact Try.func29, by kernel_rfl, by kernel_rfl⟩
theorem E.diff_some : EntOk Try.prog G F.diff_some (.rc RC.diff_some) := ⟨Try.f30, by unfold F.diff_some; exact Try.func30, by kernel_rfl, by kernel_rfl⟩
theorem E.diff_Moved_1 : EntOk Try.prog G F.diff_Moved_1 (.rc RC.diff_Moved_1) := ⟨Try.f31, by unfold F.diff_Moved_1; exact Try.func31, by kernel_rfl, by kernel_rfl⟩
theorem E.diff_moved : EntOk Try.prog G F.diff_moved (.rc RC.diff_moved) := ⟨Try.f32, by unfold F.diff_moved; exact Try.func32, by kernel_rfl, by kernel_rfl⟩
theorem E.plan_find : EntOk Try.prog G F.plan_find (.rc RC.plan_find) := ⟨Try.f33, by unfold F.plan_find; exact Try.func33, by kernel_rfl, by kernel_rfl⟩
theorem E.slices_Clone_api_Piece_api_Piece : EntOk Try.prog G F.slices_Clone_api_Piece_api_Piece (.rc RC.slices_Clone_api_Piece_api_Piece) := ⟨Try.f34, by unfold F.slices_Clone_api_Piece_api_Piece; exact Try.func34, by kernel_rfl, by kernel_rfl⟩
theorem E.plan_clone : EntOk Try.prog G F.plan_clone (.rc RC.plan_clone) := ⟨Try.f35, by unfold F.plan_clone; exact Try.func35, by kernel_rfl, by kernel_rfl⟩
theorem E.slices_Delete_api_Place_api_Place : EntOk Try.prog G F.slices_Delete_api_Place_api_Place (.rc RC.slices_Delete_api_Place_api_Place) := ⟨Try.f36, by unfold F.slices_Delete_api_Place_api_Place; exact Try.func36, by kernel_rfl, by kernel_rfl⟩
theorem E.slices_EqualFunc_api_Place_api_Place_api_Place_api_Place : EntOk Try.prog G F.slices_EqualFunc_api_Place_api_Place_api_Place_api_Place (.rc RC.slices_EqualFunc_api_Place_api_Place_api_Place_api_Place) := ⟨Try.f37, by unfold F.slices_EqualFunc_api_Place_api_Place_api_Place_api_Place; exact Try.func37, by kernel_rfl, by kernel_rfl⟩
theorem E.plan_SamePlace : EntOk Try.prog G F.plan_SamePlace (.rc RC.plan_SamePlace) := ⟨Try.f38, by unfold F.plan_SamePlace; exact Try.func38, by kernel_rfl, by kernel_rfl⟩
theorem E.order_Kind : EntOk Try.prog G F.order_Kind (.rc RC.order_Kind) := ⟨Try.f39, by unfold F.order_Kind; exact Try.func39, by kernel_rfl, by kernel_rfl⟩
theorem E.plan_split : EntOk Try.prog G F.plan_split (.rc RC.plan_split) := ⟨Try.f40, by unfold F.plan_split; exact Try.func40, by kernel_rfl, by kernel_rfl⟩
theorem E.plan_pieces : EntOk Try.prog G F.plan_pieces (.rc RC.plan_pieces) := ⟨Try.f41, by unfold F.plan_pieces; exact Try.func41, by kernel_rfl, by kernel_rfl⟩
theorem E.plan_has : EntOk Try.prog G F.plan_has (.rc RC.plan_has) := ⟨Try.f42, by unfold F.plan_has; exact Try.func42, by kernel_rfl, by kernel_rfl⟩
theorem E.mask_Count : EntOk Try.prog G F.mask_Count (.rc RC.mask_Count) := ⟨Try.f43, by unfold F.mask_Count; exact Try.func43, by kernel_rfl, by kernel_rfl⟩
theorem E.plan_Windows : EntOk Try.prog G F.plan_Windows (.rc RC.plan_Windows) := ⟨Try.f44, by unfold F.plan_Windows; exact Try.func44, by kernel_rfl, by kernel_rfl⟩
theorem E.plan_Wholes : EntOk Try.prog G F.plan_Wholes (.rc RC.plan_Wholes) := ⟨Try.f45, by unfold F.plan_Wholes; exact Try.func45, by kernel_rfl, by kernel_rfl⟩
theorem E.diff_places : EntOk Try.prog G F.diff_places (.rc RC.diff_places) := ⟨Try.f46, by unfold F.diff_places; exact Try.func46, by kernel_rfl, by kernel_rfl⟩
theorem E.maps_Keys_map_int_api_Place_int_api_Place : EntOk Try.prog G F.maps_Keys_map_int_api_Place_int_api_Place (.rc RC.maps_Keys_map_int_api_Place_int_api_Place) := ⟨Try.f48, by unfold F.maps_Keys_map_int_api_Place_int_api_Place; exact Try.func48, by kernel_rfl, by kernel_rfl⟩
theorem E.slices_DeleteFunc_int_int : EntOk Try.prog G F.slices_DeleteFunc_int_int (.rc RC.slices_DeleteFunc_int_int) := ⟨Try.f50, by unfold F.slices_DeleteFunc_int_int; exact Try.func50, by kernel_rfl, by kernel_rfl⟩
theorem E.slices_Compact_int_int : EntOk Try.prog G F.slices_Compact_int_int (.rc RC.slices_Compact_int_int) := ⟨Try.f51, by unfold F.slices_Compact_int_int; exact Try.func51, by kernel_rfl, by kernel_rfl⟩
theorem E.diff_some_1 : EntOk Try.prog G F.diff_some_1 (.rc RC.diff_some_1) := ⟨Try.f52, by unfold F.diff_some_1; exact Try.func52, by kernel_rfl, by kernel_rfl⟩
theorem E.slices_Equal_api_Piece_api_Piece : EntOk Try.prog G F.slices_Equal_api_Piece_api_Piece (.rc RC.slices_Equal_api_Piece_api_Piece) := ⟨Try.f53, by unfold F.slices_Equal_api_Piece_api_Piece; exact Try.func53, by kernel_rfl, by kernel_rfl⟩
theorem E.slices_BinarySearchFunc_api_Place_api_Place_int : EntOk Try.prog G F.slices_BinarySearchFunc_api_Place_api_Place_int (.rc RC.slices_BinarySearchFunc_api_Place_api_Place_int) := ⟨Try.f54, by unfold F.slices_BinarySearchFunc_api_Place_api_Place_int; exact Try.func54, by kernel_rfl, by kernel_rfl⟩
theorem E.plan_find_1 : EntOk Try.prog G F.plan_find_1 (.rc RC.plan_find_1) := ⟨Try.f55, by unfold F.plan_find_1; exact Try.func55, by kernel_rfl, by kernel_rfl⟩
theorem E.cmp_Compare_int : EntOk Try.prog G F.cmp_Compare_int (.rc RC.cmp_Compare_int) := ⟨Try.f56, by unfold F.cmp_Compare_int; exact Try.func56, by kernel_rfl, by kernel_rfl⟩
theorem E.mask_All : EntOk Try.prog G F.mask_All (.rc RC.mask_All) := ⟨Try.f57, by unfold F.mask_All; exact Try.func57, by kernel_rfl, by kernel_rfl⟩
theorem E.math_bits_OnesCount64 : EntOk Try.prog G F.math_bits_OnesCount64 (.rc RC.math_bits_OnesCount64) := ⟨Try.f58, by unfold F.math_bits_OnesCount64; exact Try.func58, by kernel_rfl, by kernel_rfl⟩
theorem E.maps_Keys_map_int_api_Place_int_api_Place_1 : EntOk Try.prog G F.maps_Keys_map_int_api_Place_int_api_Place_1 (.rc RC.maps_Keys_map_int_api_Place_int_api_Place_1) := ⟨Try.f60, by unfold F.maps_Keys_map_int_api_Place_int_api_Place_1; exact Try.func60, by kernel_rfl, by kernel_rfl⟩
theorem E.slices_IndexFunc_int_int : EntOk Try.prog G F.slices_IndexFunc_int_int (.rc RC.slices_IndexFunc_int_int) := ⟨Try.f63, by unfold F.slices_IndexFunc_int_int; exact Try.func63, by kernel_rfl, by kernel_rfl⟩
theorem E.cmp_isNaN_int : EntOk Try.prog G F.cmp_isNaN_int (.rc RC.cmp_isNaN_int) := ⟨Try.f64, by unfold F.cmp_isNaN_int; exact Try.func64, by kernel_rfl, by kernel_rfl⟩
theorem E.mask_frame : EntOk Try.prog G F.mask_frame (.rc RC.mask_frame) := ⟨Try.f65, by unfold F.mask_frame; exact Try.func65, by kernel_rfl, by kernel_rfl⟩
theorem E.slices_Sorted_int : EntOk Try.prog G F.slices_Sorted_int (.ext X.sk) := ⟨⟨Try.f47, by unfold F.slices_Sorted_int; exact Try.func47, by kernel_rfl, by kernel_rfl⟩, X.sk_frame, by unfold F.slices_Sorted_int; exact X.sk_sim⟩
theorem E.slices_Sort_int_int : EntOk Try.prog G F.slices_Sort_int_int (.ext X.so) := ⟨⟨Try.f49, by unfold F.slices_Sort_int_int; exact Try.func49, by kernel_rfl, by kernel_rfl⟩, X.so_frame, by unfold F.slices_Sort_int_int; exact X.so_sim⟩
theorem ents : EntsOk Try.prog G tab0 := ⟨E.law26_StageLate, E.law26_StageNobody, E.stage_New, E.stage_Stage_Staged, E.law16_Light, E.stage_Stage_Active, E.stage_Stage_Set, E.ref16_Same, E.stage_Stage_Turn, E.law26_awake, E.law26_one, E.stage_Stage_Cut, E.stage_Stage_Fresh, E.stage_Stage_Turns, E.plan_Check, E.stage_Stage_none, E.stage_own, E.ref16_SamePlace, E.diff_Moved, E.plan_Find, E.plan_Drop, E.plan_Same, E.plan_place, E.plan_apart, E.plan_Splits, E.plan_Cores, E.plan_left, E.diff_some, E.diff_Moved_1, E.diff_moved, E.plan_find, E.slices_Clone_api_Piece_api_Piece, E.plan_clone, E.slices_Delete_api_Place_api_Place, E.slices_EqualFunc_api_Place_api_Place_api_Place_api_Place, E.plan_SamePlace, E.order_Kind, E.plan_split, E.plan_pieces, E.plan_has, E.mask_Count, E.plan_Windows, E.plan_Wholes, E.diff_places, E.maps_Keys_map_int_api_Place_int_api_Place, E.slices_DeleteFunc_int_int, E.slices_Compact_int_int, E.diff_some_1, E.slices_Equal_api_Piece_api_Piece, E.slices_BinarySearchFunc_api_Place_api_Place_int, E.plan_find_1, E.cmp_Compare_int, E.mask_All, E.math_bits_OnesCount64, E.maps_Keys_map_int_api_Place_int_api_Place_1, E.slices_IndexFunc_int_int, E.cmp_isNaN_int, E.mask_frame, E.slices_Sorted_int, E.slices_Sort_int_int, trivial⟩
theorem tabOk0 : TabOk Try.prog G R0 := TabOk.of ents
theorem C.law26_awake : EntOk Try.prog G F.law26_awake (.ext X.ok) := X.ok_sim (const_sim hmix tabOk0 (n := 1000) (by kernel_rfl))
theorem tabOk : TabOk Try.prog G R := TabOk.of (l := tab) (⟨C.law26_awake, ents⟩)
end Go.Am


/- Blocks, by their numbers: loads and stores as what they do to a block's cells. -/
set_option linter.unusedVariables false
namespace Go.Am

def ldW : Option AObj → Nat → Option Value
  | some (.cells c _), o => c[o]?
  | _, _ => none
def ldA : Option AObj → Nat → Nat → Option Value
  | some (.cells c _), o, sz => if o + sz ≤ c.length then some (.agg ((c.drop o).take sz).toArray) else none
  | _, _, _ => none
def stB (m : Mem) (b : Nat) : Option AObj → Nat → List Value → Option Mem
  | some (.cells c (some u)), o, vs => if o + vs.length ≤ c.length ∧ oneCells vs = true then some (m.set b (some (.cells (writeL c o vs) (some u)))) else none
  | _, _, _ => none

theorem ldW_c {c : List Value} {own : Option Nat} {o : Nat} : ldW (some (.cells c own)) o = c[o]? := rfl
theorem ldA_c {c : List Value} {own : Option Nat} {o sz : Nat} : ldA (some (.cells c own)) o sz = if o + sz ≤ c.length then some (.agg ((c.drop o).take sz).toArray) else none := rfl
theorem stB_c {m : Mem} {b u o : Nat} {c vs : List Value} : stB m b (some (.cells c (some u))) o vs = if o + vs.length ≤ c.length ∧ oneCells vs = true then some (m.set b (some (.cells (writeL c o vs) (some u)))) else none := rfl

theorem load_w {m : Mem} {sz b o : Nat} : aLoad false sz m (.pointer (some ⟨b, o, none⟩)) = ldW (m.blk b) o := by
  simp only [aLoad, Bool.false_eq_true, if_false]
  unfold ldW
  split <;> simp_all
theorem load_a {m : Mem} {sz b o : Nat} : aLoad true sz m (.pointer (some ⟨b, o, none⟩)) = ldA (m.blk b) o sz := by
  simp only [aLoad, if_true]
  unfold ldA
  split <;> simp_all
theorem store_b {m : Mem} {sz b o : Nat} {v : Value} : aStore sz m (.pointer (some ⟨b, o, none⟩)) v = if v.cells.size = sz then stB m b (m.blk b) o v.cells.toList else none := by
  simp only [aStore]
  split
  · unfold aWrite stB
    split <;> simp_all
  · rfl
theorem idxS_b {u b o n c : Nat} {k : IntKind} {i : Int} : aIdxS u (.slice (some ⟨b, o, none⟩) n c) (.int k i) = if 0 ≤ i ∧ i < n then some (.pointer (some ⟨b, o + i.toNat * u, none⟩)) else none := rfl
theorem set_blk {m : Mem} {b k : Nat} {o : Option AObj} : (m.set b o).blk k = if k = b then o else m.blk k := rfl
theorem new_blk {m : Mem} {k : Nat} {o : AObj} : (m.new o).blk k = if k = m.next then some o else m.blk k := rfl
theorem set_next {m : Mem} {b : Nat} {o : Option AObj} : (m.set b o).next = m.next := rfl
theorem new_next {m : Mem} {o : AObj} : (m.new o).next = m.next + 1 := rfl
theorem len_s {a : Option Addr} {n c : Nat} : aLen (.slice a n c) = some (.int .i64 n) := rfl
theorem writeL_one {cs : List Value} {i : Nat} {v : Value} (h : i < cs.length) : writeL cs i [v] = cs.set i v := writeL_set h
theorem toArr_one {v : Value} : (#[v] : Array Value).toList = [v] := rfl
theorem size_one {v : Value} : (#[v] : Array Value).size = 1 := rfl
theorem toList_toArr {l : List Value} : l.toArray.toList = l := rfl
theorem size_toArr {l : List Value} : l.toArray.size = l.length := by simp

/-- What is at these blocks may have changed; all else is as it was. -/
structure Upd (m m' : Mem) (fp : List Nat) : Prop where
  next : m.next ≤ m'.next
  same : ∀ b, b < m.next → b ∉ fp → m'.blk b = m.blk b

theorem Upd.refl (m : Mem) (fp : List Nat) : Upd m m fp := ⟨Nat.le_refl _, fun _ _ _ => rfl⟩
theorem Upd.trans {a b c : Mem} {fp fq fr : List Nat} (h : Upd a b fp) (k : Upd b c fq) (h1 : ∀ x ∈ fp, x ∈ fr) (h2 : ∀ x ∈ fq, x ∈ fr ∨ a.next ≤ x) : Upd a c fr :=
  ⟨Nat.le_trans h.next k.next, fun x hx hn => by
    rw [k.same x (Nat.lt_of_lt_of_le hx h.next) (fun hm => by rcases h2 x hm with h3 | h3; exact hn h3; omega), h.same x hx (fun hm => hn (h1 x hm))]⟩
theorem Ext.upd {m m' : Mem} (h : Ext m m') {fp : List Nat} : Upd m m' fp := ⟨h.next, fun b hb _ => h.same b hb⟩
theorem Upd.ext {m m' : Mem} (h : Upd m m' []) : Ext m m' := ⟨h.next, fun b hb => h.same b hb (by simp)⟩
theorem Upd.set {m : Mem} {b : Nat} {o : Option AObj} {fp : List Nat} (h : b ∈ fp) : Upd m (m.set b o) fp :=
  ⟨Nat.le_refl _, fun x hx hn => by rw [set_blk, if_neg (fun e => hn (by rw [e]; exact h))]⟩
/-- Only blocks from some number on have changed. -/
theorem Upd.ext_of {m0 m m' : Mem} {fp : List Nat} (h0 : Ext m0 m) (h : Upd m m' fp) (hf : ∀ x ∈ fp, m0.next ≤ x) : Ext m0 m' :=
  ⟨Nat.le_trans h0.next h.next, fun b hb => by
    rw [h.same b (Nat.lt_of_lt_of_le hb h0.next) (fun hm => by have := hf b hm; omega), h0.same b hb]⟩
end Go.Am


/- More of slices that grow: whole slices put behind. -/
set_option linter.unusedVariables false
namespace Go.Am

theorem Sl.src {m : Mem} {u k : Nat} {xs : List Value} {x : Value} (h : Sl m u k xs x) : aSrc u k m x = some xs ∧ sliceLen x = some k := by
  cases h with
  | nil h hc => subst h; subst hc; exact ⟨rfl, rfl⟩
  | «at» hc h =>
    refine ⟨?_, rfl⟩
    simp only [aSrc]
    split
    · rename_i e; subst e
      have := aCells_len h
      rw [Nat.zero_mul] at this
      rw [List.eq_nil_of_length_eq_zero this]
    · rw [if_pos (Nat.le_refl _)]; exact h

/-- All of a slice behind one's own. -/
theorem Own.appAll {m0 m : Mem} {u n k by_ : Nat} {cs xs : List Value} {v x : Value} (h : Own m0 m u n cs v) (hx : Ext m0 m) (hs : Sl m u k xs x) (h1 : oneCells xs = true) (hby : (n + k) * by_ ≤ 2 ^ 47) (hn : n + k < 2 ^ 62) (hfull : ∀ a p q, v = .slice a p q → p = q) :
    ∃ v' m', aApp none u by_ m v x = some (v', m') ∧ Own m0 m' u (n + k) (cs ++ xs) v' ∧ Ext m0 m' := by
  obtain ⟨hsrc, hlen⟩ := hs.src
  have hxl := hs.length
  cases h with
  | nil h hc =>
    subst h; subst hc
    by_cases hk : k = 0
    · subst hk
      refine ⟨.slice none 0 0, m, by simp [aApp, hlen, hsrc], .nil rfl ?_, hx⟩
      rw [Nat.zero_mul] at hxl
      rw [List.eq_nil_of_length_eq_zero hxl]; rfl
    · refine ⟨.slice (some ⟨m.next, 0, none⟩) k k, m.new (.cells xs (some u)), ?_, ?_, hx.trans Ext.new⟩
      · simp only [aApp, hlen, Option.bind_some, hsrc, hk, if_false]
        rw [if_pos ⟨by simpa using hby, by simpa using hn, h1⟩]
        rfl
      · rw [Nat.zero_add, List.nil_append]
        exact .at (all := xs) hx.next (by simp [Mem.new]) (Nat.le_refl _) (by simp [Mem.new]) hxl (by rw [← hxl, List.take_length]) h1
  | @«at» b c all hb hb2 hnc hm hl hcs hone =>
    by_cases hk : k = 0
    · subst hk
      rw [Nat.zero_mul] at hxl
      have hxs := List.eq_nil_of_length_eq_zero hxl
      subst hxs
      refine ⟨.slice (some ⟨b, 0, none⟩) n c, m, ?_, by rw [List.append_nil]; exact .at hb hb2 hnc hm hl hcs hone, hx⟩
      simp only [aApp, hlen, Option.bind_some, hsrc, if_true]
      rw [if_pos ⟨hnc, by rw [hm]; rfl⟩]
    · by_cases hroom : n + k ≤ c
      · have hle : n * u + k * u ≤ c * u := by rw [← Nat.add_mul]; exact Nat.mul_le_mul_right _ hroom
        refine ⟨.slice (some ⟨b, 0, none⟩) (n + k) c, m.set b (some (.cells (writeL all (n * u) xs) (some u))), ?_, ?_, hx.set hb⟩
        · simp only [aApp, hlen, Option.bind_some, hsrc, hk, if_false, Nat.zero_add]
          rw [if_pos hroom]
          unfold aWrite
          rw [hm]
          simp only
          rw [if_pos ⟨by omega, h1⟩]; rfl
        · refine .at (all := writeL all (n * u) xs) hb (by simpa [Mem.set] using hb2) hroom (by simp [Mem.set]) ?_ ?_ (oneCells_append hone h1)
          · unfold writeL; simp; omega
          · unfold writeL
            rw [Nat.add_mul, List.append_assoc, List.take_append]
            have e : (all.take (n * u)).length = n * u := by simp; omega
            rw [e, List.take_of_length_le (by omega), show n * u + k * u - n * u = xs.length by omega, List.take_left, hcs]
      · have hcn : n = c := hfull _ _ _ rfl
        subst hcn
        have hall : all.take (n * u) = all := by rw [← hl, List.take_length]
        rw [hall] at hcs
        subst hcs
        refine ⟨.slice (some ⟨m.next, 0, none⟩) (n + k) (n + k), (m.set b none).new (.cells (all ++ xs) (some u)), ?_, ?_, (hx.set hb).trans Ext.new⟩
        · simp only [aApp, hlen, Option.bind_some, hsrc, hk, if_false, Nat.zero_add]
          rw [if_neg hroom, hm]
          simp only [List.drop_zero, hall]
          rw [if_pos ⟨hby, hn, h1, hone, Nat.le_refl _, by omega, .inr ⟨by first | rfl | trivial, .inr (by first | rfl | trivial)⟩⟩]
          simp only [Option.isSome_some, true_and, hl, if_true, place]
          rfl
        · refine .at (all := all ++ xs) (by have := hx.next; omega) (by simp [Mem.new, Mem.set]) (Nat.le_refl _) (by simp [Mem.new, Mem.set]) (by simp [hl, hxl, Nat.add_mul]) ?_ (oneCells_append hone h1)
          rw [Nat.add_mul, List.take_of_length_le (by simp; omega)]

/-- A slice, copied: what stands behind an empty one. -/
theorem app_copy {m : Mem} {u k by_ : Nat} {xs : List Value} {x : Value} (hs : Sl (m.new (.cells [] (some u))) u k xs x) (h1 : oneCells xs = true) (hby : k * by_ ≤ 2 ^ 47) (hn : k < 2 ^ 62) :
    ∃ v' m', aApp none u by_ (m.new (.cells [] (some u))) (.slice (some ⟨m.next, 0, none⟩) 0 0) x = some (v', m') ∧ Own m m' u k xs v' ∧ Ext m m' := by
  have ho : Own m (m.new (.cells [] (some u))) u 0 [] (.slice (some ⟨m.next, 0, none⟩) 0 0) :=
    .at (all := []) (Nat.le_refl _) (by simp [Mem.new]) (Nat.le_refl _) (by simp [Mem.new]) (by simp) (by simp) rfl
  have := ho.appAll (by_ := by_) Ext.new hs h1 (by simpa using hby) (by simpa using hn) (by intro a p q h; cases h; rfl)
  simpa using this

/-- The same, with where it stands. -/
theorem app_copy_at {m : Mem} {u k by_ : Nat} {xs : List Value} {x : Value} (hs : Sl (m.new (.cells [] (some u))) u k xs x) (h1 : oneCells xs = true) (hby : k * by_ ≤ 2 ^ 47) (hn : k < 2 ^ 62) (hk : k ≠ 0) :
    ∃ m', aApp none u by_ (m.new (.cells [] (some u))) (.slice (some ⟨m.next, 0, none⟩) 0 0) x = some (.slice (some ⟨m.next + 1, 0, none⟩) k k, m') ∧ m'.blk (m.next + 1) = some (.cells xs (some u)) ∧ m'.next = m.next + 2 ∧ Ext m m' := by
  obtain ⟨hsrc, hlen⟩ := hs.src
  refine ⟨((m.new (.cells [] (some u))).set m.next none).new (.cells xs (some u)), ?_, by simp [Mem.new, Mem.set], by simp [Mem.new, Mem.set], (Ext.new.set (Nat.le_refl _)).trans Ext.new⟩
  have hb : (m.new (.cells [] (some u))).blk m.next = some (.cells [] (some u)) := by simp [Mem.new]
  simp only [aApp, hlen, Option.bind_some, hsrc, hk, if_false, Nat.zero_add]
  rw [if_neg (by omega), hb]
  simp only [List.drop_nil, List.take_nil, Nat.zero_mul, List.length_nil, List.nil_append]
  rw [if_pos ⟨by simpa using hby, by simpa using hn, h1, by first | rfl | trivial, Nat.le_refl _, Nat.le_refl _, .inr ⟨by first | rfl | trivial, .inr (by first | rfl | trivial)⟩⟩]
  simp [place, Mem.new, Mem.set]
  rfl

/-- The same behind nothing. -/
theorem app_nil {m : Mem} {u k by_ : Nat} {xs : List Value} {x : Value} (hs : Sl m u k xs x) (h1 : oneCells xs = true) (hby : k * by_ ≤ 2 ^ 47) (hn : k < 2 ^ 62) :
    ∃ v' m', aApp none u by_ m (.slice none 0 0) x = some (v', m') ∧ Own m m' u k xs v' ∧ Ext m m' := by
  have ho : Own m m u 0 [] (.slice none 0 0) := .nil rfl rfl
  have := ho.appAll (by_ := by_) (Ext.refl _) hs h1 (by simpa using hby) (by simpa using hn) (by intro a p q h; cases h; rfl)
  simpa using this

/-- A slice whose block is none of some. -/
def SlOff (fp : List Nat) : Value → Prop
  | .slice (some a) _ _ => a.block ∉ fp
  | _ => True

theorem Sl.upd {m m' : Mem} {u n : Nat} {cs : List Value} {v : Value} {fp : List Nat} (h : Sl m u n cs v) (hb : SlLt m v) (ho : SlOff fp v) (hx : Upd m m' fp) : Sl m' u n cs v := by
  cases h with
  | nil h hc => exact .nil h hc
  | «at» hc h =>
    refine .at hc ?_
    unfold aCells at h ⊢
    rw [hx.same _ hb ho]; exact h

theorem SlLt.upd {m m' : Mem} {v : Value} {fp : List Nat} (h : SlLt m v) (hx : Upd m m' fp) : SlLt m' v := by
  unfold SlLt at *
  split <;> simp_all
  exact Nat.lt_of_lt_of_le h hx.next

theorem Own.lt {m0 m : Mem} {u n : Nat} {cs : List Value} {v : Value} (h : Own m0 m u n cs v) : SlLt m v := by
  cases h with
  | nil h hc => trivial
  | «at» hb hb2 hn hm hl hcs h1 => exact hb2
theorem Own.off {m0 m : Mem} {u n : Nat} {cs : List Value} {v : Value} {fp : List Nat} (h : Own m0 m u n cs v) (hf : ∀ x ∈ fp, x < m0.next) : SlOff fp v := by
  cases h with
  | nil h hc => trivial
  | «at» hb hb2 hn hm hl hcs h1 => intro hm; have := hf _ hm; simp only at this; omega

/-- One more behind one's own, where the new block's number is given. -/
theorem Own.appAt {m0 m : Mem} {u n by_ q : Nat} {cs xs : List Value} {v x : Value} (h : Own m0 m u n cs v) (hx : Ext m0 m) (hs : Sl m u 1 xs x) (h1 : oneCells xs = true) (hby : (n + 1) * by_ ≤ 2 ^ 47) (hn : n + 1 < 2 ^ 62) (hq : m0.next ≤ q) (hq2 : q < m.next) (ho : SlOff [q] v) :
    ∃ v' m', aApp (some q) u by_ m v x = some (v', m') ∧ Own m0 m' u (n + 1) (cs ++ xs) v' ∧ Ext m0 m' := by
  obtain ⟨hsrc, hlen⟩ := hs.src
  have hxl := hs.length
  cases h with
  | nil h hc =>
    subst h; subst hc
    refine ⟨.slice (some ⟨q, 0, none⟩) 1 1, m.set q (some (.cells xs (some u))), ?_, ?_, hx.set hq⟩
    · simp only [aApp, hlen, Option.bind_some, hsrc, Nat.one_ne_zero, if_false]
      rw [if_pos ⟨by simpa using hby, by simp, h1⟩]
      rfl
    · rw [Nat.zero_add, List.nil_append]
      exact .at (all := xs) hq (by simpa [Mem.set] using hq2) (Nat.le_refl _) (by simp [Mem.set]) hxl (by rw [← hxl, List.take_length]) h1
  | @«at» b c all hb hb2 hnc hm hl hcs hone =>
    have hbq : b ≠ q := by intro e; subst e; simp [SlOff] at ho
    by_cases hroom : n + 1 ≤ c
    · have hle : n * u + 1 * u ≤ c * u := by rw [← Nat.add_mul]; exact Nat.mul_le_mul_right _ hroom
      refine ⟨.slice (some ⟨b, 0, none⟩) (n + 1) c, m.set b (some (.cells (writeL all (n * u) xs) (some u))), ?_, ?_, hx.set hb⟩
      · simp only [aApp, hlen, Option.bind_some, hsrc, Nat.one_ne_zero, if_false, Nat.zero_add]
        rw [if_pos hroom]
        unfold aWrite
        rw [hm]
        simp only
        rw [if_pos ⟨by omega, h1⟩]; rfl
      · refine .at (all := writeL all (n * u) xs) hb (by simpa [Mem.set] using hb2) hroom (by simp [Mem.set]) ?_ ?_ (oneCells_append hone h1)
        · unfold writeL; simp; omega
        · unfold writeL
          rw [Nat.add_mul, List.append_assoc, List.take_append]
          have e : (all.take (n * u)).length = n * u := by simp; omega
          rw [e, List.take_of_length_le (by omega), show n * u + 1 * u - n * u = xs.length by omega, List.take_left, hcs]
    · have hcn : n = c := by omega
      subst hcn
      have hall : all.take (n * u) = all := by rw [← hl, List.take_length]
      rw [hall] at hcs
      subst hcs
      refine ⟨.slice (some ⟨q, 0, none⟩) (n + 1) (n + 1), (m.set b none).set q (some (.cells (all ++ xs) (some u))), ?_, ?_, (hx.set hb).set hq⟩
      · simp only [aApp, hlen, Option.bind_some, hsrc, Nat.one_ne_zero, if_false, Nat.zero_add]
        rw [if_neg hroom, hm]
        simp only [List.drop_zero, hall]
        rw [if_pos ⟨hby, hn, h1, hone, Nat.le_refl _, by omega, .inr ⟨by first | rfl | trivial, .inr (by first | rfl | trivial)⟩⟩]
        simp only [Option.isSome_some, true_and, hl, if_true, place]
      · refine .at (all := all ++ xs) hq (by simpa [Mem.set] using hq2) (Nat.le_refl _) (by simp [Mem.set]) (by simp [hl, hxl, Nat.add_mul]) ?_ (oneCells_append hone h1)
        rw [Nat.add_mul, List.take_of_length_le (by simp; omega)]

/-- The same in an open order. -/
theorem Own.appD {m0 m : Mem} {u n by_ N s t : Nat} {cs es : List Value} {v : Value} (h : Own m0 m u n cs v) (hx : Ext m0 m) (he : es.length = u) (h1 : oneCells es = true) (hby : (n + 1) * by_ ≤ 2 ^ 47) (hn : n + 1 < 2 ^ 62) (hs : s < N) (ht : t < N) :
    ∃ v' m', aApp (some (m.next + t)) u by_ ((m.bump N).set (m.next + s) (some (.cells es (some u)))) v (.slice (some ⟨m.next + s, 0, none⟩) 1 1) = some (v', m') ∧ Own m0 m' u (n + 1) (cs ++ es) v' ∧ Ext m0 m' := by
  have hX : Ext m ((m.bump N).set (m.next + s) (some (.cells es (some u)))) := by
    refine Ext.set ⟨by simp, fun b hb => rfl⟩ (by omega)
  refine (h.keep hX).appAt (hx.trans hX) ?_ h1 hby hn (by have := hx.next; omega) (by simp [Mem.set]; omega) ?_
  · refine .at (Nat.le_refl _) ?_
    unfold aCells
    simp only [Mem.set, if_true, Nat.zero_add, List.drop_zero]
    rw [if_pos (by omega), Nat.one_mul, ← he, List.take_length]
  · have := h.lt
    revert this
    cases v <;> simp only [SlOff, SlLt] <;> try (intros; trivial)
    rename_i b _ _
    cases b <;> simp only [] <;> try (intros; trivial)
    intro h; simp; omega

/-- What a loop leaves may be told ahead, and used later. -/
theorem WL.mono {R : Nat → Option FEnt} {ks : List Nat} {c : RCode} {e : Env} {m : Mem} {Q Q' : Ex → Env → Mem → Prop} (h : WL R ks c e m Q) (hq : ∀ x e m, Q x e m → Q' x e m) : WL R ks c e m Q' := by
  intro Z hZ
  refine h Z fun e m hz => hZ e m (wp.mono (fun x e' m' hx => ?_) hz)
  exact onNormal.mono (fun _ _ _ h => hq _ _ _ h) (fun e m h => h) hx

theorem watchOk_nil {e : Env} {m m' : Mem} : watchOk e m m' [] = True := (rfl)
theorem watchOk_cons {e : Env} {m m' : Mem} {x : Nat} {r : List Nat} : watchOk e m m' (x :: r) = ((match Env.get e x with | some v => (match blkOf v with | some b => m'.blk b = m.blk b | none => True) | none => False) ∧ watchOk e m m' r) := (rfl)
theorem blkOf_ptr {b o : Nat} : blkOf (.pointer (some ⟨b, o, none⟩)) = some b := (rfl)
theorem blkOf_undef : blkOf undef = none := (rfl)
theorem blkOf_int {k : IntKind} {a : Int} : blkOf (.int k a) = none := (rfl)
attribute [go_sem] watchOk_nil watchOk_cons blkOf_ptr blkOf_undef blkOf_int
theorem load_bump {w : Bool} {u n : Nat} {m : Mem} {p : Value} : aLoad w u (m.bump n) p = aLoad w u m p := (rfl)
theorem blk_bump {n : Nat} {m : Mem} : (m.bump n).blk = m.blk := (rfl)
attribute [go_sem] load_bump blk_bump
theorem Ext.bump {m : Mem} {n : Nat} : Ext m (m.bump n) := ⟨by simp, fun b hb => rfl⟩

/-! ### parts of slices, copies -/

theorem unitOk_own {m : Mem} {b u : Nat} {cs : List Value} (h : m.blk b = some (.cells cs (some u))) : unitOk u m b = true := by unfold unitOk; rw [h]; simp

theorem sub_from {m : Mem} {b o n c u : Nat} {k : IntKind} {i : Nat} (hu : unitOk u m b = true) (h : i ≤ n) (hc : n ≤ c) :
    aSub u m (.slice (some ⟨b, o, none⟩) n c) (some (.int k i)) none none = some (.slice (some ⟨b, o + i * u, none⟩) (n - i) (c - i)) := by
  simp only [aSub, hu, if_true, aBounds, aBound]
  simp [h, cutAt, hc, Int.toNat_natCast]

theorem sub_to {m : Mem} {b o n c u : Nat} {k : IntKind} {i : Nat} (hu : unitOk u m b = true) (h : i ≤ c) :
    aSub u m (.slice (some ⟨b, o, none⟩) n c) none (some (.int k i)) none = some (.slice (some ⟨b, o, none⟩) i c) := by
  simp only [aSub, hu, if_true, aBounds, aBound]
  simp [h, cutAt, Int.toNat_natCast]

theorem sub_both {m : Mem} {b o n c u : Nat} {k k' : IntKind} {i j : Nat} (hu : unitOk u m b = true) (h : i ≤ j) (hj : j ≤ c) :
    aSub u m (.slice (some ⟨b, o, none⟩) n c) (some (.int k i)) (some (.int k' j)) none = some (.slice (some ⟨b, o + i * u, none⟩) (j - i) (c - i)) := by
  simp only [aSub, hu, if_true, aBounds, aBound]
  simp [h, hj, cutAt, Int.toNat_natCast]

/-- A copy into one's own block. -/
theorem copy_into {m : Mem} {b o n c u k : Nat} {cs xs : List Value} {x : Value} (hm : m.blk b = some (.cells cs (some u))) (hs : aSrc u (Nat.min k n) m x = some xs) (hl : sliceLen x = some k) (h1 : oneCells xs = true) (hx : xs.length = (Nat.min k n) * u) (ho : o + n * u ≤ cs.length) :
    aCopy u m (.slice (some ⟨b, o, none⟩) n c) x = some (.int .i64 (Nat.min k n : Nat), m.set b (some (.cells (writeL cs o xs) (some u)))) := by
  have hd : sliceLen (.slice (some ⟨b, o, none⟩) n c) = some n := rfl
  simp only [aCopy, hd, hl, Option.bind_some, hs]
  have hle : (Nat.min k n) * u ≤ n * u := Nat.mul_le_mul_right _ (Nat.min_le_right _ _)
  by_cases h0 : Nat.min k n = 0
  · rw [if_pos h0, h0]
    rw [h0, Nat.zero_mul] at hx
    have := List.eq_nil_of_length_eq_zero hx
    subst this
    have e : writeL cs o [] = cs := by unfold writeL; simp
    rw [e]
    have : m.set b (some (.cells cs (some u))) = m := by
      unfold Mem.set; congr 1; funext q; split
      · rename_i e; subst e; exact hm.symm
      · rfl
    rw [this]; rfl
  · rw [if_neg h0]
    unfold aWrite
    rw [hm]
    simp only
    rw [if_pos ⟨by omega, h1⟩]; rfl

theorem make_eq {m : Mem} {u by_ n : Nat} {z : List Value} {k k' : IntKind} (h1 : n < 2 ^ 62) (h2 : n * by_ ≤ 2 ^ 47) (h3 : z.length = u) (h4 : oneCells z = true) :
    aMake none u by_ z m (.int k n) (.int k' n) = some (.slice (some ⟨m.next, 0, none⟩) n n, m.new (.cells (zeros z n) (some u))) := by
  simp only [aMake, place]
  rw [if_pos ⟨by omega, by omega, by omega, by omega, h3, h4⟩, Int.toNat_natCast]

theorem zeros_int {n : Nat} : zeros [.int .i64 0] n = intsZ (List.replicate n 0) := by
  induction n with
  | zero => rfl
  | succ n ih => simp [zeros, ih, intsZ, List.replicate_succ]

/-! ### elements of more than one cell -/

theorem flat_len {α : Type} {f : α → List Value} {u : Nat} (hf : ∀ a, (f a).length = u) : ∀ {l : List α}, (l.flatMap f).length = l.length * u
  | [] => by simp
  | a :: l => by rw [List.flatMap_cons, List.length_append, hf, flat_len hf, List.length_cons, Nat.succ_mul]; omega

theorem flat_drop {α : Type} {f : α → List Value} {u : Nat} (hf : ∀ a, (f a).length = u) : ∀ {l : List α} {i : Nat} (h : i < l.length), ((l.flatMap f).drop (i * u)).take u = f l[i]
  | a :: l, 0, _ => by rw [Nat.zero_mul, List.drop_zero, List.flatMap_cons, ← hf a, List.take_left]; rfl
  | a :: l, i + 1, h => by
    rw [List.flatMap_cons, show (i + 1) * u = (f a).length + i * u by rw [hf, Nat.succ_mul]; omega, ← List.drop_drop, List.drop_left, flat_drop hf (by simpa using h)]; rfl

/-- What is read of the i-th element. -/
theorem Sl.elem {α : Type} {f : α → List Value} {m : Mem} {u : Nat} {l : List α} {v : Value} (h : Sl m u l.length (l.flatMap f) v) (hf : ∀ a, (f a).length = u) {k : IntKind} {i : Nat} (hi : i < l.length) :
    ∃ b o, aIdxS u v (.int k i) = some (.pointer (some ⟨b, o, none⟩)) ∧ aLoad true u m (.pointer (some ⟨b, o, none⟩)) = some (.agg (f l[i]).toArray) ∧
      (∀ j, j < u → aLoad false 1 m (.pointer (some ⟨b, o + j, none⟩)) = (f l[i])[j]?) ∧ (SlLt m v → b < m.next) := by
  have hb : ∃ b o, aIdxS u v (.int k i) = some (.pointer (some ⟨b, o, none⟩)) ∧ (SlLt m v → b < m.next) := by
    cases h with
    | nil h hc => omega
    | @«at» b o c hc h =>
      refine ⟨b, o + i * u, ?_, fun h => h⟩
      simp only [aIdxS]; rw [if_pos (by omega), Int.toNat_natCast]
  obtain ⟨b, o, h1, h4⟩ := hb
  obtain ⟨b', o', h1', h2, h3⟩ := h.cell (k := k) hi
  rw [h1] at h1'
  cases h1'
  refine ⟨b, o, h1, by rw [h3, flat_drop hf hi], fun j hj => ?_, h4⟩
  rw [h2 j hj, ← flat_drop hf hi, List.getElem?_take, List.getElem?_drop, if_pos hj]

/-- A block that is there. -/
structure Bk (m : Mem) (b : Nat) (cs : List Value) (u : Nat) : Prop where
  at_ : m.blk b = some (.cells cs (some u))
  lt : b < m.next
theorem Bk.new {m : Mem} {cs : List Value} {u : Nat} : Bk (m.new (.cells cs (some u))) m.next cs u := ⟨by simp [Mem.new], by simp [Mem.new]⟩
theorem Bk.ne {m : Mem} {b u : Nat} {cs : List Value} (h : Bk m b cs u) : (b = m.next) = False := eq_false (Nat.ne_of_lt h.lt)
theorem Bk.keep {m m' : Mem} {b u : Nat} {cs : List Value} (h : Bk m b cs u) (hx : Ext m m') : Bk m' b cs u := ⟨by rw [hx.same _ h.lt]; exact h.at_, Nat.lt_of_lt_of_le h.lt hx.next⟩
theorem Bk.upd {m m' : Mem} {b u : Nat} {cs : List Value} {fp : List Nat} (h : Bk m b cs u) (hx : Upd m m' fp) (hn : b ∉ fp) : Bk m' b cs u := ⟨by rw [hx.same _ h.lt hn]; exact h.at_, Nat.lt_of_lt_of_le h.lt hx.next⟩
end Go.Am
